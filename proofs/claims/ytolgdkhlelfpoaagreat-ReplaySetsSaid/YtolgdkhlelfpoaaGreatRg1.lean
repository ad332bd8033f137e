/- Part 1 of what the laws' proofs lean on: states of the walk, typed functions of the program and their laws (short forms written by wip/shrink.py; no condition). -/
import Derived.Test.YtolgdkhlelfpoaaGreatRows
import Derived.WalkKit
import Derived.WalkSpells
import Derived.WalkLawsBesides
import Derived.Lib.Hide
import Derived.Laws.AppendOwnNone
import Derived.Laws.CopyOwn
import Derived.Lib.AppendStr
import Derived.Laws.IdiomStrings
import Derived.Laws.BitsAllLaws
import Derived.OrdersIn
import Derived.ControlIn
import Derived.TacticsIn
import Derived.ArgAppend
import Derived.RangeFuncLeaves
import Derived.RangeFuncRecord
import Derived.Laws.StructEq
import Derived.Laws.BytesString
import Derived.Lib.OwnBridge
import Derived.Sort.OwnSortedInts
import Derived.Lib.SliceRun
import Derived.ProofKit
import Derived.Deep.Slices
import Derived.Lib.SlicesCompact
import Derived.Test.YtolgdkhlelfpoaaGreatProg
import Derived.Shelf.Small.Bits
import Derived.Shelf.Small.Strs
import Derived.Shelf.Small.Wraps
import Derived.Shelf.Strconv.Itoa0
import Derived.Shelf.Strings.Search1
import Derived.Shelf.Strings.Search2
import Derived.Shelf.Strings.Cut
import Derived.Shelf.LaysM
import Derived.Shelf.Strings.Shaped
import Derived.Shelf.Sort.Plain
import Derived.Shelf.Slices.Turned
import Derived.Ground.Names2Prog
import Derived.Shelf.Slices.Clone
import Derived.Shelf.Slices.CompactI
import Derived.Shelf.Slices.SearchI
import Derived.Shelf.Slices.Cells
import Derived.Shelf.Slices.In.SortNone
import Derived.Shelf.Slices.Empties
import Derived.Ground.SlgnProg
import Derived.Shelf.SlicesE.Clone
import Derived.RangeFuncIn
import Derived.Scope
import Derived.Tactics
import Derived.Tactics2
import Derived.Defers
import Derived.Recover
import Derived.Laws.Pointers
import Derived.Shelf.SlLaysF0
import Derived.Shelf.SlSortCmp.NoneTotal
import Derived.Laws.IdiomRangeMap
import Derived.Laws.Small
import Derived.Laws.IdiomCopy
import Derived.Lib.Overlaps
import Derived.Lib.AppendZerosOnto
import Derived.Shelf.Spec.SlicesInsertGrow
import Derived.Laws.Bits64
import Derived.Lib.Bytealg
set_option linter.defProp false
set_option linter.unnecessarySimpa false
set_option linter.unusedVariables false
set_option linter.unusedSimpArgs false
namespace Go.Proofs.YtolgdkhlelfpoaaGreat
open Go.RowKit
def Ac:=@Option.bind_some
def BZ:=@cond_false
def Dn:=@List.getElem?_eq_getElem
def BX:=@congrArg
def Bg:=@cond_true
def EL:=@List.length_append
def D6:=@List.length_map
def Dw:=@Nat.le_of_ble_eq_true
def Cm:=@Option.some.inj
def DJ:=@Bool.and_eq_true
def Om:=@List.length_singleton
def FV:=@List.getElem?_eq_some_iff
def Fq:=@Array.getElem?_eq_some_iff
def Gt:=@List.eq_nil_of_length_eq_zero
def GH:=@List.getElem?_append_left
def ER:=@List.all_eq_true
def ET:=@List.getElem_mem
def Gu:=@Array.getD_eq_getD_getElem?
def Fa:=@List.length_take
def Fh:=@List.mem_map
def FI:=@Go.Result.andThen_ok
def E9:=@Nat.le_refl
def EW:=@Bool.not_true
def FB:=@Go.Proofs.Tryz.underlying3
def Ej:=@Nat.le_trans
def GY:=@List.take_length
def Fp:=@List.length_cons
def Js:=@Array.getElem?_setIfInBounds_ne
def NP:=@Nat.add_assoc
def GR:=@List.mem_cons_self
def Fv:=@List.not_mem_nil
def D7:=@if_pos
def EY:=@Nat.zero_le
def Hr:=@List.mem_cons_of_mem
def F6:=@List.mem_cons
def II:=@List.getElem?_eq_none
def Jd:=@List.getElem?_append_right
def DF:=@if_neg
def Gi:=@decide_eq_true_eq
def G6:=@List.foldl_cons
def F7:=@Go.Sem.run_bind
def Ph:=@Nat.add_comm
def H7:=@List.append_assoc
def Fe:=@Bool.true_and
def KY:=@List.pairwise_iff_getElem
def Hd:=@List.any_eq_true
def Gn:=@List.mem_filter
def Ii:=@List.getElem_of_mem
def IC:=@Go.Proofs.Tryz.underlying55
def LV:=@List.drop_eq_getElem_cons
def IE:=@List.nil_append
def Kt:=@List.length_filter_le
def Fr:=@Go.Sem.run_pure
def Oe:=@List.take_succ_eq_append_getElem
def Ja:=@Nat.mul_le_mul_right
def I8:=@List.mem_append
def IB:=@Option.map_some
def QF:=@Array.all_eq_true_iff_forall_mem
def J9:=@List.getElem?_map
def NI:=@List.getElem?_take_of_lt
def Lm:=@List.length_nil
def Ir:=@decide_eq_false
def IX:=@Bool.not_false
def KG:=@of_decide_eq_false
def Ib:=@decide_eq_true
def JV:=@Go.Proofs.Tryz.underlying9
def KQ:=@List.mem_singleton
def JY:=@Go.RowKit.Below.heap_alloc
def Ky:=@Go.Proofs.Tryz.underlying49
abbrev BA:=IntKind.i64.wrap
def bP (n:Int):BA n=(n+9223372036854775808)%18446744073709551616-9223372036854775808:=Go.IntKind.wrap_i64 n
def Jo:=@List.map_append
def LJ:=@Option.some.injEq
def Kz:=@Bool.not_eq_true
def L6:=@List.length_drop
def OC:=@Array.getElem?_modify
def MF:=@Go.Proofs.Tryz.underlying51
def J4:=@Nat.zero_add
def MC:=@Option.getD_some
def Qy:=@Option.isSome_iff_exists
def PW:=@List.take_of_length_le
def Qa:=@Go.MapKept.run_getObj_map
def Ko:=@List.map_cons
def KP:=@Bool.or_false
def NC:=@List.nodup_cons
def Nw:=@List.flatMap_cons
def PS:=@List.filter_append
def Oh:=@List.getElem?_drop
def Ol:=@List.pairwise_cons
def U9:=@List.mem_of_find?_eq_some
def OV:=@List.drop_length
def Ll:=@Bool.false_or
def Pj:=@Option.toList_some
def RN:=@List.filterMap_cons
def Td:=@Option.map_eq_some_iff
def RG:=@Bool.false_eq_true
def Zf:=@Array.eq_empty_of_size_eq_zero
def Ry:=@Array.length_toList
def TT:=@List.filter_sublist
def Xi:=@Array.getElem?_append_left
def NV:=@Bool.and_true
def RZ:=@Bool.not_eq_true'
def WY:=@List.getElem?_set_ne
def Xu:=@Classical.byContradiction
def Rw:=@List.mem_filterMap
def VP:=@Go.World.putObj_heap_same
def Pm:=@List.append_nil
def QM:=@Bool.eq_iff_iff
def Qr:=@Go.Proofs.Tryz.underlying4
def RJ:=@List.filter_cons
def TF:=@List.findIdx_cons
def TN:=@List.take_add_one
def Xy:=@Go.World.putObj_heap_other
def QD:=@Go.Oper.wpIn_mono
def WJ:=@List.mem_of_getElem?
def OE:=@Nat.add_zero
def O1:=@Bool.or_true
def Jg:=@if_false
def Uz:=@Nat.lt_of_lt_of_le
def JQ:=@if_true
def Tq:=@Nat.le_of_not_lt
def UG:=@List.mem_flatMap
def UC:=@List.getElem_map
def TU:=@List.foldlM_cons
def Qc:=@Prod.mk.injEq
def uI:=@List.takeWhile_append_dropWhile
def Vy:=@List.foldl_append
def VZ:=@of_decide_eq_true
def lG:=@Array.getElem?_eq_getElem
def bF:=@List.take_append_drop
def ZQ:=@List.filterMap_append
def YD:=@Nat.eq_zero_or_pos
def PD:=@Go.wpS_region
def bY:=@Option.bind_eq_some_iff
def iG:=@decide_eq_false_iff_not
def wU:=@List.getD_eq_getElem?_getD
def XZ:=@Nat.lt_succ_self
def WT:=@List.cons_append
def lD:=@Array.toArray_toList
def Ty:=@Nat.succ_mul
def TV:=@Nat.mul_comm
def kN:=@Go.World.alloc_heap_new
def eS:=@List.mem_append_left
def Yq:=@Go.Proofs.Tryz.underlying22
def Zo:=@Int.toNat_natCast
def iK:=@List.length_pos_iff
def WU:=@Go.heap_alloc_new
def SN:=@beq_iff_eq
def wu:=@List.findIdx_lt_length
def iP:=@Go.Proofs.Tryz.underlying173
def jr:=@Go.Proofs.Tryz.underlying208
def oH:=@Array.getElem?_toList
def Zm:=@Go.Oper.upon_enter
def Zy:=@Go.Proofs.Tryz.zeroValue3
def ZM:=@Go.run_equalIn_int
def Yk:=@List.find?_cons
def YI:=@List.map_take
def iU:=@Go.Value.slice.injEq
def iW:=@List.size_toArray
def jg:=@List.ext_getElem?
def gV:=@Go.Proofs.Tryz.underlying24
def bg:=@Go.Proofs.Tryz.underlying53
def wo:=@Nat.div_lt_of_lt_mul
def uO:=@List.mem_of_mem_take
def aLb:=@List.set_eq_take_append_cons_drop
def aY:=@List.nodup_nil
def PL:=@Go.wpS_seq
def aQ:=@Go.wp_region_list
def fQ:=@Go.IntKind.wrap_u64
def dz:=@beq_self_eq_true
def wE:=@List.filter_eq_self
def lu:=@beq_eq_false_iff_ne
def aGZ:=@List.getElem?_cons_succ
def Yt:=@List.map_drop
def qJ:=@List.getElem?_take
def iJ:=@List.length_set
def U0:=@Go.wpIn_mono
def bV:=@Bool.or_eq_true
def dw:=@Go.Proofs.Tryz.zeroValue4
def uz:=@Array.ext_getElem?
def jJ:=@beq_false_of_ne
def kV:=@Go.IntKind.wrap_u8
def aF1:=@List.filter_eq_nil_iff
def Xl:=@Nat.add_mul
def yg:=@List.drop_of_length_le
def aBE:=@List.findIdx_le_length
def wG:=@Function.comp_def
def qV:=@List.find?_append
def tX:=@bne_self_eq_false
def Yf:=@Nat.le_of_eq
def Yv:=@Go.Proofs.Tryz.sizeOf3
def aM8:=@Array.getElem?_setIfInBounds
def Za:=@Nat.lt_or_ge
def aBZ:=@List.mem_append_right
def aHi:=@Array.getElem?_append_right
def ng:=@List.ext_getElem
def aFG:=@List.pairwise_append
def uy:=@Go.Proofs.Tryz.underlying5
def yu:=@Bool.or_eq_false_iff
def xk:=@decide_eq_decide
def aNF:=@Array.toList_setIfInBounds
def kE:=@Go.Oper.semAt_eq
def Yd:=@Nat.mul_one
def YP:=@Go.Proofs.Tryz.isAgg3
def aBG:=@List.toList_toArray
def aNV:=@Array.mapM_eq_mapM_toList
def wL:=@Nat.min_eq_left
def mD:=@Go.Proofs.Tryz.zeroValue5
def vV:=@Go.Proofs.Tryz.zeroValue9
def xO:=@List.take_left'
def aJk:=@List.getElem_append_left
def fV:=@Go.Proofs.Tryz.sizeOf4
def aFV:=@Go.Proofs.Tryz.underlying226
def cG:=@Go.Addr.add_lit
def aB4:=@List.find?_eq_none
def qB:=@List.mem_range
def pF:=@List.drop_zero
def aIP:=@Nat.exists_eq_add_of_le
def aMi:=@List.getElem?_replicate
def aMI:=@List.getElem?_cons_zero
def aE2:=@Go.World.ownsRow_nil
def zU:=@Go.Proofs.Tryz.underlying89
def aE5:=@Go.Proofs.Tryz.zeroValue226
def aAw:=@Nat.lt_trichotomy
def aEl:=@List.nodup_append
def aAz:=@List.getElem_take
def aC2:=@Go.Proofs.Tryz.underlying44
def aF4:=@Go.Proofs.Tryz.underlying45
def acy:=@List.findIdx?_eq_some_iff_getElem
def aMV:=@List.dropWhile_sublist
def iw:=@Go.Proofs.Tryz.isAgg4
def aHx:=@ByteArray.size_extract
def qx:=@List.any_cons
def yh:=@Go.Proofs.Tryz.zeroValue89
def zq:=@List.perm_middle
def ZV:=@Array.ext
def aIg:=@Nat.eq_of_beq_eq_true
def aLZ:=@Go.Lib.wpList_append_run
def aBz:=@Go.wpIn_region_any
def yT:=@Nat.div_add_mod
def kD:=@Nat.mod_lt
def su:=@List.map_map
def aJp:=@Array.ext'
def wX:=@getElem!_pos
def wO:=@Go.Proofs.Tryz.sizeOf5
def rF:=@Go.Proofs.Tryz.sizeOf9
def aaI:=@List.Nodup.length_le_of_subset
def aMU:=@List.mem_of_mem_drop
def aAs:=@List.find?_some
def aIA:=@List.findIdx_getElem
def xQ:=@Bool.not_not
def aKm:=@Go.callsIn_of_wp_marks
def aJS:=@Go.Lib.strCells_length
def aIZ:=@Array.getElem?_push
def aLO:=@List.reverse_append
def aCi:=@Go.run_underlying
def aB0:=@List.take_zero
def aBV:=@Go.Proofs.Tryz.sizeOf226
def aDe:=@Nat.mul_le_mul
def xY:=@Go.setRow_heap
def qj:=@Go.Sem.run_map
def mM:=@Go.Proofs.Tryz.isAgg5
def vM:=@Go.Proofs.Tryz.isAgg9
def aeC:=@Nat.min_def
def aJP:=@Go.run_loadCells_list
def aL4:=@Int.natCast_nonneg
def aNB:=@Go.MapKept.heap_alloc
def aKg:=@Nat.eq_or_lt_of_le
def aSt:=@List.dropWhile_cons_of_pos
def aaU:=@List.dropWhile_cons_of_neg
def aCG:=@Go.callsD_of_wpS
def adk:=@Int.fdiv_eq_ediv_of_nonneg
def aaE:=@List.nodup_iff_pairwise_ne
def aTr:=@Int.tmod_eq_emod_of_nonneg
def aMG:=@Bool.not_eq_false
def aNP:=@Go.run_storeCells_at
def aKx:=@List.pairwise_map
def aLR:=@List.any_eq_false
def adx:=@List.getElem_append_right
def aS8:=@List.getElem?_zip_eq_some
def aJ8:=@Go.wpIn_region_list
def aKR:=@List.take_append
def eF:=@or_false
def aIB:=@Go.World.size_alloc
def aAG:=@List.map_set
def jc:=@Go.wpS_cond
def aNd:=@List.getElem_zip
def aHb:=@List.map_reverse
def aLu:=@Nat.min_le_left
def aKJ:=@List.cons.injEq
def aLj:=@List.any_append
def aFI:=@Nat.one_mul
def aH1:=@List.take_left
def aIz:=@List.drop_drop
def aHF:=@List.take_take
end Go.Proofs.YtolgdkhlelfpoaaGreat
namespace Go.Proofs.YtolgdkhlelfpoaaGreat
open Go.RowKit
abbrev BM:=Value.int .i64
end Go.Proofs.YtolgdkhlelfpoaaGreat
namespace Go.Proofs.YtolgdkhlelfpoaaGreat
open Go.RowKit
def A8 {p:Prop} (h:p:=by kernel_rfl):p:=h
def AA {p:Prop} (h:p:=by omega):p:=h
def CV {p:Prop} (h:p:=by cases h;exact .ret (EH [])):p:=h
def CU {p:Prop} (h:p:=by cases h;kernel_rfl):p:=h
def Bd {p:Prop} (h:p:=by decide):p:=h
def BU {p:Prop} (h:p:=by simp):p:=h
def Oq {p:Prop} (h:p:=by cases h;exact .ret (EH [(0,true)])):p:=h
def FU {p:Prop} (h:p:=by simp only[Om];omega):p:=h
def Dy {p:Prop} (h:p:=by simp;omega):p:=h
def Jb {p:Prop} (h:p:=by cases h;exact .ret (EH [(1,true)])):p:=h
def JX {p:Prop} (h:p:=by cases h;exact .ret (EH [(2,true)])):p:=h
def Nj {p:Prop} (h:p:=by simpa using n):p:=h
def Fj {p:Prop} (h:p:=by simpa using hi):p:=h
def UK {p:Prop} (h:p:=by have :=I (k+1) y (by simpa using n);simpa[NP,Ph 1 k]using this):p:=h
def Y3 {p:Prop} (h:p:=by rw[←CJ h];exact⟨[],[(0,true)],trivial,by kernel_rfl,by kernel_rfl,by kernel_rfl⟩):p:=h
def ac9 {p:Prop} (h:p:=by rintro s ⟨f,j,h⟩;exact CS j<|AV<|AB.ret<|by rw[←CJ h];exact⟨[Gz f],[],⟨⟨0,Ai (Dz f),true,9,by kernel_rfl,by kernel_rfl,by kernel_rfl,XM,Dw (by kernel_rfl),(by intro m;cases m),by kernel_rfl⟩,trivial⟩,by kernel_rfl,by kernel_rfl,by kernel_rfl⟩):p:=h
def Y9 {p:Prop} (h:p:=by cases h;exact .ret (EH [(0,true),(1,true),(2,true),(3,true)])):p:=h
def aQc {p:Prop} (h:p:=by rw[←CJ h];exact⟨[DI Et,Ae false],[],⟨⟨0,Ai (Ak Et),true,29,by kernel_rfl,by kernel_rfl,by kernel_rfl,Ch,Dw (by kernel_rfl),(by intro j;cases j),by kernel_rfl⟩,LG (by kernel_rfl),trivial⟩,by kernel_rfl,by kernel_rfl,by kernel_rfl⟩):p:=h
def aPU {p:Prop} (h:p:=by rw[←CJ h];exact⟨[DI n,Ae true],[],⟨⟨0,Ai (Ak n),true,29,by kernel_rfl,by kernel_rfl,by kernel_rfl,Ch,Dw (by kernel_rfl),(by intro j;cases j),by kernel_rfl⟩,LG (by kernel_rfl),trivial⟩,by kernel_rfl,by kernel_rfl,by kernel_rfl⟩):p:=h
def LP {p:Prop} (h:p:=by intro hh;cases hh):p:=h
def atn {p:Prop} (h:p:=by rw[←CJ h];exact⟨[Gz f],[],⟨⟨0,Ai (Dz f),true,9,by kernel_rfl,by kernel_rfl,by kernel_rfl,XM,Dw (by kernel_rfl),(by intro m;cases m),by kernel_rfl⟩,trivial⟩,by kernel_rfl,by kernel_rfl,by kernel_rfl⟩):p:=h
def QG {p:Prop} (h:p:=by obtain⟨a,_,rfl⟩:=Fh.1 f;rfl):p:=h
def JB {p:Prop} (h:p:=by simpa using h):p:=h
def Le {p:Prop} (h:p:=by simp[List.getD,hi]):p:=h
def Hl {p:Prop} (h:p:=by simp at h):p:=h
def Nq {p:Prop} (h:p:=by decide+kernel):p:=h
def KC {p:Prop} (h:p:=by rw[EL];omega):p:=h
def KZ {p:Prop} (h:p:=by simpa using f):p:=h
def xC {p:Prop} (h:p:=by have :=z (k+1) y (by simpa using n);simpa[NP,Ph 1 k]using this):p:=h
def oN {p:Prop} (h:p:=by have :=O (k+1) y (by simpa using n);simpa[NP,Ph 1 k]using this):p:=h
def vX {p:Prop} (h:p:=by have :=J (k+1) y (by simpa using n);simpa[NP,Ph 1 k]using this):p:=h
def vT {p:Prop} (h:p:=by have :=S (k+1) y (by simpa using n);simpa[NP,Ph 1 k]using this):p:=h
def oh {p:Prop} (h:p:=by have :=z (k+1) (by simpa using hk);simpa[NP,Ph 1 k]using this):p:=h
def I4 {p:Prop} (h:p:=by cases h):p:=h
def Uj {p:Prop} (h:p:=by simp only[EL,Om];omega):p:=h
def kT {p:Prop} (h:p:=by cases h;exact .ret (EH [(0,false),(1,true)])):p:=h
def jG {p:Prop} (h:p:=by have :Az=9223372036854775808:=rfl;omega):p:=h
def XB {p:Prop} (h:p:=by obtain⟨a,_,rfl⟩:=Fh.1 hx;rfl):p:=h
def Ny {p:Prop} (h:p:=by simpa using j):p:=h
def Uf {p:Prop} (h:p:=by simp only[Lm];omega):p:=h
def QY {p:Prop} (h:p:=by intro f;cases f):p:=h
def Xb {p:Prop} (h:p:=by first|exact q|kernel_rfl):p:=h
def aQx {p:Prop} (h:p:=by unfold Func.isWrapper;first|(rw[D7 (by decide+kernel)];kernel_rfl)|(rw[DF (by decide+kernel)];exact⟨rfl,rfl⟩)):p:=h
def oQ {p:Prop} (h:p:=by have :=u (k+1);simpa[NP,Ph 1 k]using this):p:=h
def P6 {p:Prop} (h:p:=by simpa using s):p:=h
def ads {p:Prop} (h:p:=by rw[←CJ h];exact⟨[],[(0,true),(1,true),(2,true),(3,true)],trivial,by kernel_rfl,by kernel_rfl,by kernel_rfl⟩):p:=h
def Rx {p:Prop} (h:p:=by simp at s;omega):p:=h
def iZ {p:Prop} (h:p:=by simp[Act.eval,Array.replicate]):p:=h
def Ns {p:Prop} (h:p:=by simp at hi):p:=h
def QC {p:Prop} (h:p:=by rw[bP];omega):p:=h
def O9 {p:Prop} (h:p:=by rw[f];rfl):p:=h
def aRj {p:Prop} (h:p:=by subst e;have h:=i;exact .a 2<|AP h fun s m h=>.mg 12 3 (Ae s) (.bi m)<|.aW<|by cases h;kernel_rfl):p:=h
def Qs {p:Prop} (h:p:=by simpa using e):p:=h
def Rh {p:Prop} (h:p:=by simpa using u):p:=h
def Ux {p:Prop} (h:p:=by rw[Gx]at h;exact h):p:=h
def rX {p:Prop} (h:p:=by cases h;exact .ret (EH [(3,true)])):p:=h
def P5 {p:Prop} (h:p:=by rw[aq4];rfl):p:=h
def er {p:Prop} (h:p:=by intro m;cases m):p:=h
def TY {p:Prop} (h:p:=by simpa using q):p:=h
def qc {p:Prop} (h:p:=by simpa using(z 0 (by simp)).symm):p:=h
def aaH {p:Prop} (h:p:=by rw[Fa];omega):p:=h
def aCo {p:Prop} (h:p:=by simp[Array.getD,hil]at hf ⊢;exact hf):p:=h
def xR {p:Prop} (h:p:=by obtain⟨a,_,rfl⟩:=Fh.1 j;rfl):p:=h
def aEO {p:Prop} (h:p:=by cases h;exact .ret (EH [(4,true)])):p:=h
def QE {p:Prop} (h:p:=by simp[hi]):p:=h
def aNG {p:Prop} (h:p:=by rw[alloc_eq_grow,alloc_eq_grow,grow_grow];rfl):p:=h
def aOJ {p:Prop} (h:p:=by rw[ha];exact Ej (Kt _ _) (by rw[Fa];omega)):p:=h
def SE {p:Prop} (h:p:=by simp[flat]):p:=h
def WZ {p:Prop} (h:p:=by rw[D6];omega):p:=h
def aO8 {p:Prop} (h:p:=by by_cases h:(s.size:Int)>32<;>simp[h]<;>omega):p:=h
def aMt {p:Prop} (h:p:=by cases h;exact .ret (EH [(0,true),(1,true)])):p:=h
def aH2 {p:Prop} (h:p:=by by_cases h:(s.size:Int)<1<;>simp[h]<;>omega):p:=h
def W9 {p:Prop} (h:p:=by rw[ha,GY]):p:=h
def aDx {p:Prop} (h:p:=by simp only[aeC];split<;>omega):p:=h
def kF {p:Prop} (h:p:=by rw[Gx];exact vS f):p:=h
def lC {p:Prop} (h:p:=by simp[Az];omega):p:=h
def aFP {p:Prop} (h:p:=by rw[EL];simp only[Om];omega):p:=h
def eu {p:Prop} (h:p:=by rw[aMQ f z];simp):p:=h
def rV {p:Prop} (h:p:=by simpa using(u 0).symm):p:=h
def aEp {p:Prop} (h:p:=by simpa using z 0 x (by simp)):p:=h
def UF {p:Prop} (h:p:=by simp at f):p:=h
def aEh {p:Prop} (h:p:=by simpa using I 0 x (by simp)):p:=h
def jB {p:Prop} (h:p:=by intro n;cases n):p:=h
def aP0 {p:Prop} (h:p:=by intro j;cases j):p:=h
def jQ {p:Prop} (h:p:=by intro O;cases O):p:=h
def Zn {p:Prop} (h:p:=by simpa using m):p:=h
def aOS {p:Prop} (h:p:=by obtain⟨b,_,rfl⟩:=Fh.1 hy;exact hc b):p:=h
def ZP {p:Prop} (h:p:=by simpa using S):p:=h
def oG {p:Prop} (h:p:=by rw[ha,D6,Fa];omega):p:=h
def aDu {p:Prop} (h:p:=by simp[binOp,Op.intBits,EP]):p:=h
def aBI {p:Prop} (h:p:=by simp only[Fp];simp;omega):p:=h
def aNT {p:Prop} (h:p:=by rw[J rfl b (by rw[j];rfl)];exact n):p:=h
def aTj {p:Prop} (h:p:=by rw[D6]at hi;rw[UJ _ _ _ hi];exact Uc m j q (h i hi)):p:=h
def acL {p:Prop} (h:p:=by subst e;have h:=i;exact DR.aW<|by cases h;kernel_rfl):p:=h
def aGT {p:Prop} (h:p:=by simp[Act.eval,Act.put]):p:=h
def aM9 {p:Prop} (h:p:=by simpa using I 0 σ.ents (by simp)):p:=h
def aMF {p:Prop} (h:p:=by simpa using J 0 σ.ents (by simp)):p:=h
def kG {p:Prop} (h:p:=by simpa using Z):p:=h
def bf {p:Prop} (h:p:=by simpa using z):p:=h
def aRl {p:Prop} (h:p:=by rw[D6]at hi;rw[UJ _ _ _ hi];exact(h i hi).uM π):p:=h
def qC {p:Prop} (h:p:=by simp[List.getD,j]):p:=h
def oU {p:Prop} (h:p:=by rw[f]at h;exact h):p:=h
def aFD {p:Prop} (h:p:=by simp[Op.bytesLess]at h):p:=h
def nP {p:Prop} (h:p:=by intro h;cases h):p:=h
def Vk {p:Prop} (h:p:=by simp[f]):p:=h
def aT9 {p:Prop} (h:p:=by simpa using(by omega:i<(ops.map a.eval).size)):p:=h
def aBq {p:Prop} (h:p:=by rw[World.cell?,f];rfl):p:=h
def aAK {p:Prop} (h:p:=by constructor<;>omega):p:=h
def aRL {p:Prop} (h:p:=by rw[ha];exact Ej (abn _ _) (by rw[Fa];omega)):p:=h
def sG {p:Prop} (h:p:=by simpa using he):p:=h
def atp {p:Prop} (h:p:=by simpa using hk):p:=h
def aTX {p:Prop} (h:p:=by cases h;exact .ret (EH [(0,false),(5,true)])):p:=h
def aSw {p:Prop} (h:p:=by rw[ha];exact Ej (vU _ _) (by rw[Fa];omega)):p:=h
def aBd {p:Prop} (h:p:=by unfold maxLen;omega):p:=h
def abX {p:Prop} (h:p:=by rw[L]at Z;obtain rfl:=Cm Z;exact(M m hm).1):p:=h
def zh {p:Prop} (h:p:=by rw[map_take hi,ha]):p:=h
def aO9 {p:Prop} (h:p:=by simp[sizeOf,typeInfo,hi,hs]):p:=h
def aTC {p:Prop} (h:p:=by have :=cu s ⟨k,key,0⟩;unfold El at *;omega):p:=h
def lM {p:Prop} (h:p:=by simpa using q2):p:=h
def X5 {p:Prop} (h:p:=by rw[m,←q]):p:=h
def aQg {p:Prop} (h:p:=by have :=hinj j j' o o' t s ho' q hd';omega):p:=h
def aL0 {p:Prop} (h:p:=by rw[aez];exact hdf.mono hgr):p:=h
def aNu {p:Prop} (h:p:=by first|exact z|kernel_rfl):p:=h
def oM {p:Prop} (h:p:=by simpa using U):p:=h
def aRJ {p:Prop} (h:p:=by simp[Value.cells,List.getD,Array.getD,z]):p:=h
def aND {p:Prop} (h:p:=by have :=eq_of_beq h;omega):p:=h
def aD1 {p:Prop} (h:p:=by simp[List.getD,q]):p:=h
def Yu {p:Prop} (h:p:=by simp at J):p:=h
def bJ {p:Prop} (h:p:=by simp at n):p:=h
def aEx {p:Prop} (h:p:=by rw[←f.hlen];simp):p:=h
def aQD {p:Prop} (h:p:=by have :=hinj j j' o o' t s Z q hd';omega):p:=h
def aJN {p:Prop} (h:p:=by rw[hb1];exact(FV.1 M).1):p:=h
def aNl {p:Prop} (h:p:=by rw[BQ.adF]at J;exact J):p:=h
def yK {p:Prop} (h:p:=by rw[←h.hlen];simp):p:=h
def aCV {p:Prop} (h:p:=by intro q;cases q):p:=h
def ZA {p:Prop} (h:p:=by simp[u]):p:=h
def aJz {p:Prop} (h:p:=by simp[Array.getD,h1,hi']):p:=h
def aHc {p:Prop} (h:p:=by simp[underlying,hE.und]):p:=h
def abV {p:Prop} (h:p:=by obtain⟨a,_,rfl⟩:=Fh.1 hy;exact hc a):p:=h
def aT5 {p:Prop} (h:p:=by unfold Jk at f;rw[Dn m]at f;exact f):p:=h
def bC {p:Prop} (h:p:=by cases h'):p:=h
def aGD {p:Prop} (h:p:=by simp[Array.getD]):p:=h
def aJt {p:Prop} (h:p:=by rw[size_put];exact hsz):p:=h
def aS2 {p:Prop} (h:p:=by simp[stepG,stepG.exec,Frame.atR]):p:=h
def aSg {p:Prop} (h:p:=by rw[sO];exact fuel_lt (by decide)):p:=h
def aOZ {p:Prop} (h:p:=by simp[List.getD,WY e]):p:=h
def yD {p:Prop} (h:p:=by simpa using I):p:=h
def aHE {p:Prop} (h:p:=by simp[ev,List.getD,hy]):p:=h
def aAy {p:Prop} (h:p:=by simpa using hi1):p:=h
def aFT {p:Prop} (h:p:=by simp[flat]at hi):p:=h
def aIH {p:Prop} (h:p:=by simp[List.getD,GH e]):p:=h
def aOP {p:Prop} (h:p:=by simpa[DX]using h.symm):p:=h
def aAr {p:Prop} (h:p:=by rw[IE];omega):p:=h
def adU {p:Prop} (h:p:=by rw[j];rfl):p:=h
def jL {p:Prop} (h:p:=by simp[h]):p:=h
def aDf {p:Prop} (h:p:=by simpa using h2):p:=h
def aIC {p:Prop} (h:p:=by simp[r,List.getD,hy]):p:=h
def aJn {p:Prop} (h:p:=by rw[aDk];exact hh.base):p:=h
def aOI {p:Prop} (h:p:=by simp[World.setRow]):p:=h
def aGb {p:Prop} (h:p:=by simpa using L):p:=h
def aCH {p:Prop} (h:p:=by apply aJp;simp):p:=h
def aBO {p:Prop} (h:p:=by simpa using O):p:=h
def mJ {p:Prop} (h:p:=by rw[e];rfl):p:=h
def aCp {p:Prop} (h:p:=by simp[go_sem]):p:=h
def aB6 {p:Prop} (h:p:=by rw[Gx];exact h):p:=h
def aMv {p:Prop} (h:p:=by rw[EL];simp;omega):p:=h
def aLP {p:Prop} (h:p:=by simp[execOp,f];rfl):p:=h
def aJJ {p:Prop} (h:p:=by simp[underlying,h]):p:=h
def aMz {p:Prop} (h:p:=by rw[EL]at hi;omega):p:=h
def aJf {p:Prop} (h:p:=by simp[underlying,Z]):p:=h
def aH5 {p:Prop} (h:p:=by rw[bP];simp;omega):p:=h
def aLa {p:Prop} (h:p:=by simpa using this):p:=h
def aHt {p:Prop} (h:p:=by rw[D6];exact hi):p:=h
def aM2 {p:Prop} (h:p:=by simpa using hee):p:=h
def zi {p:Prop} (h:p:=by simp[xG,e]):p:=h
def mW {p:Prop} (h:p:=by simp at s):p:=h
def aKq {p:Prop} (h:p:=by rw[s]at f;omega):p:=h
end Go.Proofs.YtolgdkhlelfpoaaGreat
namespace Go.Proofs.YtolgdkhlelfpoaaGreat
open Go.RowKit
def Bh {p:Prop} (h:p:=by exact fun h=>AV<|CV):p:=h
def Ed {p:Prop} (h:p:=by exact AB.exit<|AV<|CV):p:=h
def Lj {p:Prop} (h:p:=by exact AB.skip<|AV<|CV):p:=h
def H9 {p:Prop} (h:p:=by exact AB.exit<|AV<|Oq):p:=h
def UQ {p:Prop} (h:p:=by exact LH A8<|LH A8<|LH A8<|LH A8<|trivial):p:=h
def zJ {p:Prop} (h:p:=by exact .nil<|Or.inl ⟨(),(CJ h).symm,(⟨[],[],trivial,A8,A8,A8⟩)⟩):p:=h
def aR2 {p:Prop} (h:p:=by exact .aW<|AV<|AB.ret<|by rw[←CJ h];exact⟨[DI ({ aS with Content:=f })],[],⟨⟨1,Ai (Ak ({ aS with Content:=f })),true,29,A8,A8,A8,Ch,Dw A8,er,A8⟩,trivial⟩,A8,A8,A8⟩):p:=h
def abP {p:Prop} (h:p:=by exact fun h=>AB.ret<|⟨.inr rfl,(Rz j).slots,(.ready,none),.normal,A8,rfl,(K3 _ ⟨q,u,Aa 16 32 [(2,true),(6,true)],h⟩)⟩):p:=h
def adn {p:Prop} (h:p:=by exact AB.ret<|⟨.inr rfl,(TL iF f).slots,(.ready,none),.normal,A8,rfl,(K3 _ ⟨L,v8,Aa 21 80 [(0,true),(1,true)],h⟩)⟩):p:=h
def aE4 {p:Prop} (h:p:=by exact .nil<|j _ _ _ (Aa 16 449 [(0,true)]) h):p:=h
def ay {p:Prop} (h:p:=by exact AV<|AV<|CV):p:=h
def eB {p:Prop} (h:p:=by exact fun h=>AV<|Oq):p:=h
def aJx {p:Prop} (h:p:=by exact fun h=>AB.exit<|K4 _ ⟨Aa 18 2 [],h⟩):p:=h
def aPx {p:Prop} (h:p:=by exact AB.skip<|Or.inl ⟨(),(CJ h).symm,(⟨[],[],trivial,A8,A8,A8⟩)⟩):p:=h
def OL {p:Prop} (h:p:=by exact .aZ<|Ad h Bh fun h=>Lj):p:=h
def Z5 {p:Prop} (h:p:=by exact AV<|Ad h Bh fun h=>Lj):p:=h
end Go.Proofs.YtolgdkhlelfpoaaGreat
section
namespace Go.Proofs.YtolgdkhlelfpoaaGreat
open Go.RowKit
def addr_add (b o j:Nat):(⟨b,o,none⟩:Addr).add j=⟨b,o+j,none⟩:=by
 unfold Addr.add;split<;>simp_all
section
variable {P : Program} {ops : Array Oper} {rest : List Oper} {o : Oper} {a : Act} {w : World} {Q : Exit → Act → World → Prop}
def apv (w:World) (ty:TypeId) (b off:Nat) (cs:Array Value) (n:(isAgg ty).run P w=.ok true w) (q:(sizeOf ty).run P w=.ok cs.size w)
 (s:∀j,j<cs.size→w.cell? ⟨b,off+j,none⟩=some (cs.getD j undef)):(loadVar ty ⟨b,off,none⟩).run P w=.ok (.agg cs) w:=by
 have h:(loadCells ⟨b,off,none⟩ cs.toList.length).run P w=.ok cs.toList.toArray w:=
  aJP (P:=P) w ⟨b,off,none⟩ cs.toList (fun j v f=>by
   rw[addr_add]
   have m:j<cs.size:=by
    have :=(FV.1 f).1;simpa using this
   rw[s j m];simp only[oH]at f;simp[Array.getD,m]at f ⊢
   exact f)
 simp only[Ry,lD]at h;simp only[loadVar,F7,n,q,FI,JQ,h,Fr]
end
inductive D where
 |lit (v:Value)
 |agg (cs:List D)
 |sl (es:List D)
 |ref (cs:List D) (off:Nat)
 |fn (f:Fn) (first cap:List D)
 |Po (t:TypeId) (x:D)
def D.cells:D→List D
 | .agg cs=>cs
 |x=>[x]
def D.leaf:D→Bool
 | .lit v=>v.oneCell'
 | .agg _=>false
 |_=>true
abbrev Dp :D:=.lit undef
abbrev cellAt (w:World) (b o:Nat):Value:=(w.cell? ⟨b,o,none⟩).getD undef
inductive Du (ok:Nat→Prop) (w:World):D→Value→Prop
 |lit (v:Value):Du ok w (.lit v) v
 |agg (cs:List D) (vs:Array Value) (hl:vs.size=cs.length) (hf:∀i,i<cs.length→(cs.getD i Dp).leaf=true)
  (h:∀i,i<cs.length→Du ok w (cs.getD i Dp) (vs.getD i undef)):Du ok w (.agg cs) (.agg vs)
 |sl0 (ad:Option Addr) (cap:Nat):Du ok w (.sl []) (.slice ad 0 cap)
 |sl (es:List D) (b off cap size:Nat) (hcap:es.length≤cap) (hok:0<es.length→0<size→ok b) (hs:∀i,i<es.length→(es.getD i Dp).cells.length=size)
  (hf:∀i,i<es.length→∀j,j<size→((es.getD i Dp).cells.getD j Dp).leaf=true)
  (hx:∀i,i<es.length→∀j,j<size→(w.cell? ⟨b,off+(i*size+j),none⟩).isSome=true)
  (hc:∀i,i<es.length→∀j,j<size→Du ok w ((es.getD i Dp).cells.getD j Dp) (cellAt w b (off+(i*size+j)))):
  Du ok w (.sl es) (.slice (some ⟨b,off,none⟩) es.length cap)
 |ref (cs:List D) (off b o:Nat) (hok:0<cs.length→ok b) (hf:∀i,i<cs.length→(cs.getD i Dp).leaf=true)
  (hx:∀j,j<cs.length→(w.cell? ⟨b,o+j,none⟩).isSome=true)
  (hc:∀j,j<cs.length→Du ok w (cs.getD j Dp) (cellAt w b (o+j))):Du ok w (.ref cs off) (.pointer (some ⟨b,o+off,none⟩))
 |fn (f:Fn) (first cap:List D) (vs us:Array Value) (hl:vs.size=first.length) (hm:us.size=cap.length)
  (h:∀i,i<first.length→Du ok w (first.getD i Dp) (vs.getD i undef)) (h':∀i,i<cap.length→Du ok w (cap.getD i Dp) (us.getD i undef)):
  Du ok w (.fn f first cap) (.func f vs us)
 |Po (t:TypeId) (x:D) (v:Value) (h:Du ok w x v):Du ok w (.Po t x) (.iface t v)
def EO (ok:Nat→Prop) (w:World) (ok':Nat→Prop) (w':World):Prop:=∀b,ok b→ok' b∧w'.heap[b]? =w.heap[b]?
def EO.refl (ok:Nat→Prop) (w:World):EO ok w ok w:=fun _ h=>⟨h,rfl⟩
def EO.trans {ok f j:Nat→Prop} {w n q:World} (h:EO ok w f n) (k:EO f n j q):EO ok w j q:=
 fun b m=>⟨(k b (h b m).1).1,((k b (h b m).1).2).trans (h b m).2⟩
def EO.cell {ok ok':Nat→Prop} {w w':World} (h:EO ok w ok' w') {b o:Nat} (f:ok b):w'.cell? ⟨b,o,none⟩=w.cell? ⟨b,o,none⟩:=
 World.cell?_of_block (w:=w) (a:=⟨b,o,none⟩) (h b f).2
def Du.mono {ok ok':Nat→Prop} {w w':World} (s:EO ok w ok' w') {x:D} {v:Value} (h:Du ok w x v):Du ok' w' x v:=by
 induction h with
 |lit v=>exact .lit v
 |agg cs vs I u _ q=>exact .agg cs vs I u q
 |sl0 ad cap=>exact .sl0 ad cap
 |sl es b off cap size z m S u J _ q=>
  have O:∀i j,i<es.length→j<size→ok b:=fun i j hi n=>m AA AA;refine .sl es b off cap size z (fun L U=>(s b (m L U)).1) S u (fun i hi j n=>?_) (fun i hi j n=>?_)
  ·rw[s.cell (O i j hi n)];exact J i hi j n
  unfold cellAt;rw[s.cell (O i j hi n)];exact q i hi j n
 |ref cs off b o m u J _ q=>
  refine .ref cs off b o (fun L=>(s b (m L)).1) u (fun j n=>?_) (fun j n=>?_)
  ·rw[s.cell (m AA)];exact J j n
  unfold cellAt;rw[s.cell (m AA)];exact q j n
 |fn f first cap vs us I Y _ _ q M=>exact .fn f first cap vs us I Y q M
 |Po t x v _ q=>exact .Po t x v q
def Du.shrink {ok ok':Nat→Prop} {w:World} (L:∀b o,ok b→(w.cell? ⟨b,o,none⟩).isSome=true→ok' b) {x:D} {v:Value} (h:Du ok w x v):Du ok' w x v:=by
 induction h with
 |lit v=>exact .lit v
 |agg cs vs z n _ j=>exact .agg cs vs z n j
 |sl0 ad cap=>exact .sl0 ad cap
 |sl es b off cap size q m I n s _ j=>exact .sl es b off cap size q (fun u M=>L b _ (m u M) (s 0 u 0 M)) I n s j
 |ref cs off b o m n s _ j=>exact .ref cs off b o (fun u=>L b _ (m u) (s 0 u)) n s j
 |fn f first cap vs us z O _ _ j J=>exact .fn f first cap vs us z O j J
 |Po t x v _ j=>exact .Po t x v j
def Du.leaf {ok:Nat→Prop} {w:World} {x:D} {v:Value} (h:Du ok w x v) (f:x.leaf=true):v.oneCell'=true:=by
 cases h<;>first|rfl|exact f|(simp[D.leaf]at f)
inductive Ag where
 |d (x:D)
 |ptr (k off:Nat)
 |aO (k:Nat)
 |lK (k i off:Nat)
 |fn (f:Fn) (first cap:List Ag)
 |mp (k:Nat)
 |clip (xs:List D)
 |wP (k:Nat)
 |fP (vs:List Ag)
 |ag (vs:List Ag)
 |junk
def Ag.leaf:Ag→Bool
 | .d x=>x.leaf
 | .fP _| .ag _| .junk=>false
 |_=>true
def Ag.cells:Ag→List Ag
 | .d x=>x.cells.map .d
 | .ag xs=>xs
 |x=>[x]
inductive BQ where
 |dead
 |box (cs:List Ag)
 |arr (e:TypeId) (size:Nat) (es:List D)
 |map (es:List (Value×D))
 |bQ (es:List (Value×D))
 |iter (es:List (Value×D)) (vis:List Nat)
 |loop (tm:Array Value) (slots:List Ag) (rc:Array Tmp×Code×Code) (st:LoopState) (pe:Option Code)
def BQ.live:BQ→Bool
 | .dead=>false
 |_=>true
structure Bo where
 v:Value
 size:Nat:=0
inductive R (ok:Nat→Prop) (w:World) (H:List Bo):Ag→Value→Prop
 |d (x:D) (v:Value) (h:Du ok w x v):R ok w H (.d x) v
 |ptr (k off b s:Nat) (h:H[k]? =some ⟨.pointer (some ⟨b,0,none⟩),s⟩):R ok w H (.ptr k off) (.pointer (some ⟨b,off,none⟩))
 |aO (k:Nat) (ad:Option Addr) (n cap s:Nat) (h:H[k]? =some ⟨.slice ad n cap,s⟩):R ok w H (.aO k) (.slice ad n cap)
 |lK (k i off b n cap s:Nat) (h:H[k]? =some ⟨.slice (some ⟨b,0,none⟩) n cap,s⟩):R ok w H (.lK k i off) (.pointer (some ⟨b,i*s+off,none⟩))
 |fn (f:Fn) (first cap:List Ag) (vs us:Array Value) (hl:vs.size=first.length) (hm:us.size=cap.length) (h:∀i,i<first.length→R ok w H (first.getD i .junk) (vs.getD i undef))
  (h':∀i,i<cap.length→R ok w H (cap.getD i .junk) (us.getD i undef)):R ok w H (.fn f first cap) (.func f vs us)
 |mp (k:Nat) (v:Value) (s:Nat) (hl:v.oneCell'=true) (h:H[k]? =some ⟨v,s⟩):R ok w H (.mp k) v
 |clip (xs:List D) (ad:Option Addr) (h:Du ok w (.sl xs) (.slice ad xs.length xs.length)):R ok w H (.clip xs) (.slice ad xs.length xs.length)
 |wP (k:Nat) (ad:Option Addr) (n cap s:Nat) (h:H[k]? =some ⟨.slice ad n cap,s⟩):R ok w H (.wP k) (.slice ad n n)
 |fP (xs:List Ag) (vs:Array Value) (hl:vs.size=xs.length) (h:∀i,i<xs.length→R ok w H (xs.getD i .junk) (vs.getD i undef)):R ok w H (.fP xs) (.tuple vs)
 |ag (xs:List Ag) (vs:Array Value) (hl:vs.size=xs.length) (hf:∀i,i<xs.length→(xs.getD i .junk).leaf=true) (h:∀i,i<xs.length→R ok w H (xs.getD i .junk) (vs.getD i undef)):R ok w H (.ag xs) (.agg vs)
 |junk (v:Value):R ok w H .junk v
def Names (H H':List Bo):Prop:=∀(k:Nat) (v:Bo),H[k]? =some v→H'[k]? =some v
def Names.refl (H:List Bo):Names H H:=fun _ _ h=>h
def Names.trans {H H1 H2:List Bo} (h:Names H H1) (k:Names H1 H2):Names H H2:=fun i v f=>k i v (h i v f)
def Names.push (H H':List Bo):Names H (H++H'):=fun k v h=>by
 rw[GH (FV.1 h).1];exact h
def R.mono {ok ok':Nat→Prop} {w w':World} {H H':List Bo} (z:EO ok w ok' w') (m:Names H H') {x:Ag} {v:Value} (h:R ok w H x v):R ok' w' H' x v:=by
 induction h with
 |d x v h=>exact .d x v (h.mono z)
 |ptr k off b s h=>exact .ptr k off b s (m _ _ h)
 |aO k ad n cap s h=>exact .aO k ad n cap s (m _ _ h)
 |lK k i off b n cap s h=>exact .lK k i off b n cap s (m _ _ h)
 |fn f first cap vs us j I _ _ q u=>exact .fn f first cap vs us j I q u
 |mp k v s j h=>exact .mp k v s j (m _ _ h)
 |clip xs ad h=>exact .clip xs ad (h.mono z)
 |wP k ad n cap s h=>exact .wP k ad n cap s (m _ _ h)
 |fP xs vs j _ q=>exact .fP xs vs j q
 |ag xs vs j J _ q=>exact .ag xs vs j J q
 |junk v=>exact .junk v
def R.shrink {ok ok':Nat→Prop} {w:World} (u:∀b o,ok b→(w.cell? ⟨b,o,none⟩).isSome=true→ok' b) {H:List Bo} {x:Ag} {v:Value} (h:R ok w H x v):R ok' w H x v:=by
 induction h with
 |d x v h=>exact .d x v (h.shrink u)
 |ptr k off b s h=>exact .ptr k off b s h
 |aO k ad n cap s h=>exact .aO k ad n cap s h
 |lK k i off b n cap s h=>exact .lK k i off b n cap s h
 |fn f first cap vs us j z _ _ m q=>exact .fn f first cap vs us j z m q
 |mp k v s j h=>exact .mp k v s j h
 |clip xs ad h=>exact .clip xs ad (h.shrink u)
 |wP k ad n cap s h=>exact .wP k ad n cap s h
 |fP xs vs j _ m=>exact .fP xs vs j m
 |ag xs vs j I _ m=>exact .ag xs vs j I m
 |junk v=>exact .junk v
def R.leaf {ok:Nat→Prop} {w:World} {H:List Bo} {x:Ag} {v:Value} (h:R ok w H x v) (f:x.leaf=true):v.oneCell'=true:=by
 cases h with
 |d x v h=>exact h.leaf f
 |fP=>simp[Ag.leaf]at f
 |ag=>simp[Ag.leaf]at f
 |junk=>simp[Ag.leaf]at f
 |mp k v s f h=>exact f
 |_=>rfl
def FZ (ok:Nat→Prop) (w:World) (H:List Bo) (xs:List Ag) (vs:List Value):Prop:=
 vs.length=xs.length∧∀i,i<xs.length→(xs.getD i .junk).leaf=true∧R ok w H (xs.getD i .junk) (vs.getD i undef)
def FZ.mono {ok ok':Nat→Prop} {w w':World} {H H':List Bo} (f:EO ok w ok' w') (j:Names H H') {xs:List Ag} {vs:List Value} (h:FZ ok w H xs vs):FZ ok' w' H' xs vs:=
 ⟨h.1,fun i hi=>⟨(h.2 i hi).1,(h.2 i hi).2.mono f j⟩⟩
def FZ.shrink {ok ok':Nat→Prop} {w:World} (f:∀b o,ok b→(w.cell? ⟨b,o,none⟩).isSome=true→ok' b) {H:List Bo} {xs:List Ag} {vs:List Value} (h:FZ ok w H xs vs):FZ ok' w H xs vs:=
 ⟨h.1,fun i hi=>⟨(h.2 i hi).1,(h.2 i hi).2.shrink f⟩⟩
def flat (es:List D):List Ag:=es.flatMap fun x=>x.cells.map .d
def nD (w:World) (e:TypeId) (size:Nat) (v:Value) (n:Nat) (xs:List Value):Prop:=
 xs.length=n*size∧
 ((v=.slice none 0 0∧n=0)∨
  ∃g cap f,v=.slice (some ⟨g,0,none⟩) n cap∧0≤g∧w.heap[g]? =some (.cells f e (0,0))∧n≤cap∧cap≤maxLen∧cap*size≤f.size∧f.toList.take (n*size)=xs)
def nD.of {w:World} {base:Nat} {e:TypeId} {size:Nat} {v:Value} {n:Nat} {xs:List Value} (h:w.ownsRow base e size v n xs):nD w e size v n xs:=by
 refine⟨h.1,?_⟩;rcases h.2 with f|⟨g,cap,j,f,I,m,q,s,u,z⟩
 ·exact .inl f
 exact .inr ⟨g,cap,j,f,EY _,m,q,s,Yf u.symm,z⟩
def nD.cells {w:World} {e:TypeId} {size:Nat} {v:Value} {n:Nat} {xs:List Value} (h:nD w e size v n xs) {g:Nat} (s:v.ownBlock=some g):∀j u,xs[j]? =some u→w.cell? ((⟨g,0,none⟩:Addr).add j)=some u:=by
 intro j u q;rcases h.2 with⟨rfl,_⟩|⟨z,cap,I,rfl,_,J,_,_,_,f⟩
 ·simp[Value.ownBlock]at s
 simp[Value.ownBlock]at s;subst s;have m:(⟨z,0,none⟩:Addr).add j=⟨z,j,none⟩:=by unfold Addr.add;split<;>simp_all
 rw[m,cell_of_row w z j I e (0,0) J];rw[←f,qJ]at q;split at q
 ·simpa using q
 cases q
structure KI (ok:Nat→Prop) (w:World) (es:List (Value×D)) (ms:Array MapEntry) (clock:Nat):Prop where
 len:ms.size=es.length
 ent:∀(i:Nat) (e:Value×D) (m:MapEntry),es[i]? =some e→ms[i]? =some m→m.key=e.1∧Du ok w e.2 m.val∧m.born<clock
 inc:∀(i j:Nat) (m n:MapEntry),i<j→ms[i]? =some m→ms[j]? =some n→m.born<n.born
def Rf (ms:Array MapEntry) (clock:Nat):Prop:=clock=ms.size∧∀(i:Nat) (e:MapEntry),ms[i]? =some e→e.born=i
def Em (ok:Nat→Prop) (w:World) (H:List Bo) (h:Bo):BQ→Prop
 | .dead=>True
 | .box cs=>∃b vs T,h.v=.pointer (some ⟨b,0,none⟩)∧w.heap[b]? =some (.cells vs T (0,0))∧FZ ok w H cs vs.toList
 | .arr e size es=>h.size=size∧(∀x∈es,x.cells.length=size)∧∃xs,nD w e size h.v es.length xs∧FZ ok w H (flat es) xs
 | .map es=>∃b ms clock,h.v=.map (some b)∧w.heap[b]? =some (.map ms clock)∧KI ok w es ms clock
 | .bQ es=>∃b ms clock,h.v=.map (some b)∧w.heap[b]? =some (.map ms clock)∧KI ok w es ms clock∧Rf ms clock
 | .iter es vis=>∃bi f ms clock seen,h.v=.pointer (some ⟨bi,0,none⟩)∧w.heap[bi]? =some (.mapIter (some f) clock seen clock)∧ok f∧w.heap[f]? =some (.map ms clock)∧KI ok w es ms clock∧
  seen.size=vis.length∧∀(j i:Nat),vis[j]? =some i→∃e,ms[i]? =some e∧seen[j]? =some e.born
 | .loop tm slots rc st m=>∃l fn D,h.v=.func (.yield l) #[] #[]∧w.heap[l]? =some (.loop { state:=st,pending:=m,fn,tmps:=tm,params:=rc.1,assign:=rc.2.1,body:=rc.2.2,defers:=D })∧tm.size=slots.length∧∀t,t<slots.length→R ok w H (slots.getD t .junk) (tm.getD t undef)
def DX :Value→Option Nat
 | .pointer (some a)=>some a.block
 | .slice (some a) _ _=>some a.block
 | .map (some b)=>some b
 | .func (.yield l) _ _=>some l
 |_=>none
structure lI (w0:World) (X:List Nat) (w:World):Prop where
 os:w.os=w0.os
 tape:w.tape=w0.tape
 output:w.output=w0.output
 size:w0.heap.size≤w.heap.size
 block:∀k,k<w0.heap.size→k∉X→w.heap[k]? =w0.heap[k]?
def lI.refl (w:World) (X:List Nat):lI w X w:=⟨rfl,rfl,rfl,E9 _,fun _ _ _=>rfl⟩
def lI.below {w0 w:World} (h:lI w0 [] w):Below w0.heap.size w0 w:=⟨h.os,h.tape,h.output,h.size,fun k f=>h.block k f BU⟩
structure EI where
 w0:World
 ok0:Nat→Prop
 X:List Nat
 H0:List Bo
structure D5 (C:EI) (ok:Nat→Prop) (H:List Bo) (es:List BQ) (w:World):Prop where
 fr:lI C.w0 C.X w
 yA:∀b,C.ok0 b→ok b
 yB:∀b,ok b→C.ok0 b∨C.w0.heap.size≤b∨b∈C.X
 kL:∀b,ok b→b<w.heap.size
 names:Names C.H0 H
 hlen:H.length=es.length
 ent:∀(k:Nat) (e:BQ) (h:Bo),es[k]? =some e→H[k]? =some h→Em ok w H h e
 blk:∀(k:Nat) (e:BQ) (h:Bo) (b:Nat),es[k]? =some e→e.live=true→H[k]? =some h→DX h.v=some b→¬ok b∧b<w.heap.size∧(C.w0.heap.size≤b∨b∈C.X)
 EJ:∀(k k':Nat) (e e':BQ) (h h':Bo) (b:Nat),es[k]? =some e→es[k']? =some e'→e.live=true→e'.live=true→H[k]? =some h→H[k']? =some h'→DX h.v=some b→DX h'.v=some b→k=k'
def Em.mono {ok ok':Nat→Prop} {w w':World} {H H':List Bo} {h:Bo} {e:BQ} (z:EO ok w ok' w') (O:Names H H') (J:e.live=true→∀b,DX h.v=some b→w'.heap[b]? =w.heap[b]?) (L:Em ok w H h e):Em ok' w' H' h e:=by
 cases e with
 |dead=>trivial
 |box cs=>
  obtain⟨b,vs,T,j,n,f⟩:=L;exact⟨b,vs,T,j,aNT,f.mono z O⟩
 |arr e s es=>
  obtain⟨j,n,xs,⟨f,u⟩,I⟩:=L;refine⟨j,n,xs,⟨f,?_⟩,I.mono z O⟩;rcases u with u|⟨g,cap,S,M,U,Z,h9⟩
  ·exact .inl u
  exact .inr ⟨g,cap,S,M,U,by rw[J rfl g (by rw[M];rfl)];exact Z,h9⟩
 |map es=>
  obtain⟨b,ms,clock,j,n,f⟩:=L;exact⟨b,ms,clock,j,aNT,f.len,fun i e m hi q=>⟨(f.ent i e m hi q).1,(f.ent i e m hi q).2.1.mono z,(f.ent i e m hi q).2.2⟩,f.inc⟩
 |bQ es=>
  obtain⟨b,ms,clock,j,n,f,u⟩:=L;exact⟨b,ms,clock,j,aNT,⟨f.len,fun i e m hi q=>⟨(f.ent i e m hi q).1,(f.ent i e m hi q).2.1.mono z,(f.ent i e m hi q).2.2⟩,f.inc⟩,u⟩
 |iter es vis=>
  obtain⟨bi,Y,ms,clock,seen,j,n,f,u,I,M,U⟩:=L;exact⟨bi,Y,ms,clock,seen,j,by rw[J rfl bi adU];exact n,(z Y f).1,by rw[(z Y f).2];exact u,⟨I.len,fun i e m hi q=>⟨(I.ent i e m hi q).1,(I.ent i e m hi q).2.1.mono z,(I.ent i e m hi q).2.2⟩,I.inc⟩,M,U⟩
 |loop tm slots rc st pe=>
  obtain⟨l,fn,D,j,n,f,u⟩:=L;exact⟨l,fn,D,j,by rw[J rfl l adU];exact n,f,fun t ht=>(u t ht).mono z O⟩
def Em.shrink {ok ok':Nat→Prop} {w:World} (z:∀b o,ok b→(w.cell? ⟨b,o,none⟩).isSome=true→ok' b) (L:∀(b:Nat) (ms:Array MapEntry) (c:Nat),ok b→w.heap[b]? =some (.map ms c)→ok' b) {H:List Bo} {h:Bo} {e:BQ} (I:Em ok w H h e):Em ok' w H h e:=by
 cases e with
 |dead=>trivial
 |box cs=>
  obtain⟨b,vs,T,j,n,f⟩:=I;exact⟨b,vs,T,j,n,f.shrink z⟩
 |arr e s es=>
  obtain⟨j,n,xs,f,u⟩:=I;exact⟨j,n,xs,f,u.shrink z⟩
 |map es=>
  obtain⟨b,ms,clock,j,n,f⟩:=I;exact⟨b,ms,clock,j,n,f.len,fun i e m hi q=>⟨(f.ent i e m hi q).1,(f.ent i e m hi q).2.1.shrink z,(f.ent i e m hi q).2.2⟩,f.inc⟩
 |bQ es=>
  obtain⟨b,ms,clock,j,n,f,J⟩:=I;exact⟨b,ms,clock,j,n,⟨f.len,fun i e m hi q=>⟨(f.ent i e m hi q).1,(f.ent i e m hi q).2.1.shrink z,(f.ent i e m hi q).2.2⟩,f.inc⟩,J⟩
 |iter es vis=>
  obtain⟨bi,M,ms,clock,seen,j,n,f,J,u,O,S⟩:=I;exact⟨bi,M,ms,clock,seen,j,n,L M ms clock f J,J,⟨u.len,fun i e m hi q=>⟨(u.ent i e m hi q).1,(u.ent i e m hi q).2.1.shrink z,(u.ent i e m hi q).2.2⟩,u.inc⟩,O,S⟩
 |loop tm slots rc st Y=>
  obtain⟨l,fn,D,j,n,f,J⟩:=I;exact⟨l,fn,D,j,n,f,fun t U=>(J t U).shrink z⟩
def Em.drew {ok:Nat→Prop} {w:World} {H:List Bo} {h:Bo} {e:BQ} {n:Nat} (f:Em ok w H h e):Em ok { w with drawn:=n } H h e:=
 Em.mono (w:=w) (ok:=ok) (fun _ j=>⟨j,rfl⟩) (.refl _) (fun _ _ _=>rfl) f
def Bq (P:Program) (o:Oper) (ns:List (Operand×Ag)) (es:List BQ) (x:Ag) (es':List BQ):Prop:=
 ∀(C:EI) (ok:Nat→Prop) (H:List Bo) (a:Act) (w:World) (Q:Exit→Act→World→Prop),
  D5 C ok H es w→(∀n∈ns,R ok w H n.2 (a.eval n.1))→
  o.wp P a w (fun a' w'=>∃v ok' H',a'=a.put o.dst v∧EO ok w ok' w'∧Names H H'∧D5 C ok' H' es' w'∧R ok' w' H' x v) Q
def Bq.pure {P:Program} {o:Oper} {ns:List (Operand×Ag)} {es:List BQ} {x:Ag}
 (h:∀(ok:Nat→Prop) (H:List Bo) (a:Act) (w:World),(∀(k:Nat) (e:BQ) (h:Bo),es[k]? =some e→H[k]? =some h→Em ok w H h e)→H.length=es.length→(∀n∈ns,R ok w H n.2 (a.eval n.1))→∃v,(execOp a.eval o).run P w=.ok (.value v) w∧R ok w H x v):Bq P o ns es x es:=by
 intro C ok H a w Q f j;obtain⟨v,m,q⟩:=h ok H a w f.ent f.hlen j;unfold Oper.wp;rw[m];exact⟨v,ok,H,rfl,.refl _ _,.refl _,f,q⟩
structure BL where
 slots:List Ag
 ents:List BQ
 base:Nat:=0
def BL.get (σ:BL):Operand→Ag
 | .tmp t=>σ.slots.getD t .junk
 | .const v=>.d (.lit v)
 | .global g=>.d (.lit (.pointer (some ⟨g,0,none⟩)))
 | .func f=>.d (.fn (.func f) [] [])
def BL.put (σ:BL) (d:Option Tmp) (x:Ag) (es:List BQ):BL:=
 ⟨match d with |some t=>σ.slots.set t x|none=>σ.slots,es,σ.base⟩
def BL.rG (σ:BL) (d:Option Tmp) (x:Ag):BL:=
 ⟨match d with |some t=>σ.slots.set t x|none=>σ.slots,σ.ents,σ.base⟩
def BL.Yz (σ:BL) (d:Option Tmp) (x:Ag):σ.rG d x=σ.put d x σ.ents:=rfl
def Marks (C:EI) (ok:Nat→Prop) (w:World) (f:List Deferred):Prop:=
 ∃Ds:List Nat,f=Ds.map (fun D=>{ target:=.collected D,args:= #[] })∧Ds.Nodup∧∀D∈Ds,ok D∧C.w0.heap.size≤D∧w.heap[D]? =some (.deferred (some []))
def Marks.nil (C:EI) (ok:Nat→Prop) (w:World):Marks C ok w []:=⟨[],rfl,aY,fun _ h=>I4⟩
def Marks.mono {C:EI} {ok ok':Nat→Prop} {w w':World} {m:List Deferred} (h:Marks C ok w m) (n:EO ok w ok' w'):Marks C ok' w' m:=by
 obtain⟨Ds,q,s,f⟩:=h;exact⟨Ds,q,s,fun D j=>⟨(n D (f D j).1).1,(f D j).2.1,((n D (f D j).1).2).trans (f D j).2.2⟩⟩
structure Holds (C:EI) (ok:Nat→Prop) (H:List Bo) (σ:BL) (a:Act) (w:World):Prop where
 mem:D5 C ok H σ.ents w
 size:a.tmps.size=σ.slots.length
 defers:Marks C ok w a.defers
 base:C.H0.length=σ.base
 slot:∀t,t<σ.slots.length→R ok w H (σ.slots.getD t .junk) (a.tmps.getD t undef)
def ku {l:List Ag} {t:Nat} (h:¬t<l.length):l.getD t .junk=.junk:=by
 simp[List.getD,II (Tq h)]
def Holds.get {C:EI} {ok:Nat→Prop} {H:List Bo} {σ:BL} {a:Act} {w:World} (h:Holds C ok H σ a w) (x:Operand):R ok w H (σ.get x) (a.eval x):=by
 cases x with
 |tmp t=>
  show R ok w H (σ.slots.getD t .junk) (a.tmps.getD t undef);by_cases j:t<σ.slots.length
  ·exact h.slot t j
  rw[ku j];exact .junk _
 |const v=>exact .d _ _ (.lit v)
 |global g=>exact .d _ _ (.lit _)
 |func f=>exact .d _ _ (.fn (.func f) [] [] #[] #[] rfl rfl (fun i hi=>Ns) (fun i hi=>Ns))
def Holds.put {C:EI} {ok ok':Nat→Prop} {H H':List Bo} {σ:BL} {a:Act} {w w':World} (h:Holds C ok H σ a w) (d:Option Tmp) {x:Ag} {v:Value} {es':List BQ}
 (j:EO ok w ok' w') (q:Names H H') (s:D5 C ok' H' es' w') (u:R ok' w' H' x v):Holds C ok' H' (σ.put d x es') (a.put d v) w':=by
 cases d with
 |none=>exact⟨s,h.size,h.defers.mono j,h.base,fun t f=>(h.slot t f).mono j q⟩
 |some d=>
  refine⟨s,by simp[BL.put,Act.put,h.size],h.defers.mono j,h.base,fun t f=>?_⟩;simp only[BL.put,iJ]at f;simp only[BL.put,Act.put];by_cases e:d=t
  ·subst e;have m:(σ.slots.set d x).getD d .junk=x:=by simp[List.getD,f]
   have n:(a.tmps.setIfInBounds d v).getD d undef=v:=by simp[Array.getD,h.size,f]
   rw[m,n];exact u
  have m:(σ.slots.set d x).getD t .junk=σ.slots.getD t .junk:=aOZ
  have n:(a.tmps.setIfInBounds d v).getD t undef=a.tmps.getD t undef:=by simp[Gu,Js e]
  rw[m,n];exact(h.slot t f).mono j q
def Ag.uM (π:List (Nat×Bool)):Ag→Ag
 | .d x=>.d x
 | .ptr k off=>match π.idxOf? (k,true)with |some j=>.ptr j off|none=>.junk
 | .aO k=>match π.idxOf? (k,true)with |some j=>.aO j|none=>.junk
 | .lK k i off=>match π.idxOf? (k,true)with |some j=>.lK j i off|none=>.junk
 | .mp k=>match π.idxOf? (k,true)with |some j=>.mp j|none=>.junk
 | .wP k=>match π.idxOf? (k,true)with |some j=>.wP j|none=>.junk
 | .clip xs=>.clip xs
 |_=>.junk
def Ag.back (π:List (Nat×Bool)):Ag→Ag
 | .fn f first cap=>.fn f (first.map (Ag.uM π)) (cap.map (Ag.uM π))
 | .fP vs=>.fP (vs.map (Ag.uM π))
 |x=>x.uM π
def BQ.back (π:List (Nat×Bool)):BQ→BQ
 | .dead=>.dead
 | .box cs=>.box (cs.map (Ag.uM π))
 | .arr e s es=>.arr e s es
 | .map es=>.map es
 | .bQ es=>.bQ es
 | .iter es vis=>.iter es vis
 | .loop tm slots rc st f=>.loop tm (slots.map (Ag.back π)) rc st f
def rQ {π:List (Nat×Bool)} {H:List Bo} {k j:Nat} {h:Bo} (m:π.idxOf? (k,true)=some j) (n:H[k]? =some h):(π.map fun p=>H.getD p.1 ⟨undef,0⟩)[j]? =some h:=by
 rw[List.idxOf?,acy]at m;obtain⟨f,q, -⟩:=m;have e:π[j]=(k,true):=TY
 simp[f,e,List.getD,n]
def R.uM {ok:Nat→Prop} {w:World} {H:List Bo} (π:List (Nat×Bool)) {x:Ag} {v:Value} (h:R ok w H x v):R ok w (π.map fun p=>H.getD p.1 ⟨undef,0⟩) (x.uM π) v:=by
 cases h with
 |d x v h=>exact .d x v h
 |ptr k off b s h=>
  simp only[Ag.uM];split<;>rename_i j m
  ·exact .ptr _ off b s (rQ m h)
  exact .junk _
 |aO k ad n cap s h=>
  simp only[Ag.uM];split<;>rename_i j m
  ·exact .aO _ ad n cap s (rQ m h)
  exact .junk _
 |lK k i off b n cap s h=>
  simp only[Ag.uM];split<;>rename_i j m
  ·exact .lK _ i off b n cap s (rQ m h)
  exact .junk _
 |mp k v s q h=>
  simp only[Ag.uM];split<;>rename_i j m
  ·exact .mp _ v s q (rQ m h)
  exact .junk _
 |clip xs ad h=>exact .clip xs ad h
 |wP k ad n cap s h=>
  simp only[Ag.uM];split<;>rename_i j m
  ·exact .wP _ ad n cap s (rQ m h)
  exact .junk _
 |fn f first cap vs us q u h h'=>exact .junk _
 |fP xs vs q h=>exact .junk _
 |ag xs vs q z h=>exact .junk _
 |junk v=>exact .junk _
def UJ (f:Ag→Ag) (l:List Ag) (i:Nat) (h:i<l.length):(l.map f).getD i .junk=f (l.getD i .junk):=by
 simp[List.getD,h]
def R.back {ok:Nat→Prop} {w:World} {H:List Bo} (π:List (Nat×Bool)) {x:Ag} {v:Value} (h:R ok w H x v):R ok w (π.map fun p=>H.getD p.1 ⟨undef,0⟩) (x.back π) v:=by
 cases h with
 |fn f first cap vs us j m h h'=>
  exact .fn f _ _ vs us (by simp[j]) (by simp[m]) (fun i hi=>aRl) (fun i hi=>by rw[D6]at hi;rw[UJ _ _ _ hi];exact(h' i hi).uM π)
 |fP xs vs j h=>exact .fP _ vs (by simp[j]) (fun i hi=>aRl)
 |ag xs vs j q h=>exact .junk _
 |d x v h=>exact(R.d x v h).uM π
 |ptr k off b s h=>exact(R.ptr k off b s h).uM π
 |aO k ad n cap s h=>exact(R.aO k ad n cap s h).uM π
 |lK k i off b n cap s h=>exact(R.lK k i off b n cap s h).uM π
 |mp k v s j h=>exact(R.mp k v s j h).uM π
 |clip xs ad h=>exact(R.clip xs ad h).uM π
 |wP k ad n cap s h=>exact(R.wP k ad n cap s h).uM π
 |junk v=>exact .junk _
def BQ.backOk (π:List (Nat×Bool)):BQ→Bool
 | .box cs=>cs.all fun x=>(x.uM π).leaf
 |_=>true
def UD (base:Nat) (es:List BQ) (π:List (Nat×Bool)):Bool:=
 π.all (fun p=>decide (p.1<es.length))&&decide ((π.filterMap fun p=>if p.2 then some p.1 else none).Nodup)&&((π.take base).map (·.1)==List.range base)&&π.all fun p=>(es.getD p.1 .dead).backOk π
def RI (es:List BQ) (π:List (Nat×Bool)):List BQ:=π.map fun p=>if p.2 then(es.getD p.1 .dead).back π else .dead
def aSi :∀{π:List (Nat×Bool)},(π.filterMap fun p=>if p.2 then some p.1 else none).Nodup→∀(i j k:Nat),π[i]? =some (k,true)→π[j]? =some (k,true)→i=j
 | [],_,i,j,k,h,_=>Hl
 |p::π,f,i,j,k,hi,q=>by
  have m:∀(n:Nat),π[n]? =some (k,true)→k∈π.filterMap fun p=>if p.2 then some p.1 else none:=fun n h=>by
   rw[Rw];exact⟨_,WJ h,rfl⟩
  have s:(π.filterMap fun p=>if p.2 then some p.1 else none).Nodup:=by
   rw[RN]at f;split at f
   ·exact f
   exact(NC.1 f).2
  match i,j with
  |0,0=>rfl
  |0,j+1=>
   simp at hi q;subst hi;simp only[RN,JQ]at f;exact absurd (m j q) (NC.1 f).1
  |i+1,0=>
   simp at hi q;subst q;simp only[RN,JQ]at f;exact absurd (m i hi) (NC.1 f).1
  |i+1,j+1=>rw[aSi s i j k Fj TY]
def Em.back {ok:Nat→Prop} {w:World} {H:List Bo} {h:Bo} {e:BQ} (π:List (Nat×Bool)) (J:e.backOk π=true) (f:Em ok w H h e):Em ok w (π.map fun p=>H.getD p.1 ⟨undef,0⟩) h (e.back π):=by
 cases e with
 |dead=>trivial
 |box cs=>
  obtain⟨b,vs,T,j,m,n,q⟩:=f;refine⟨b,vs,T,j,m,Nj,fun i hi=>?_⟩;rw[D6]at hi;rw[UJ _ _ _ hi];refine⟨?_,(q i hi).2.uM π⟩;simp only[BQ.backOk,ER]at J;exact J _ Le
 |arr e s es=>
  obtain⟨j,m,xs,n,q,L⟩:=f;refine⟨j,m,xs,n,q,fun i hi=>⟨(L i hi).1,?_⟩⟩;have u:=(L i hi).2;have z:(flat es).getD i .junk∈flat es:=Le
  unfold flat at z ⊢;simp only[UG,Fh]at z;obtain⟨x,_,y,_,M⟩:=z;unfold flat at u;rw[←M]at u ⊢;cases u with |d _ _ h=>exact .d _ _ h
 |map es=>exact f
 |bQ es=>exact f
 |iter es vis=>exact f
 |loop tm slots rc st O=>
  obtain⟨l,fn,D,j,m,n,q⟩:=f;refine⟨l,fn,D,j,m,Nj,fun t I=>?_⟩;rw[D6]at I;rw[UJ _ _ _ I];exact(q t I).back π
def aeR {π:List (Nat×Bool)} {e:BQ}:(e.back π).live=e.live:=by cases e<;>rfl
def D5.norm {C:EI} {ok:Nat→Prop} {H:List Bo} {es:List BQ} {w:World} (I:D5 C ok H es w) (π:List (Nat×Bool)) (M:UD C.H0.length es π=true):
 D5 C ok (π.map fun p=>H.getD p.1 ⟨undef,0⟩) (RI es π) w:=by
 unfold UD at M;simp only[DJ,Gi,SN,ER]at M;obtain⟨⟨⟨hlt,hnd⟩,Y⟩,hbk⟩:=M
 have n:∀(j:Nat) (h:Bo),(π.map fun p=>H.getD p.1 ⟨undef,0⟩)[j]? =some h→∃p,π[j]? =some p∧p.1<es.length∧H[p.1]? =some h:=by
  intro j h f;rw[J9]at f;cases m:π[j]? with
  |none=>rw[m]at f;simp at f
  |some p=>
   rw[m]at f;have q:p.1<es.length:=hlt p (WJ m);refine⟨p,rfl,q,?_⟩;have hkH:p.1<H.length:=by rw[I.hlen];exact q
   simp[List.getD,hkH]at f ⊢;exact f
 have s:∀(j:Nat) (p:Nat×Bool) (e:BQ),(RI es π)[j]? =some e→π[j]? =some p→p.1<es.length→(p.2=false∧e=.dead)∨(p.2=true∧∃J,es[p.1]? =some J∧e=J.back π∧p∈π):=by
  intro j p e f m q;unfold RI at f;rw[J9,m]at f;cases U:p.2 with
  |false=>simp[U]at f;exact .inl ⟨rfl,f.symm⟩
  |true=>
   simp[U,List.getD,q]at f;exact .inr ⟨rfl,es[p.1],by simp[q],f.symm,WJ m⟩
 refine⟨I.fr,I.yA,I.yB,I.kL,?_,by simp[RI],?_,?_,?_⟩
 ·intro k v hv;have q:k<C.H0.length:=(FV.1 hv).1;have Z:((π.take C.H0.length).map (·.1))[k]? =some k:=by rw[Y];simp[q]
  rw[J9,NI q]at Z;have h2:=I.names k v hv;cases m:π[k]? with
  |none=>rw[m]at Z;simp at Z
  |some p=>
   rw[m]at Z;have hpk:p.1=k:=kG
   rw[J9,m];simp[List.getD,hpk,h2]
 ·intro j e h f hh;obtain⟨p,m,q,hH⟩:=n j h hh;rcases s j p e f m q with⟨_,rfl⟩|⟨_,J,u,rfl,z⟩
  ·trivial
  refine(I.ent p.1 J h u hH).back π ?_;have :=hbk p z;simpa[List.getD,u]using this
 ·intro j e h b f O hh U;obtain⟨p,m,q,hH⟩:=n j h hh;rcases s j p e f m q with⟨_,rfl⟩|⟨_,J,u,rfl,z⟩
  ·cases O
  rw[aeR]at O;exact I.blk p.1 J h b u O hH U
 intro j j' e e' h h' b f hj' O S hh hh' U hb';obtain⟨p,m,q,hH⟩:=n j h hh;obtain⟨p',hp',hk',hH'⟩:=n j' h' hh';rcases s j p e f m q with⟨_,rfl⟩|⟨hpt,J,u,rfl,z⟩
 ·cases O
 rcases s j' p' e' hj' hp' hk' with⟨_,rfl⟩|⟨L,e0',aEA,rfl,hmem'⟩
 ·cases S
 rw[aeR]at O S;have hkk:=I.EJ p.1 p'.1 J e0' h h' b u aEA O S hH hH' U hb';obtain⟨k,bb⟩:=p;obtain⟨k',bb'⟩:=p';simp only at hkk hpt L;subst hkk;subst hpt;subst L;exact aSi hnd j j' k m hp'
def Kw (π:List (Nat×Bool)):List Bool→List Ag→List Ag
 |_,[]=>[]
 |true::m,x::xs=>x.back π::Kw π m xs
 |false::m,_::xs=>.junk::Kw π m xs
 | [],_::xs=>.junk::Kw π [] xs
def aBf (π:List (Nat×Bool)):∀(m:List Bool) (l:List Ag),(Kw π m l).length=l.length
 |_,[]=>by unfold Kw;rfl
 |true::m,x::xs=>by simp[Kw,aBf π m xs]
 |false::m,x::xs=>by simp[Kw,aBf π m xs]
 | [],x::xs=>by simp[Kw,aBf π [] xs]
def aDs (π:List (Nat×Bool)):∀(m:List Bool) (l:List Ag) (t:Nat),(Kw π m l).getD t .junk=(l.getD t .junk).back π∨(Kw π m l).getD t .junk=.junk
 |_,[],t=>by unfold Kw;right;simp
 |true::m,x::xs,0=>by left;simp[Kw]
 |false::m,x::xs,0=>by right;simp[Kw]
 | [],x::xs,0=>by right;simp[Kw]
 |true::m,x::xs,t+1=>by simpa[Kw]using aDs π m xs t
 |false::m,x::xs,t+1=>by simpa[Kw]using aDs π m xs t
 | [],x::xs,t+1=>by simpa[Kw]using aDs π [] xs t
def aBa (σ S:BL):Prop:=∃(m:List Bool) (π:List (Nat×Bool)),UD σ.base σ.ents π=true∧S=⟨Kw π m σ.slots,RI σ.ents π,σ.base⟩
def Holds.aEB {C:EI} {ok:Nat→Prop} {H:List Bo} {σ S:BL} {a:Act} {w:World} (h:Holds C ok H σ a w) (j:aBa σ S):∃H',Holds C ok H' S a w:=by
 obtain⟨m,π,f,rfl⟩:=j;refine⟨π.map fun p=>H.getD p.1 ⟨undef,0⟩,h.mem.norm π (h.base▸f),by simp[aBf,h.size],h.defers,h.base,fun t n=>?_⟩;rcases aDs π m σ.slots t with e|e
 ·simp only[e];exact(h.get (.tmp t)).back π
 simp only[e];exact .junk _
def Bz (σ S:BL):Prop:=∀(C:EI) (ok:Nat→Prop) (H:List Bo) (a:Act) (w:World),Holds C ok H σ a w→∃ok' H',Holds C ok' H' S a w
def aBa.sub {σ S:BL} (h:aBa σ S):Bz σ S:=fun _ ok _ _ _ f=>let⟨H',h'⟩:=f.aEB h;⟨ok,H',h'⟩
def aoS {σ S:BL} (f:BL) (h:∀C ok H a w,Holds C ok H σ a w→∃ok',Holds C ok' H f a w) (k:Bz f S):Bz σ S:=fun C _ H a w j=>let⟨ok',h'⟩:=h C _ H a w j;k C ok' H a w h'
section
variable {P : Program} {ops : Array Oper} {Q : Exit → Act → World → Prop}
def toCome (f:Array Bool):Nat:=(f.toList.filter (!·)).length
def toCome_set {f:Array Bool} {i:Nat} (hi:i<f.size) (h:f.getD i true=false):toCome (f.setIfInBounds i true)+1=toCome f:=by
 unfold toCome;have j:f.toList[i]' Fj=false:=by simpa[Array.getD,hi]using h
 have e:f.toList=f.toList.take i++false::f.toList.drop (i+1):=by
  rw[←j,List.getElem_cons_drop,bF]
 have m:(f.setIfInBounds i true).toList=f.toList.take i++true::f.toList.drop (i+1):=by
  rw[aNF,aLb,D7 Fj]
 rw[m]
 conv=>rhs;rw[e]
 simp[PS];omega
def written (ops:Array Oper):List Tmp:=ops.toList.filterMap (·.dst)
def WM (ops:Array Oper):Bool:=(List.range ops.size).all fun i=>(List.range ops.size).all fun j=>i==j||match(ops[i]?).bind (·.dst),(ops[j]?).bind (·.dst)with
 |some d,some f=>d != f
 |_,_=>true
def UR (ops:Array Oper) (n:Nat):Bool:=(written ops).all fun d=>decide (d<n)
def aLh (h:WM ops=true):∀(i j:Nat) (o f:Oper) (d:Tmp),ops[i]? =some o→ops[j]? =some f→o.dst=some d→f.dst=some d→i=j:=by
 intro i j o f d m n q s;unfold WM at h;rw[ER]at h;have hi:i<ops.size:=(Fq.1 m).1;have u:j<ops.size:=(Fq.1 n).1;have :=h i Fj;rw[ER]at this;have :=this j Rh;rw[m,n]at this;simp[q,s]at this;exact this
def aLH {i:Nat} {o:Oper} {d:Tmp} (h:ops[i]? =some o) (hd:o.dst=some d):d∈written ops:=by
 unfold written;rw[Rw]
 exact⟨o,by
  have⟨hi,f⟩:=Fq.1 h
  rw[←f];exact Array.getElem_mem_toList hi,hd⟩
def aNW {a:Act} {d:Tmp} {v:Value} (h:d<a.tmps.size):(a.put (some d) v).tmps.getD d undef=v:=by
 simp[Act.put,Array.getD,h]
def aJq {a:Act} {d t:Tmp} {v:Value} (h:d≠t):(a.put (some d) v).tmps.getD t undef=a.tmps.getD t undef:=by
 simp[Act.put,Gu,Js h]
def size_put {a:Act} {d:Option Tmp} {v:Value}:(a.put d v).tmps.size=a.tmps.size:=by cases d<;>simp[Act.put]
def aez {a:Act} {d:Option Tmp} {v:Value}:(a.put d v).defers=a.defers:=by cases d<;>rfl
end
def Va (ops:Array Oper) (σ:BL) (g:Option (Nat×Bool)):Prop:=g=none∨
 ∃j f d b,g=some (j,f)∧(ops[j]?).bind (·.dst)=some d∧σ.slots.getD d .junk=.d (.lit (.bool b))∧b=f
def X6 (ops:Array Oper) (σ:BL) (g:Option (Nat×Bool)):Prop:=
 ∃j f d v,g=some (j,f)∧(ops[j]?).bind (·.dst)=some d∧σ.slots.getD d .junk=.d (.lit v)∧(v=.bool (!f)∨v=undef)
def akb {ops:Array Oper} {σ:BL} {g:Option (Nat×Bool)} (j:Nat) (f:Bool) (d:Nat) (b:Bool) (h:g=some (j,f)) (hd:(ops[j]?).bind (·.dst)=some d) (m:σ.slots.getD d .junk=.d (.lit (.bool b))) (n:b= !f):X6 ops σ g:=⟨j,f,d,_,h,hd,m,.inl (by rw[n])⟩
def aro {ops:Array Oper} {σ:BL} {g:Option (Nat×Bool)} (j:Nat) (f:Bool) (d:Nat) (h:g=some (j,f)) (hd:(ops[j]?).bind (·.dst)=some d) (m:σ.slots.getD d .junk=.d (.lit undef)):X6 ops σ g:=⟨j,f,d,_,h,hd,m,.inr rfl⟩
def R.bool {ok:Nat→Prop} {w:World} {H:List Bo} {u v:Value} (h:R ok w H (.d (.lit u)) v):v=u:=by
 cases h with |d _ _ h=>cases h;rfl
def aon {C:EI} {ok:Nat→Prop} {H:List Bo} {σ:BL} {a:Act} {w:World} (h:Holds C ok H σ a w) {ops:Array Oper} {j d:Nat} {v:Value}
 (n:(ops[j]?).bind (·.dst)=some d) (f:σ.slots.getD d .junk=.d (.lit v)):yielded ops a.tmps j=(match v with | .bool b=>some b|_=>none):=by
 have hd:d<σ.slots.length:=by
  apply Xu;intro q;rw[ku q]at f;cases f
 have m:=(f▸h.slot d hd).bool
 have s:a.tmps[d]? =some v:=by
  have :d<a.tmps.size:=by rw[h.size];exact hd
  simp[Array.getD,this]at m;simp[this,m]
 unfold yielded;rw[n];simp only[Ac,s];cases v<;>rfl
def arp {C:EI} {ok:Nat→Prop} {H:List Bo} {σ:BL} {a:Act} {w:World} (h:Holds C ok H σ a w) {ops:Array Oper} {j d:Nat} {b:Bool}
 (n:(ops[j]?).bind (·.dst)=some d) (f:σ.slots.getD d .junk=.d (.lit (.bool b))):yielded ops a.tmps j=some b:=by
 have hd:d<σ.slots.length:=by
  apply Xu;intro q;rw[ku q]at f;cases f
 have m:=(f▸h.slot d hd).bool
 have s:a.tmps[d]? =some (.bool b):=by
  have :d<a.tmps.size:=by rw[h.size];exact hd
  simp[Array.getD,this]at m;simp[this,m]
 unfold yielded;rw[n];simp only[Ac,s]
def Ox {C:EI} {ok:Nat→Prop} {H:List Bo} {σ:BL} {a:Act} {w:World} (h:Holds C ok H σ a w) {ops:Array Oper} {o:Oper} (f:Va ops σ o.guard):Region.wanted o (yielded ops a.tmps)=true:=by
 unfold Region.wanted;rcases f with f|⟨j,m,d,b,f,n,q,rfl⟩
 ·rw[f]
 rw[f];show(yielded ops a.tmps j==some b)=true;rw[arp h n q];simp
def aMQ {C:EI} {ok:Nat→Prop} {H:List Bo} {σ:BL} {a:Act} {w:World} (h:Holds C ok H σ a w) {ops:Array Oper} {o:Oper} (m:X6 ops σ o.guard):Region.wanted o (yielded ops a.tmps)=false:=by
 unfold Region.wanted;obtain⟨j,f,d,v,m,n,q,s⟩:=m;rw[m];show(yielded ops a.tmps j==some f)=false;rw[aon h n q];rcases s with rfl|rfl
 ·simp
 rfl
def needs (σ:BL):List (Operand×Ag)→Prop
 | []=>True
 |n::ns=>σ.get n.1=n.2∧needs σ ns
def Oa {σ:BL}:∀{ns:List (Operand×Ag)},needs σ ns→∀n∈ns,σ.get n.1=n.2
 | [],_,n,h=>Hl
 |m::ns,f,n,h=>by
  rcases F6.1 h with rfl|h
  ·exact f.1
  exact Oa f.2 n h
def tmpsOf (o:Oper):List Tmp:=o.op.operands.toList.filterMap fun | .tmp t=>some t|_=>none
def Me (ns:List (Operand×Ag)):List Tmp:=ns.filterMap fun n=>match n.1 with | .tmp t=>some t|_=>none
def Qv (P:Program) (ops:Array Oper) (σ:BL) (x:Ag) (E:List BQ) (bar:Bool) (o:Oper):Prop:=
 ((∃ns,Bq P o ns σ.ents x E∧needs σ ns∧(Me ns).all (tmpsOf o).contains=true∧Va ops σ o.guard)∨(x=.d (.lit undef)∧E=σ.ents∧X6 ops σ o.guard))∧(bar=false→E=σ.ents)
def aaJ {P:Program} {ops:Array Oper} {σ:BL} {x:Ag} {o:Oper} {ns:List (Operand×Ag)} (h:Bq P o ns σ.ents x σ.ents) (f:needs σ ns) (j:Va ops σ o.guard) (m:(Me ns).all (tmpsOf o).contains=true):Qv P ops σ x σ.ents false o:=
 ⟨.inl ⟨ns,h,f,m,j⟩,fun _=>rfl⟩
def Io (ro:Option Nat):Fence:={ fn:=fun _=>True,depth:=none,alive:=false,round:=ro }
def aEX {ro:Option Nat} {n:Nat} {P:Program} {f:FuncId} {args:Array Value} {w:World} {R:Ending→World→Prop}:CallsIn (Io ro) n P f args w R↔Calls P f args w R:=
 callsIn_wide (n:=n)
def asP {ro:Option Nat} {n:Nat} {P:Program} {f:String} {args:Array Value} {w:World} {R:Value→World→Prop} (h:Rows P f args w R):RowsIn (Io ro) n P f args w R:=
 fun c cs _=>let⟨v,w',r,s⟩:=h c cs;⟨v,w',r,(stepsIn_wide (P:=P)).2 s⟩
def Bq.aA8 {P:Program} {o:Oper} {ns:List (Operand×Ag)} {es es':List BQ} {x:Ag} (h:Bq P o ns es x es') {C:EI} {ok:Nat→Prop} {H:List Bo} {a:Act} {w:World} (m:D5 C ok H es w) (q:∀n∈ns,R ok w H n.2 (a.eval n.1)):∀c,o.op≠ .defer c:=by
 intro c s;have f:=h C ok H a w (fun _ _ _=>False) m q;unfold Oper.wp execOp at f;rw[s]at f;simp only[F7]at f;cases j:(resolve a.eval c o.type).run P w with
 |ok d w'=>
  rw[j]at f;simp only[Result.andThen]at f;obtain⟨v,_,_,u,_⟩:=f;have :=BX (fun a=>a.defers.length) u;cases z:o.dst<;>simp[Act.put,z]at this
 |halt x w'=>
  rw[j]at f;cases x<;>exact f
def Bq.inR {P:Program} {o:Oper} {ns:List (Operand×Ag)} {es es':List BQ} {x:Ag} (h:Bq P o ns es x es') (ro:Option Nat) (C:EI) (ok:Nat→Prop) (H:List Bo) (a:Act) (w:World) (Q:Exit→Act→World→Prop)
 (j:D5 C ok H es w) (m:∀n∈ns,R ok w H n.2 (a.eval n.1)):
 o.wpIn (Io ro) 0 P a w (fun a' w'=>∃v ok' H',a'=a.put o.dst v∧EO ok w ok' w'∧Names H H'∧D5 C ok' H' es' w'∧R ok' w' H' x v) Q:=by
 have f:=h C ok H a w Q j m;refine⟨fun _ _=>trivial,?_⟩;rw[kE _ _ _ (h.aA8 j m)];unfold Oper.wp at f;generalize(execOp a.eval o).run P w=r at f;cases r with
 |ok n w'=>
  cases n<;>first
   |exact f
   |exact f.elim
   |exact⟨fun h=>I4,aEX.2 f⟩
   |exact⟨fun h=>I4,asP f⟩
 |halt x w'=>cases x<;>exact f
inductive Chain (P:Program) (ops:Array Oper):List Oper→BL→BL→Prop
 |nil (σ:BL):Chain P ops [] σ σ
 |op {o:Oper} {rest:List Oper} {σ σ':BL} {ns:List (Operand×Ag)} {x:Ag} (d:Option Tmp) (h:Bq P o ns σ.ents x σ.ents) (hn:needs σ ns) (hg:Va ops σ o.guard) (hd:o.dst=d)
  (k:Chain P ops rest (σ.rG d x) σ'):Chain P ops (o::rest) σ σ'
 |oe {o:Oper} {rest:List Oper} {σ σ':BL} {ns:List (Operand×Ag)} {x:Ag} {es':List BQ} (d:Option Tmp) (E:List BQ) (h:Bq P o ns σ.ents x es') (he:es'=E) (hn:needs σ ns) (hg:Va ops σ o.guard) (hd:o.dst=d)
  (k:Chain P ops rest (σ.put d x E) σ'):Chain P ops (o::rest) σ σ'
 |skip {o:Oper} {rest:List Oper} {σ σ':BL} (d:Option Tmp) (hg:X6 ops σ o.guard) (hd:o.dst=d) (k:Chain P ops rest (σ.rG d (.d (.lit undef))) σ'):Chain P ops (o::rest) σ σ'
 |any {o:Oper} {rest:List Oper} {σ σ':BL} {x:Ag} (d:Option Tmp) (h:Qv P ops σ x σ.ents false o) (hd:o.dst=d) (k:Chain P ops rest (σ.rG d x) σ'):Chain P ops (o::rest) σ σ'
 |aeX {o:Oper} {rest:List Oper} {σ σ':BL} {x:Ag} {E:List BQ} {bar:Bool} (d:Option Tmp) (h:Qv P ops σ x E bar o) (hd:o.dst=d) (k:Chain P ops rest (σ.put d x E) σ'):Chain P ops (o::rest) σ σ'
 |conv {rest:List Oper} {σ σ':BL} (σ2:BL) (h:∀C ok H a w,Holds C ok H σ a w→∃ok',Holds C ok' H σ2 a w) (k:Chain P ops rest σ2 σ'):Chain P ops rest σ σ'
def Chain.sound {P:Program} {ops:Array Oper} {l:List Oper} {σ σ':BL} (h:Chain P ops l σ σ') {ro:Option Nat} {C:EI} {H0:List Bo} {Q:Exit→Act→World→Prop}:
 ∀{ok:Nat→Prop} {H:List Bo} {a:Act} {w:World},Holds C ok H σ a w→Names H0 H→(∀ok' H' a' w',Holds C ok' H' σ' a' w'→Names H0 H'→Q .normal a' w')→wpListIn (Io ro) 0 P ops Q l a w:=by
 induction h with
 |nil σ=>intro ok H a w f J q;exact q ok H a w f J
 | @op o rest σ σ' ns x d L J z hd k I=>
   intro ok H a w f j q;subst hd;unfold wpListIn;rw[D7 (Ox f z)];refine QD ?_ (L.inR ro C ok H a w Q f.mem (fun n s=>Oa J n s▸f.get n.1));rintro a' w' ⟨v,ok',H',rfl,u,m,M,O⟩;exact I (f.put o.dst u m M O) (j.trans m) q
 | @oe o rest σ σ' ns x es' d E L Y J z hd k I=>
   intro ok H a w f j q;subst hd;subst Y;unfold wpListIn;rw[D7 (Ox f z)];refine QD ?_ (L.inR ro C ok H a w Q f.mem (fun n s=>Oa J n s▸f.get n.1));rintro a' w' ⟨v,ok',H',rfl,u,m,M,O⟩;exact I (f.put o.dst u m M O) (j.trans m) q
 | @skip o rest σ σ' d z hd k I=>
   intro ok H a w f j q;subst hd;unfold wpListIn;rw[DF eu];exact⟨fun _ _=>trivial,I (f.put o.dst (.refl _ _) (.refl _) f.mem (.d _ _ (.lit _))) j q⟩
 | @any o rest σ σ' x d S hd k I=>
   intro ok H a w f j q;subst hd;unfold wpListIn;rcases S.1 with⟨ns,L,J,_,z⟩|⟨rfl,_,z⟩
   ·rw[D7 (Ox f z)];refine QD ?_ (L.inR ro C ok H a w Q f.mem (fun n s=>Oa J n s▸f.get n.1));rintro a' w' ⟨v,ok',H',rfl,u,m,M,O⟩;exact I (f.put o.dst u m M O) (j.trans m) q
   rw[DF eu];exact⟨fun _ _=>trivial,I (f.put o.dst (.refl _ _) (.refl _) f.mem (.d _ _ (.lit _))) j q⟩
 | @aeX o rest σ σ' x E bar d S hd k I=>
   intro ok H a w f j q;subst hd;unfold wpListIn;rcases S.1 with⟨ns,L,J,_,z⟩|⟨rfl,rfl,z⟩
   ·rw[D7 (Ox f z)];refine QD ?_ (L.inR ro C ok H a w Q f.mem (fun n s=>Oa J n s▸f.get n.1));rintro a' w' ⟨v,ok',H',rfl,u,m,M,O⟩;exact I (f.put o.dst u m M O) (j.trans m) q
   rw[DF eu];exact⟨fun _ _=>trivial,I (f.put o.dst (.refl _ _) (.refl _) f.mem (.d _ _ (.lit _))) j q⟩
 |conv σ2 Z k I=>
  intro ok H a w f j q;obtain⟨ok',U⟩:=Z C ok H a w f;exact I U j q
def Ou :Code→Bool
 | .seq a b=>Ou a&&Ou b
 | .cond _ a b=>Ou a&&Ou b
 | .block _ a=>Ou a
 | .loop a=>Ou a
 | .scope a=>Ou a
 | .rangeFunc .. =>false
 |_=>true
def vP (ro:Option Nat) (c:Code):Prop:=ro=none∨Ou c=true
def vP.two {ro:Option Nat} {c x y:Code} (h:vP ro c) (e:Ou c=(Ou x&&Ou y)):vP ro x∧vP ro y:=by
 rcases h with h|h
 ·exact⟨.inl h,.inl h⟩
 rw[e,DJ]at h;exact⟨.inr h.1,.inr h.2⟩
def anL (P:Program) (c:Code) (σ:BL) (Q:Exit→BL→Prop):Prop:=
 ∀(ro:Option Nat),vP ro c→∀(C:EI) (ok:Nat→Prop) (H:List Bo) (a:Act) (w:World),Holds C ok H σ a w→c.wpIn (Io ro) 0 P (fun e a' w'=>∃ok' H' σ',Holds C ok' H' σ' a' w'∧Q e σ') a w
structure AB (P:Program) (c:Code) (σ:BL) (Q:Exit→BL→Prop):Prop where
 run:anL P c σ Q
section
variable {P : Program} {σ σ' : BL} {Q : Exit → BL → Prop}
def AB.mono {c:Code} {Q':Exit→BL→Prop} (h:AB P c σ Q) (f:∀e σ,Q e σ→Q' e σ):AB P c σ Q':=
 ⟨fun ro j C ok H a w m=>U0 (h.run ro j C ok H a w m) fun _ _ _ ⟨ok',H',σ',n,q⟩=>⟨ok',H',σ',n,f _ _ q⟩⟩
def AB.region {id:Nat} {ops:Array Oper} (h:Chain P ops ops.toList σ σ') (f:Q .normal σ'):AB P (.region id ops false) σ Q:=⟨fun ro _ C ok H a w j=>
 aJ8 (h.sound j (.refl H) fun ok' H' a' w' m _=>⟨ok',H',σ',m,f⟩)⟩
def AB.skip (h:Q .normal σ):AB P .skip σ Q:=⟨fun _ _ _ ok H a w f=>wpIn_skip ⟨ok,H,σ,f,h⟩⟩
def AB.label {l:Nat} (h:Q .normal σ):AB P (.label l) σ Q:=⟨fun _ _ _ ok H a w f=>wpIn_label ⟨ok,H,σ,f,h⟩⟩
def AB.exit {i:Nat} (h:Q (.exit i) σ):AB P (.exit i) σ Q:=⟨fun _ _ _ ok H a w f=>wpIn_exit ⟨ok,H,σ,f,h⟩⟩
def AB.ret (h:Q .ret σ):AB P .ret σ Q:=⟨fun _ _ _ ok H a w f=>wpIn_ret ⟨ok,H,σ,f,h⟩⟩
def Kq (K:BL→Prop) (Q:Exit→BL→Prop):Exit→BL→Prop
 | .normal,σ=>K σ
 |e,σ=>Q e σ
def AB.seq {x y:Code} (K:BL→Prop) (m:AB P x σ (Kq K Q)) (n:∀σ',K σ'→AB P y σ' Q):AB P (.seq x y) σ Q:=⟨fun ro f C ok H a w q=>
 wpIn_seq (U0 (m.run ro (f.two rfl).1 C ok H a w q) (by
  rintro e a' w' ⟨ok',H',σ',h,j⟩;cases e with
  |normal=>exact(n σ' j).run ro (f.two rfl).2 C ok' H' a' w' h
  |_=>exact⟨ok',H',σ',h,j⟩))⟩
def AB.seq1 {x y:Code} (f:BL) (h:AB P x σ (Kq (fun σ'=>σ'=f) Q)) (j:AB P y f Q):AB P (.seq x y) σ Q:=AB.seq _ h (fun _ e=>e▸j)
def AB.cond {c:Operand} {x y:Code} (b:Bool) (m:σ.get c=.d (.lit (.bool b))) (n:b=true→AB P x σ Q) (q:b=false→AB P y σ Q):AB P (.cond c x y) σ Q:=by
 refine⟨fun ro j C ok H a w f=>?_⟩;have e:=(m▸f.get c).bool;exact wpIn_cond_split e (fun h=>(n h).run ro (j.two rfl).1 C ok H a w f) (fun h=>(q h).run ro (j.two rfl).2 C ok H a w f)
def aa1 (i:Nat) (Q:Exit→BL→Prop):Exit→BL→Prop
 | .exit j,σ=>if j=i then Q .normal σ else Q (.exit j) σ
 |e,σ=>Q e σ
def AB.block {i:Nat} {c:Code} (h:AB P c σ (aa1 i Q)):AB P (.block i c) σ Q:=⟨fun ro q C ok H a w s=>
 wpIn_block (U0 (h.run ro q C ok H a w s) (by
  rintro e a' w' ⟨ok',H',σ',m,f⟩;cases e with
  |exit j=>
   show if j=i then _ else _
   simp only[aa1]at f;split<;>rename_i n
   ·rw[D7 n]at f;exact⟨ok',H',σ',m,f⟩
   rw[DF n]at f;exact⟨ok',H',σ',m,f⟩
  |_=>exact⟨ok',H',σ',m,f⟩))⟩
def anQ {ro:Option Nat} {P:Program} {Q:Exit→Act→World→Prop} {c:Code} (I:Nat→Act→World→Prop)
 (round:∀n a w,I n a w→c.wpIn (Io ro) 0 P (Exit.then (fun a' w'=>∃m,m<n∧I m a' w') Q) a w):∀n a w,I n a w→(Code.loop c).wpIn (Io ro) 0 P Q a w:=by
 intro n a w O b k cs s u z
 have key:∀n a w,I n a w→∃e a' w',Q e a' w'∧ArrivesIn (Machine.fenced P (Io ro)) P (lone (b.atR a (.code c::.inLoop c::k)) cs w) b k cs e a' w':=by
  intro n
  induction n using Nat.strongRecOn with
  |_ n S=>
   intro a w U;obtain⟨e,j,q,f,harr⟩:=round n a w U b (.inLoop c::k) cs s u z;cases e with
   |normal=>
    obtain⟨m,J,L⟩:=f;obtain⟨Y,Z,w₂,M,h⟩:=S m J j q L;exact⟨Y,Z,w₂,M,.of_steps (StepsIn.trans harr (.one (fenced_calm u z rfl) stepR_inLoop)) h⟩
   |exit id=>exact⟨_,j,q,f,.pass (x:=.inLoop c) rfl (fun _ _=>.inl BU) harr⟩
   |goto l=>exact⟨_,j,q,f,.pass (x:=.inLoop c) rfl (fun _ _=>.inl BU) harr⟩
   |ret=>exact⟨_,j,q,f,.pass (x:=.inLoop c) rfl (fun _ _=>.inl BU) harr⟩
   |panic ch=>exact⟨_,j,q,f,.pass (x:=.inLoop c) rfl (fun _ _=>.inl BU) harr⟩
   |outgrown=>exact⟨_,j,q,f,.pass (x:=.inLoop c) rfl (fun _ _=>.inl BU) harr⟩
 obtain⟨e,a',w',f,harr⟩:=key n a w O;exact⟨e,a',w',f,.of_steps (.one (fenced_calm u z rfl) stepR_loop) harr⟩
def AB.loop {c:Code} (I:Nat→BL→Prop) (n:Nat) (h:I n σ) (round:∀n σ,I n σ→AB P c σ (Kq (fun σ'=>∃m,m<n∧I m σ') Q)):AB P (.loop c) σ Q:=by
 refine⟨fun ro u C ok H a w f=>?_⟩;refine anQ (fun n a w=>∃ok H σ,Holds C ok H σ a w∧I n σ) ?_ n a w ⟨ok,H,σ,f,h⟩;rintro n a w ⟨ok,H,σ,f,z⟩;refine U0 ((round n σ z).run ro u C ok H a w f) ?_;rintro e a' w' ⟨ok',H',σ',q,s⟩;cases e with
 |normal=>obtain⟨m,J,j⟩:=s;exact⟨m,J,ok',H',σ',q,j⟩
 |_=>exact⟨ok',H',σ',q,s⟩
end
def CS {P:Program} {σ S:BL} {Q:Exit→BL→Prop} {c:Code} (f:Bz σ S) (h:AB P c S Q):AB P c σ Q:=⟨fun ro j C ok H a w m=>by
 obtain⟨ok',H',h'⟩:=f C ok H a w m
 exact h.run ro j C ok' H' a w h'⟩
section
variable {P : Program} {ops : Array Oper} {Q : Exit → Act → World → Prop}
def Mid {F:Fence} {n:Nat} (I:Array Bool→Act→World→Prop) (f:∀l a w,I l a w→l.size=ops.size)
 (q:∀l a w,I l a w→∀i,i∈Region.ready .any ops l→wpOpIn F n P ops Q i (fun a' w'=>I (l.setIfInBounds i true) a' w') a w)
 (m:∀l a w,I l a w→Region.ready .any ops l=[]→Q .normal a w):
 ∀(Az:Nat) l a w,toCome l≤Az→I l a w→wpAnyIn F n P .any ops Q Az l a w:=by
 intro Az
 induction Az with
 |zero=>
  intro l a w J u
  have L:Region.ready .any ops l=[]:=by
   unfold Region.ready;rw[aF1];intro i hi;have s:i<l.size:=by rw[f l a w u];simpa using hi
   have M:l.toList.filter (!·)=[]:=Gt (by unfold toCome at J;omega);rw[aF1]at M;have :=M (l[i]) BU;have z:l[i]=true:=aLa
   simp[Array.getD,s,z]
  exact⟨L,m l a w u L⟩
 |succ Az O=>
  intro l a w J u;refine⟨m l a w u,fun i hi=>?_⟩;have j:=hi;unfold Region.ready at j;rw[Gn]at j;have s:i<l.size:=by rw[f l a w u];simpa using j.1
  have S:l.getD i true=false:=by
   have :=j.2;simp only[DJ,RZ]at this;exact this.1
  have U:=toCome_set s S;exact wpOpIn_mono (fun a' w' h=>O _ a' w' AA h) (q l a w u i hi)
end
def G9 (o:Oper) (j:Nat):Bool:=o.after.toList.any fun e=>decide (e.on=j)&&Region.binds .any e
def VT (ops:Array Oper):Bool:=(List.range ops.size).all fun i=>match ops[i]? with
 |some o=>((List.range ops.size).all fun j=>match(ops[j]?).bind (·.dst)with
  |some d=> !(tmpsOf o).contains d||G9 o j||(match ops[j]? with |some f=>G9 f i|none=>false)
  |none=>true)&&(match o.guard with |some (j,_)=>G9 o j|none=>true)
 |none=>true
inductive FC (P:Program) (ops:Array Oper):List Oper→BL→List Ag→List (List BQ)→List Bool→BL→Prop
 |nil (σ:BL):FC P ops [] σ [] [] [] σ
 |op {o:Oper} {rest:List Oper} {σ σ':BL} {ns:List (Operand×Ag)} {x:Ag} {rs:List Ag} {ess:List (List BQ)} {bs:List Bool} (d:Option Tmp) (h:Bq P o ns σ.ents x σ.ents) (hn:needs σ ns)
  (hg:Va ops σ o.guard) (hd:o.dst=d) (ht:(Me ns).all (tmpsOf o).contains=true) (k:FC P ops rest (σ.rG d x) rs ess bs σ'):FC P ops (o::rest) σ (x::rs) (σ.ents::ess) (false::bs) σ'
 |oe {o:Oper} {rest:List Oper} {σ σ':BL} {ns:List (Operand×Ag)} {x:Ag} {es':List BQ} {rs:List Ag} {ess:List (List BQ)} {bs:List Bool} (d:Option Tmp) (E:List BQ) (h:Bq P o ns σ.ents x es') (he:es'=E) (hn:needs σ ns)
  (hg:Va ops σ o.guard) (hd:o.dst=d) (ht:(Me ns).all (tmpsOf o).contains=true) (k:FC P ops rest (σ.put d x E) rs ess bs σ'):FC P ops (o::rest) σ (x::rs) (E::ess) (true::bs) σ'
 |any {o:Oper} {rest:List Oper} {σ σ':BL} {x:Ag} {rs:List Ag} {ess:List (List BQ)} {bs:List Bool} (d:Option Tmp) (h:Qv P ops σ x σ.ents false o) (hd:o.dst=d) (k:FC P ops rest (σ.rG d x) rs ess bs σ'):FC P ops (o::rest) σ (x::rs) (σ.ents::ess) (false::bs) σ'
 |aeX {o:Oper} {rest:List Oper} {σ σ':BL} {x:Ag} {E:List BQ} {bar:Bool} {rs:List Ag} {ess:List (List BQ)} {bs:List Bool} (d:Option Tmp) (h:Qv P ops σ x E bar o) (hd:o.dst=d) (k:FC P ops rest (σ.put d x E) rs ess bs σ'):FC P ops (o::rest) σ (x::rs) (E::ess) (bar::bs) σ'
 |skip {o:Oper} {rest:List Oper} {σ σ':BL} {rs:List Ag} {ess:List (List BQ)} {bs:List Bool} (d:Option Tmp) (hg:X6 ops σ o.guard) (hd:o.dst=d) (k:FC P ops rest (σ.rG d (.d (.lit undef))) rs ess bs σ'):FC P ops (o::rest) σ (.d (.lit undef)::rs) (σ.ents::ess) (false::bs) σ'
section
variable {P : Program} {ops : Array Oper} {es : List BQ}
def Ef (ops:Array Oper) (σ0:BL) (r:Nat→Ag) (ev:Nat→List BQ):Nat→BL
 |0=>σ0
 |i+1=>match ops[i]? with
  |some o=>(Ef ops σ0 r ev i).put o.dst (r i) (ev i)
  |none=>Ef ops σ0 r ev i
def FC.facts {l:List Oper} {σ σ':BL} {rs:List Ag} {ess:List (List BQ)} {bs:List Bool} (h:FC P ops l σ rs ess bs σ') (σ0:BL) (r:Nat→Ag) (ev:Nat→List BQ) (bar:Nat→Bool):∀i,(∀k:Nat,l[k]? =ops[i+k]?)→i+l.length=ops.size→σ=Ef ops σ0 r ev i→
 (∀(k:Nat) y,rs[k]? =some y→r (i+k)=y)→(∀(k:Nat) y,ess[k]? =some y→ev (i+k)=y)→(∀(k:Nat) y,bs[k]? =some y→bar (i+k)=y)→
 (∀j (o:Oper),i≤j→ops[j]? =some o→Qv P ops (Ef ops σ0 r ev j) (r j) (ev j) (bar j) o)∧σ'=Ef ops σ0 r ev ops.size:=by
 induction h with
 |nil σ=>
  intro i u s q z _ _;have :i=ops.size:=P6
  subst this;refine⟨fun j o M ho=>?_,q⟩;have :=(Fq.1 ho).1;omega
 | @op o rest σ σ' ns x rs ess bs d ho hn hg hd ht k S=>
   intro i u s q z I O;subst hd;have J:ops[i]? =some o:=rV
   have L:r i=x:=aEp
   have m:ev i=σ.ents:=aM9
   obtain⟨U,Y⟩:=S (i+1) (fun k=>oQ) Rx (by
    rw[BL.Yz];simp only[Ef,J,L,m];rw[←q]) (fun k y n=>xC)
    (fun k y n=>UK) (fun k y n=>oN)
   refine⟨fun j Z M f=>?_,Y⟩;by_cases e:i=j
   ·subst e;rw[J]at f;obtain rfl:=Cm f;exact⟨.inl ⟨ns,by rw[L,m,←q];exact ho,q▸hn,ht,q▸hg⟩,fun _=>X5⟩
   exact U j Z AA f
 | @oe o rest σ σ' ns x es' rs ess bs d E ho hE hn hg hd ht k S=>
   intro i u s q z I O;subst hd;subst hE;have J:ops[i]? =some o:=rV
   have L:r i=x:=aEp
   have m:ev i=es':=by simpa using I 0 es' BU
   have hbr:bar i=true:=by simpa using O 0 true BU
   obtain⟨U,Y⟩:=S (i+1) (fun k=>oQ) Rx (by
    simp only[Ef,J,L,m];rw[←q]) (fun k y n=>xC)
    (fun k y n=>UK) (fun k y n=>oN)
   refine⟨fun j Z M f=>?_,Y⟩;by_cases e:i=j
   ·subst e;rw[J]at f;obtain rfl:=Cm f;exact⟨.inl ⟨ns,by rw[L,m,←q];exact ho,q▸hn,ht,q▸hg⟩,fun hf=>by rw[hbr]at hf;cases hf⟩
   exact U j Z AA f
 | @any o rest σ σ' x rs ess bs d hs hd k S=>
   intro i u s q z I O;subst hd;have J:ops[i]? =some o:=rV
   have L:r i=x:=aEp
   have m:ev i=σ.ents:=aM9
   obtain⟨U,Y⟩:=S (i+1) (fun k=>oQ) Rx (by
    rw[BL.Yz];simp only[Ef,J,L,m];rw[←q]) (fun k y n=>xC)
    (fun k y n=>UK) (fun k y n=>oN)
   refine⟨fun j Z M f=>?_,Y⟩;by_cases e:i=j
   ·subst e;rw[J]at f;obtain rfl:=Cm f;refine⟨?_,fun _=>X5⟩;rw[L,m,←q];exact hs.1
   exact U j Z AA f
 | @aeX o rest σ σ' x E br rs ess bs d hs hd k S=>
   intro i u s q z I O;subst hd;have J:ops[i]? =some o:=rV
   have L:r i=x:=aEp
   have m:ev i=E:=by simpa using I 0 E BU
   have hbr:bar i=br:=by simpa using O 0 br BU
   obtain⟨U,Y⟩:=S (i+1) (fun k=>oQ) Rx (by
    simp only[Ef,J,L,m];rw[←q]) (fun k y n=>xC)
    (fun k y n=>UK) (fun k y n=>oN)
   refine⟨fun j Z M f=>?_,Y⟩;by_cases e:i=j
   ·subst e;rw[J]at f;obtain rfl:=Cm f;rw[L,m,hbr,←q];exact hs
   exact U j Z AA f
 | @skip o rest σ σ' rs ess bs d hg hd k S=>
   intro i u s q z I O;subst hd;have J:ops[i]? =some o:=rV
   have L:r i=.d (.lit undef):=by simpa using z 0 (.d (.lit undef)) BU
   have m:ev i=σ.ents:=aM9
   obtain⟨U,Y⟩:=S (i+1) (fun k=>oQ) Rx (by
    rw[BL.Yz];simp only[Ef,J,L,m];rw[←q]) (fun k y n=>xC)
    (fun k y n=>UK) (fun k y n=>oN)
   refine⟨fun j Z M f=>?_,Y⟩;by_cases e:i=j
   ·subst e;rw[J]at f;obtain rfl:=Cm f;exact⟨.inr ⟨L,X5,q▸hg⟩,fun _=>X5⟩
   exact U j Z AA f
def SA {σ0:BL} {r:Nat→Ag} {ev:Nat→List BQ} {t:Nat}:∀i,(∀j (o:Oper),j<i→ops[j]? =some o→o.dst≠some t)→(Ef ops σ0 r ev i).slots.getD t .junk=σ0.slots.getD t .junk
 |0,_=>rfl
 |i+1,h=>by
  have f:=SA (σ0:=σ0) (r:=r) (ev:=ev) i (fun j o s m=>h j o AA m);simp only[Ef];split
  ·rename_i o m;have n:=h i o AA m;cases hd:o.dst with
   |none=>exact f
   |some d=>
    have q:d≠t:=fun e=>n (by rw[hd,e]);show((Ef ops σ0 r ev i).slots.set d (r i)).getD t .junk=_;rw[←f];simp[List.getD,WY q]
  exact f
def UM {σ0:BL} {r:Nat→Ag} {ev:Nat→List BQ}:∀i,(Ef ops σ0 r ev i).slots.length=σ0.slots.length
 |0=>rfl
 |i+1=>by
  simp only[Ef];split
  ·rename_i o f;cases hd:o.dst with
   |none=>exact UM i
   |some d=>show((Ef ops σ0 r ev i).slots.set d (r i)).length=_;rw[iJ];exact UM i
  exact UM i
def aDk {σ0:BL} {r:Nat→Ag} {ev:Nat→List BQ}:∀i,(Ef ops σ0 r ev i).base=σ0.base
 |0=>rfl
 |i+1=>by
  simp only[Ef];split
  ·exact aDk i
  exact aDk i
def Ug {σ0:BL} {r:Nat→Ag} {ev:Nat→List BQ} (f:∀(i j:Nat) (o m:Oper) (d:Tmp),ops[i]? =some o→ops[j]? =some m→o.dst=some d→m.dst=some d→i=j) {t j:Nat} {o:Oper} (n:ops[j]? =some o) (hd:o.dst=some t) (I:t<σ0.slots.length):
 ∀i,j<i→(Ef ops σ0 r ev i).slots.getD t .junk=r j
 |0,h=>AA
 |i+1,h=>by
  by_cases e:j=i
  ·subst e;simp only[Ef,n,hd];have J:t<(Ef ops σ0 r ev j).slots.length:=by rw[UM];exact I
   show((Ef ops σ0 r ev j).slots.set t (r j)).getD t .junk=_;simp[List.getD,J]
  have q:=Ug (r:=r) (ev:=ev) f n hd I i AA;simp only[Ef];split
  ·rename_i m s;cases u:m.dst with
   |none=>exact q
   |some d=>
    have z:d≠t:=fun e'=>e (f j i o m t n s hd (by rw[u,e']));show((Ef ops σ0 r ev i).slots.set d (r i)).getD t .junk=_;rw[←q];simp[List.getD,WY z]
  exact q
def aHw (h:VT ops=true):∀(i:Nat) (o:Oper),ops[i]? =some o→(∀(j:Nat) (n:Oper) (d:Tmp),ops[j]? =some n→n.dst=some d→d∈tmpsOf o→G9 o j=true∨G9 n i=true)∧(∀j b,o.guard=some (j,b)→G9 o j=true):=by
 intro i o s;unfold VT at h;rw[ER]at h;have hi:i<ops.size:=(Fq.1 s).1;have q:=h i Fj;rw[s]at q;simp only[DJ,ER]at q;refine⟨fun j n d m hd u=>?_,fun j b z=>?_⟩
 ·have I:j<ops.size:=(Fq.1 m).1;have f:=q.1 j yD;rw[m]at f;simp only[Ac,hd,bV,RZ]at f;rcases f with(f|f)|f
  ·have :(tmpsOf o).contains d=true:=Rh
   rw[this]at f;cases f
  ·exact .inl f
  exact .inr f
 have f:=q.2;rw[z]at f;exact f
def Xo (ops:Array Oper) (bs:List Bool):Bool:=(List.range ops.size).all fun i=> !(bs.getD i false)||
 (((List.range i).all fun j=>(List.range (i+1)).any fun m=>decide (j<m)&&(match ops[m]? with |some o=>G9 o j|none=>false))&&
  ((List.range ops.size).all fun k=> !decide (i<k)||(List.range k).any fun m=>decide (i≤m)&&(match ops[k]? with |some o=>G9 o m|none=>false)))
def VQ {bs:List Bool} (h:Xo ops bs=true) {i:Nat} (hi:i<ops.size) (L:bs.getD i false=true) {D:Nat→Prop} (hd:∀(j:Nat) (o:Oper),ops[j]? =some o→D j→∀m,G9 o m=true→D m)
 (M:∀(o:Oper),ops[i]? =some o→∀m,G9 o m=true→D m):∀j,j<i→D j:=by
 unfold Xo at h;rw[ER]at h;have u:=h i Fj;simp only[L,EW,Ll,DJ,ER]at u
 have key:∀n j,i-j≤n→j<i→D j:=by
  intro n
  induction n with
  |zero=>intro j O z;omega
  |succ n S=>
   intro j O z;have I:=u.1 j bf;rw[Hd]at I;obtain⟨m,U,J⟩:=I;simp only[qB]at U;simp only[DJ,Gi]at J;obtain⟨Z,f⟩:=J;have q:m<ops.size:=AA
   have s:ops[m]? =some ops[m]:=by simp[q]
   rw[s]at f;by_cases e:m=i
   ·subst e;exact M _ s j f
   exact hd m _ s (S m AA AA) j f
 exact fun j Y=>key (i-j) j (E9 _) Y
def aC9 {bs:List Bool} (h:Xo ops bs=true) {i:Nat} (hi:i<ops.size) (O:bs.getD i false=true) {D:Nat→Prop} (hd:∀(j:Nat) (o:Oper),ops[j]? =some o→D j→∀m,G9 o m=true→D m):
 ∀k,i<k→∀(o:Oper),ops[k]? =some o→(∀m,G9 o m=true→D m)→D i:=by
 unfold Xo at h;rw[ER]at h;have z:=h i Fj;simp only[O,EW,Ll,DJ,ER]at z;intro k
 induction k using Nat.strongRecOn with
 |_ k S=>
  intro s o I f;have U:k<ops.size:=(Fq.1 I).1;have J:=z.2 k oM;simp only[s,decide_true,EW,Ll,Hd]at J;obtain⟨m,L,M⟩:=J;simp only[qB]at L;simp only[DJ,Gi,I]at M;obtain⟨Z,Y⟩:=M;have n:=f m Y;by_cases e:m=i
  ·subst e;exact n
  have u:m<ops.size:=AA
  have q:ops[m]? =some ops[m]:=ZA
  exact S m L AA _ q (hd m _ q n)
def VJ (ops:Array Oper):Bool:=(List.range ops.size).all fun i=>match ops[i]? with
 |some o=>o.after.toList.all fun(e:Edge)=> !Region.binds .any e||decide (e.on<i)
 |none=>true
def aJu (h:VJ ops=true):∀(i:Nat) (o:Oper),ops[i]? =some o→∀e∈o.after.toList,Region.binds .any e=true→e.on<i:=by
 intro i o f e j m;unfold VJ at h;rw[ER]at h;have hi:i<ops.size:=(Fq.1 f).1;have :=h i Fj;rw[f]at this;rw[ER]at this;have :=this e j;simpa[m]using this
def AB.draw {id:Nat} {σ σ':BL} {Q:Exit→BL→Prop} {rs:List Ag} {ess:List (List BQ)} {bs:List Bool} (hm:P.follows .mixedOrders=true) (S:(VJ ops&&WM ops&&UR ops σ.slots.length&&VT ops)=true) (Y:Xo ops bs=true)
 (h:FC P ops ops.toList σ rs ess bs σ') (hQ:Q .normal σ'):AB P (.region id ops true) σ Q:=by
 refine⟨fun ro _ C ok H a w hh=>?_⟩;simp only[DJ]at S;obtain⟨⟨⟨he,hd⟩,hs⟩,hc⟩:=S;have Px:=aJu he;have hinj:=aLh hd;have S:=aHw hc
 have Hz:∀(i:Nat) (o:Oper) (d:Tmp),ops[i]? =some o→o.dst=some d→d<σ.slots.length:=by
  intro i o d h1 h2;unfold UR at hs;rw[ER]at hs;simpa using hs d (aLH h1 h2)
 let r:Nat→Ag:=fun i=>rs.getD i .junk
 let ev:Nat→List BQ:=fun i=>ess.getD i []
 let bar:Nat→Bool:=fun i=>bs.getD i false
 obtain⟨Iw,hend⟩:=h.facts σ r ev bar 0 (fun k=>BU) BU rfl (fun k y hy=>aIC) (fun k y hy=>aHE) (fun k y hy=>by simp[bar,List.getD,hy])
 let U:Nat→BL:=Ef ops σ r ev
 have hU:∀i,i<ops.size→(U (i+1)).ents=ev i:=by
  intro i hi;have M:ops[i]? =some ops[i]:=QE
  show(Ef ops σ r ev (i+1)).ents=_;simp only[Ef,M];rfl
 have hconst:∀n lo,(∀b,lo≤b→b<lo+n→bar b=false)→lo+n≤ops.size→(U (lo+n)).ents=(U lo).ents:=by
  intro n
  induction n with
  |zero=>intro lo _ _;rfl
  |succ n ih=>
   intro lo z hle;have h1:=ih lo (fun b h1 h2=>z b h1 AA) AA;have hi:lo+n<ops.size:=AA
   have M:ops[lo+n]? =some ops[lo+n]:=QE
   have h2:=(Iw (lo+n) _ AA M).2 (z (lo+n) AA AA);rw[←NP,hU _ hi,h2];exact h1
 have J:∀lo hi,lo≤hi→hi≤ops.size→(∀b,lo≤b→b<hi→bar b=false)→(U hi).ents=(U lo).ents:=by
  intro lo hi h1 h2 h3;obtain⟨n,rfl⟩:=aIP h1;exact hconst n lo h3 h2
 refine aBz hm ?_
 let I:Array Bool→Act→World→Prop:=fun l a w=>l.size=ops.size∧∃ok H m,m≤ops.size∧(∀b,bar b=true→b<ops.size→(l.getD b false=true↔b<m))∧D5 C ok H (U m).ents w∧a.tmps.size=σ.slots.length∧Marks C ok w a.defers∧
  (∀t,t<σ.slots.length→(∀(j:Nat) (o:Oper),ops[j]? =some o→o.dst=some t→l.getD j false=false)→R ok w H (σ.slots.getD t .junk) (a.tmps.getD t undef))∧
  (∀(i:Nat) (o:Oper) (d:Tmp),ops[i]? =some o→o.dst=some d→l.getD i false=true→R ok w H (r i) (a.tmps.getD d undef))∧
  (∀(j:Nat) (o:Oper),ops[j]? =some o→l.getD j false=true→∀i,G9 o i=true→l.getD i false=true)
 refine Mid I (fun l a w h=>h.1) ?_ ?_ ops.size _ _ _ ?_ ?_
 ·rintro l a w ⟨h1,ok,H,m,Lu,u,hmem0,hsz,hdf,h5,h6,h7⟩ i hi;unfold Region.ready at hi;rw[Gn]at hi;obtain⟨hi1,hi2⟩:=hi;have hi':i<ops.size:=aAy
  have M:ops[i]? =some ops[i]:=by simp[hi']
  simp only[DJ]at hi2;have Py:=hi2.2;rw[M]at Py;simp only[IB,MC]at Py;have ahd:=fun e he=>(QF.1 Py) e he
  have Z:∀j,G9 ops[i] j=true→l.getD j false=true∧j<i:=by
   intro j s;unfold G9 at s;rw[Hd]at s;obtain⟨e,hee,s⟩:=s;simp only[DJ,Gi]at s;have :=ahd e aM2;simp only[s.2,EW,Ll]at this;rw[s.1]at this;exact⟨this,s.1▸Px i _ M e hee s.2⟩
  have L:l.getD i false=false:=by
   have h8:=hi2.1;have hil:i<l.size:=AA
   simp[Array.getD,hil]at h8 ⊢;exact h8
  have O:∀(j:Nat) (o:Oper),ops[j]? =some o→l.getD j false=true→∀m,G9 o m=true→l.getD m false=true:=fun j o s hl m hm=>h7 j o s hl m hm
  have hmem:D5 C ok H (U i).ents w:=by
   have hE:(U i).ents=(U m).ents:=by
    by_cases him:i≤m
    ·refine(J i m him Lu (fun b h2 h3=>?_)).symm;rw[←Kz];intro z;have hbl:=(u b z AA).2 h3;by_cases e:b=i
     ·subst e;rw[L]at hbl;cases hbl
     have hob:ops[b]? =some (ops[b]' AA):=by simp[show b<ops.size by omega]
     have :=VQ Y (show b<ops.size by omega) z (D:=fun j=>l.getD j false=true) O (fun o M m hm=>O b o M hbl m hm) i AA;rw[L]at this;cases this
    refine J m i AA AA (fun b h2 h3=>?_);rw[←Kz];intro z;have :=aC9 Y (show b<ops.size by omega) z (D:=fun j=>l.getD j false=true) O i h3 _ M (fun m hm=>(Z m hm).1);exact absurd ((u b z AA).1 this) AA
   rw[hE];exact hmem0
  have hread:∀t,t∈tmpsOf ops[i]→R ok w H ((Ef ops σ r ev i).slots.getD t .junk) (a.tmps.getD t undef):=by
   intro t ht;by_cases hw:∃(j:Nat) (o:Oper),ops[j]? =some o∧o.dst=some t
   ·obtain⟨j,o,s,q⟩:=hw;rcases(S i _ M).1 j o t s q ht with hce|hce
    ·obtain⟨hdj,hji⟩:=Z j hce;rw[Ug hinj s q (Hz j o t s q) i hji];exact h6 j o t s q hdj
    have hij:i<j:=by
     unfold G9 at hce;rw[Hd]at hce;obtain⟨e,hee,hce⟩:=hce;simp only[DJ,Gi]at hce;exact hce.1▸Px j _ s e hee hce.2
    rw[SA i (fun j' o' hj' ho' hd'=>aQg)];refine h5 t (Hz j o t s q) (fun j' o' ho' hd'=>?_);have hjj:=hinj j j' o o' t s ho' q hd';subst hjj;rw[←Kz];intro hd;rw[h7 j o s hd i hce]at L;cases L
   have hw':∀(j:Nat) (o:Oper),ops[j]? =some o→o.dst≠some t:=fun j o h1 h2=>hw ⟨j,o,h1,h2⟩;rw[SA i (fun j o _ s=>hw' j o s)];by_cases htn:t<σ.slots.length
   ·exact h5 t htn (fun j o s q=>absurd q (hw' j o s))
   rw[ku htn];exact .junk _
  have Vl:∀j d v,G9 ops[i] j=true→(ops[j]?).bind (·.dst)=some d→(Ef ops σ r ev i).slots.getD d .junk=.d (.lit v)→yielded ops a.tmps j=(match v with | .bool b=>some b|_=>none):=by
   intro j d v s q z;cases hoj:ops[j]? with
   |none=>rw[hoj]at q;simp at q
   |some oj=>
    rw[hoj]at q;simp only[Ac]at q;obtain⟨hdj,hji⟩:=Z j s;have hdn:=Hz j oj d hoj q;rw[Ug hinj hoj q hdn i hji]at z;have hv:=(z▸h6 j oj d hoj q hdj).bool
    have hs:a.tmps[d]? =some v:=by
     have :d<a.tmps.size:=by rw[hsz];exact hdn
     simp[Array.getD,this]at hv;simp[this,hv]
    unfold yielded;rw[hoj];simp only[Ac,q,hs];cases v<;>rfl
  have hput:∀(x:Ag) (v:Value) (ok':Nat→Prop) (H':List Bo) (w':World),x=r i→EO ok w ok' w'→Names H H'→D5 C ok' H' (ev i) w'→R ok' w' H' x v→I (l.setIfInBounds i true) (a.put ops[i].dst v) w':=by
   intro x v ok' H' w' hx hgr hnm hmem' hR;subst hx
   have hother:∀(d t:Nat),ops[i].dst=some d→d≠t→(a.put ops[i].dst v).tmps.getD t undef=a.tmps.getD t undef:=by
    intro d t hd hne;rw[hd];exact aJq hne
   obtain⟨m',al5,adB,al6⟩:∃m',m'≤ops.size∧(∀b,bar b=true→b<ops.size→((l.setIfInBounds i true).getD b false=true↔b<m'))∧D5 C ok' H' (U m').ents w':=by
    have hget:∀b,b≠i→(l.setIfInBounds i true).getD b false=l.getD b false:=fun b z=>by
     simp only[Gu,Js (Ne.symm z)]
    have al7:(l.setIfInBounds i true).getD i false=true:=aJz
    cases hbi:bar i with
    |false=>
     refine⟨m,Lu,fun b z hbs=>?_,?_⟩
     ·have hne:b≠i:=fun e=>by subst e;rw[hbi]at z;cases z
      rw[hget b hne];exact u b z hbs
     have h2:=(Iw i _ AA M).2 hbi;rw[h2]at hmem'
     have hE:(U i).ents=(U m).ents:=by
      by_cases him:i≤m
      ·refine(J i m him Lu (fun b h2 h3=>?_)).symm;rw[←Kz];intro z;have hbl:=(u b z AA).2 h3;by_cases e:b=i
       ·subst e;rw[L]at hbl;cases hbl
       have :=VQ Y (show b<ops.size by omega) z (D:=fun j=>l.getD j false=true) O (fun o M m hm=>O b o M hbl m hm) i AA;rw[L]at this;cases this
      refine J m i AA AA (fun b h2 h3=>?_);rw[←Kz];intro z;have :=aC9 Y (show b<ops.size by omega) z (D:=fun j=>l.getD j false=true) O i h3 _ M (fun m hm=>(Z m hm).1);exact absurd ((u b z AA).1 this) AA
     rw[←hE];exact hmem'
    |true=>
     refine⟨i+1,AA,fun b z hbs=>?_,by rw[hU i hi'];exact hmem'⟩;by_cases e:b=i
     ·subst e;rw[al7];simp
     rw[hget b e];constructor
     ·intro hbl;apply Xu;intro hn;have :=VQ Y hbs z (D:=fun j=>l.getD j false=true) O (fun o M m hm=>O b o M hbl m hm) i AA;rw[L]at this;cases this
     intro hlt;exact VQ Y hi' hbi (D:=fun j=>l.getD j false=true) O (fun o ho' m hm=>by rw[M]at ho';obtain rfl:=Cm ho';exact(Z m hm).1) b AA
   refine⟨by simp[h1],ok',H',m',al5,adB,al6,aJt,aL0,?_,?_,?_⟩
   ·intro t ht hno
    have hne:ops[i].dst≠some t:=by
     intro e;have :=hno i _ M e;simp[Array.getD,h1,hi']at this
    have hold:(a.put ops[i].dst v).tmps.getD t undef=a.tmps.getD t undef:=by
     cases hdi:ops[i].dst with
     |none=>rfl
     |some d=>exact hdi▸hother d t hdi (fun e=>hne (by rw[hdi,e]))
    rw[hold];refine(h5 t ht (fun j o s q=>?_)).mono hgr hnm;have hij:i≠j:=fun e=>by subst e;rw[M]at s;obtain rfl:=Cm s;exact hne q
    have :=hno j o s q;simpa only[Gu,Js hij]using this
   ·intro k o d hk hkd hl;by_cases hik:i=k
    ·subst hik;rw[M]at hk;obtain rfl:=Cm hk;rw[hkd,aNW (by rw[hsz];exact Hz i _ d M hkd)];exact hR
    have hl':l.getD k false=true:=by
     simp only[Gu,Js hik]at hl ⊢;exact hl
    have :=(h6 k o d hk hkd hl').mono hgr hnm;cases hdst:ops[i].dst with
    |none=>exact this
    |some d'=>
     have hne:d'≠d:=fun e=>hik (hinj i k _ _ d' M hk hdst (e▸hkd));rw[←hdst,hother d' d hdst hne];exact this
   intro j o s hl k hk;have hil:i<l.size:=AA
   by_cases hik:i=k
   ·subst hik;simp[Array.getD,hil]
   have hkk:l.getD k false=true:=by
    by_cases hij:i=j
    ·subst hij;rw[M]at s;obtain rfl:=Cm s;exact(Z k hk).1
    have hl':l.getD j false=true:=by
     simp only[Gu,Js hij]at hl ⊢;exact hl
    exact h7 j o s hl' k hk
   simp only[Gu,Js hik]at hkk ⊢;exact hkk
  unfold wpOpIn;rw[M];show if Region.wanted ops[i] (yielded ops a.tmps)=true then _ else _
  rcases(Iw i ops[i] AA M).1 with⟨ns,hop,aeY,hnt,hg⟩|⟨hx,hev,hg⟩
  ·have hwant:Region.wanted ops[i] (yielded ops a.tmps)=true:=by
    unfold Region.wanted;rcases hg with hg|⟨j,want,d,b,hg,s,z,rfl⟩
    ·rw[hg]
    rw[hg];show(yielded ops a.tmps j==some b)=true;rw[Vl j d _ ((S i _ M).2 j b hg) s z];simp
   rw[D7 hwant];refine QD ?_ (hop.inR ro C ok H a w _ hmem (fun n hn=>?_))
   ·rintro a' w' ⟨v,ok',H',rfl,hgr,hnn,hm',hx⟩;exact hput _ v ok' H' w' rfl hgr hnn hm' hx
   have hnv:=Oa aeY n hn;obtain⟨x,y⟩:=n;simp only at hnv ⊢;subst hnv;cases x with
   |tmp t=>
    refine hread t ?_;rw[ER]at hnt
    have :t∈Me ns:=by
     unfold Me;rw[Rw];exact⟨_,hn,rfl⟩
    simpa using hnt t this
   |const v=>exact .d _ _ (.lit v)
   |global g=>exact .d _ _ (.lit _)
   |func f=>exact .d _ _ (.fn (.func f) [] [] #[] #[] rfl rfl (fun i hi=>Ns) (fun i hi=>Ns))
  have hwant:Region.wanted ops[i] (yielded ops a.tmps)=false:=by
   unfold Region.wanted;obtain⟨j,want,d,v,hg,s,z,hv⟩:=hg;rw[hg];show(yielded ops a.tmps j==some want)=false;rw[Vl j d _ ((S i _ M).2 j want hg) s z];rcases hv with rfl|rfl
   ·simp
   rfl
  rw[DF (by rw[hwant];simp)];exact⟨fun _ _=>trivial,hput _ _ ok H w hx.symm (.refl _ _) (.refl _) (by rw[hev];exact hmem) (.d _ _ (.lit _))⟩
 ·rintro l a w ⟨h1,ok,H,m,Lu,u,hmem,hsz,hdf,h5,h6,h7⟩ hr
  have hall:∀n i,i<n→i<ops.size→l.getD i false=true:=by
   intro n
   induction n with
   |zero=>intro i hi;omega
   |succ n ih=>
    intro i hi hi2;by_cases hn:i<n
    ·exact ih i hn hi2
    have hin:i=n:=AA
    subst hin;rw[←aMG];intro hf;have M:ops[i]? =some ops[i]:=by simp[hi2]
    have hmem:i∈Region.ready .any ops l:=by
     unfold Region.ready;rw[Gn];refine⟨by simpa using hi2,?_⟩;have hil:i<l.size:=AA
     have hf':l.getD i true=false:=aCo
     rw[hf',M];simp only[IX,Fe,IB,MC];rw[QF];intro e he;cases hbe:Region.binds .any e with
     |false=>simp
     |true=>
      have hlt:=Px i _ M e sG hbe;rw[ih e.on AA AA];simp
    rw[hr]at hmem;simp at hmem
  refine⟨ok,H,σ',?_,hQ⟩;subst hend
  have hE:(U ops.size).ents=(U m).ents:=J m ops.size Lu (E9 _) (fun b h2 h3=>by
   rw[←Kz];intro z
   exact absurd ((u b z h3).1 (hall (b+1) b AA h3)) AA)
  refine⟨by show D5 C ok H (U ops.size).ents w;rw[hE];exact hmem,by rw[UM];exact hsz,hdf,aJn,fun t ht=>?_⟩;rw[UM]at ht;by_cases hw:∃(j:Nat) (o:Oper),ops[j]? =some o∧o.dst=some t
  ·obtain⟨j,o,s,q⟩:=hw;have hjn:j<ops.size:=(Fq.1 s).1;rw[Ug hinj s q ht ops.size hjn];exact h6 j o t s q (hall (j+1) j AA hjn)
  have hw':∀(j:Nat) (o:Oper),ops[j]? =some o→o.dst≠some t:=fun j o h1 h2=>hw ⟨j,o,h1,h2⟩;rw[SA ops.size (fun j o _ s=>hw' j o s)];exact h5 t ht (fun j o s q=>absurd q (hw' j o s))
 ·unfold toCome;simp
 refine⟨BU,ok,H,0,EY _,fun b z _=>aGD,?_,hh.size,hh.defers.mono (fun b z=>⟨z,rfl⟩),fun t ht _=>?_,fun i o d _ _ hl=>?_,fun j o _ hl=>?_⟩
 ·exact⟨⟨hh.mem.fr.os,hh.mem.fr.tape,hh.mem.fr.output,hh.mem.fr.size,hh.mem.fr.block⟩,hh.mem.yA,hh.mem.yB,hh.mem.kL,hh.mem.names,hh.mem.hlen,fun k e h h1 h2=>(hh.mem.ent k e h h1 h2).drew,hh.mem.blk,hh.mem.EJ⟩
 ·exact R.mono (w:=w) (ok:=ok) (w':={ w with drawn:=w.drawn+1 }) (fun b z=>⟨z,rfl⟩) (.refl _) (hh.slot t ht)
 ·simp[Array.getD]at hl
 simp[Array.getD]at hl
end
def Ap (P:Program) (f:FuncId) (args:List Ag) (E:List BQ) (j:Ag) (E':List BQ):Prop:=
 ∀(ok:Nat→Prop) (X:List Nat) (H:List Bo) (w:World) (h:Array Value),D5 ⟨w,ok,X,H⟩ ok H E w→h.size=args.length→(∀i,i<args.length→R ok w H (args.getD i .junk) (h.getD i undef))→
  Calls P f h w fun e w'=>∃v ok' H',e=.returned v∧D5 ⟨w,ok,X,H⟩ ok' H' E' w'∧R ok' w' H' j v
def Holds.avi {C:EI} {ok:Nat→Prop} {H:List Bo} {σ:BL} {a:Act} {w:World} (h:Holds C ok H σ a w) (t:Nat):R ok w H (σ.slots.getD t .junk) (a.tmps.getD t undef):=h.get (.tmp t)
def BL.enter (args:List Ag) (n:Nat) (E:List BQ):BL:=⟨args++List.replicate (n-args.length) .junk,E,E.length⟩
def R.lit {ok:Nat→Prop} {w:World} {H:List Bo} {u v:Value} (h:R ok w H (.d (.lit u)) v):v=u:=by
 cases h with |d _ _ h=>cases h;rfl
structure EC (P:Program) (t:TypeId) (agg:Bool) (size:Nat):Prop where
 agg:∀w,(isAgg t).run P w=.ok agg w
 size:∀w,(sizeOf t).run P w=.ok size w
def aI0 (P:Program) (t:TypeId) (agg:Bool) (size:Nat):Bool:=
 (match P.underlying t with |some (.struct _)|some (.array _ _)=>agg|some _=> !agg|none=>false)&&(match P.info? t with |some i=>decide (i.size=size)|none=>false)
def FD {P:Program} {t:TypeId} {agg:Bool} {size:Nat} (h:aI0 P t agg size=true):EC P t agg size:=by
 unfold aI0 at h;simp only[DJ]at h;refine⟨fun w=>?_,fun w=>?_⟩
 ·have j:=h.1;cases m:P.underlying t with
  |none=>rw[m]at j;cases j
  |some d=>
   rw[m]at j;have e:(underlying t).run P w=.ok d w:=by simp[underlying,m]
   simp only[isAgg,F7,e,FI];cases d<;>cases agg<;>simp_all
 have f:=h.2;cases hi:P.info? t with
 |none=>rw[hi]at f;cases f
 |some i=>
  rw[hi]at f;have :i.size=size:=KZ
  simp[sizeOf,typeInfo,hi,this]
section
variable {P : Program} {o : Oper} {es : List BQ}
def Ju {α:Type} {p:α→Prop} {a:α} (h:∀n∈[a],p n):p a:=h a BU
def Ee {α:Type} {p:α→Prop} {a b:α} (h:∀n∈[a,b],p n):p a∧p b:=⟨h a BU,h b BU⟩
def atG {x:Operand} {v:Ag} (f:o.op=.move x):Bq P o [(x,v)] es v es:=
 .pure fun _ _ a _ _ _ h=>⟨a.eval x,by simp[execOp,f],h (x,v) BU⟩
def asr {x:Operand} {v:Ag} (f:o.op=.assign x):Bq P o [(x,v)] es v es:=
 .pure fun _ _ a _ _ _ h=>⟨a.eval x,by simp[execOp,f],h (x,v) BU⟩
def akF {c x y:Operand} {v:Ag} (b:Bool) (h:b=true) (j:o.op=.pick c x y):Bq P o [(c,.d (.lit (.bool b))),(x,v)] es v es:=
 .pure fun _ _ a _ _ _ f=>⟨a.eval x,by
  have :=(Ee f).1.lit;simp only at this
  simp[execOp,j,this,asBool,h],(Ee f).2⟩
def apK {c x y:Operand} {v:Ag} (b:Bool) (h:b=false) (j:o.op=.pick c x y):Bq P o [(c,.d (.lit (.bool b))),(y,v)] es v es:=
 .pure fun _ _ a _ _ _ f=>⟨a.eval y,by
  have :=(Ee f).1.lit;simp only at this
  simp[execOp,j,this,asBool,h],(Ee f).2⟩
def Gg {op:BinOp} {t t':TypeId} {x y:Operand} {u v r:Value} (n:o.op=.binOp op t x y t') (h:∀w,(binOp op t u v).run P w=.ok r w) (q:u.oneCell'=true∧u matches .int _ _| .string _| .bool _):
 Bq P o [(x,.d (.lit u)),(y,.d (.lit v))] es (.d (.lit r)) es:=
 .pure fun _ _ a w _ _ f=>⟨r,by
  have j:=(Ee f).1.lit;have m:=(Ee f).2.lit;simp only at j m
  have s:(eqGuard op t x y u v).run P w=.ok () w:=by
   unfold eqGuard;cases u<;>simp at q<;>(cases op<;>simp[pure,Sem.run_pure'])
  simp only[execOp,n,j,m,F7,s,h w,FI,Fr],.d _ _ (.lit _)⟩
def aKE {op:UnOp} {t:TypeId} {x:Operand} {u r:Value} (j:o.op=.unOp op t x) (h:∀w,(Op.unary op u).run P w=.ok r w):Bq P o [(x,.d (.lit u))] es (.d (.lit r)) es:=
 .pure fun _ _ a w _ _ m=>⟨r,by
  have f:=(Ju m).lit;simp only at f
  simp only[execOp,j,f,F7,h w,FI,Fr],.d _ _ (.lit _)⟩
def adl {s t:TypeId} {x:Operand} {u r:Value} (j:o.op=.convert s t x) (h:∀w,(convert s t u).run P w=.ok r w):Bq P o [(x,.d (.lit u))] es (.d (.lit r)) es:=
 .pure fun _ _ a w _ _ m=>⟨r,by
  have f:=(Ju m).lit;simp only at f
  simp only[execOp,j,f,F7,h w,FI,Fr],.d _ _ (.lit _)⟩
def aiE {x:Operand} {i:Nat} {xs:List Ag} {v:Ag} (q:o.op=.extract x i) (s:xs[i]? =some v):Bq P o [(x,.fP xs)] es v es:=
 .pure fun ok H a w _ _ z=>by
  have j:=Ju z;simp only at j;generalize I:a.eval x=u at j;cases j with
  |fP _ vs M h=>
   obtain⟨hi,m⟩:=FV.1 s;have n:=h i hi;have J:xs.getD i .junk=v:=by simp[List.getD,hi,m]
   have f:i<vs.size:=AA
   have L:vs.getD i undef=vs[i]:=by simp[Array.getD,f]
   rw[J,L]at n;exact⟨vs[i],by simp[execOp,q,I,Instr.extract,f],n⟩
def arF {x:Operand} {t e:TypeId} {xs:List D} (q:P.underlying t=some (.slice e)) (j:o.op=.call { callee:=.builtin .len,args:= #[x],argTypes:= #[t] }):
 Bq P o [(x,.d (.sl xs))] es (.d (.lit (.int .i64 xs.length))) es:=
 .pure fun ok H a w _ _ s=>by
  have f:=Ju s;simp only at f;generalize m:a.eval x=u at f;have n:(underlying t).run P w=.ok (.slice e) w:=by simp[underlying,q]
  refine⟨_,?_,.d _ _ (.lit _)⟩;cases f with
  |d _ _ h=>
   cases h with
   |sl0 ad cap=>simp[execOp,j,resolve,invoke,builtin,Builtin.len_,m,n,goInt]
   |sl _ b off cap size=>simp[execOp,j,resolve,invoke,builtin,Builtin.len_,m,n,goInt]
def an2 {x:Operand} {t:TypeId} {s:ByteArray} (h:P.underlying t=some .string) (j:o.op=.call { callee:=.builtin .len,args:= #[x],argTypes:= #[t] }):
 Bq P o [(x,.d (.lit (.string s)))] es (.d (.lit (.int .i64 s.size))) es:=
 .pure fun ok H a w _ _ m=>by
  have f:=(Ju m).lit;simp only at f;have n:(underlying t).run P w=.ok .string w:=aJJ
  exact⟨_,by simp[execOp,j,resolve,invoke,builtin,Builtin.len_,f,n,goInt],.d _ _ (.lit _)⟩
def G7 {es:List BQ} {H:List Bo} {ok:Nat→Prop} {w:World} (m:∀(k:Nat) (e:BQ) (h:Bo),es[k]? =some e→H[k]? =some h→Em ok w H h e) (n:H.length=es.length) {k:Nat} {e:BQ} (j:es[k]? =some e):
 ∃h,H[k]? =some h∧Em ok w H h e:=by
 have f:k<H.length:=by rw[n];exact(FV.1 j).1
 exact⟨H[k],Vk,m k e _ j Vk⟩
def aoq {x:Operand} {t e e':TypeId} {k s:Nat} {xs:List D} (M:es[k]? =some (.arr e' s xs)) (O:P.underlying t=some (.slice e)) (S:o.op=.call { callee:=.builtin .len,args:= #[x],argTypes:= #[t] }):
 Bq P o [(x,.aO k)] es (.d (.lit (.int .i64 xs.length))) es:=
 .pure fun ok H a w f U Y=>by
  have j:=Ju Y;simp only at j;generalize Z:a.eval x=u at j;have hu:(underlying t).run P w=.ok (.slice e) w:=by simp[underlying,O]
  obtain⟨h,hh,m⟩:=G7 f U M;refine⟨_,?_,.d _ _ (.lit _)⟩;cases j with
  |aO _ ad n cap s' J=>
   rw[hh]at J;obtain rfl:=Cm J;obtain⟨_,_,ys,⟨_,q⟩,_⟩:=m
   have z:n=xs.length:=by
    rcases q with⟨I,h3⟩|⟨g,L,cur,I,_⟩
    ·simp at I;omega
    simp at I;omega
   subst z;simp[execOp,S,resolve,invoke,builtin,Builtin.len_,Z,hu,goInt]
structure DY (P:Program) (t:TypeId) (f off:Nat):Prop where
 run:∀(b o:Nat) w,(Instr.fieldAt t (.pointer (some ⟨b,o,none⟩)) f).run P w=.ok (.pointer (some ⟨b,o+off,none⟩)) w
def abN (P:Program) (t:TypeId) (f off:Nat):Bool:=
 match P.underlying t with
 |some (.struct j)=>match j[f]? with
  |some h=>decide (h.offset=off)&&(match P.info? h.type with |some i=>decide (i.size≠0)|none=>false)
  |none=>false
 |_=>false
def Dq {P:Program} {t:TypeId} {f off:Nat} (h:abN P t f off=true):DY P t f off:=by
 unfold abN at h;refine⟨fun b o w=>?_⟩;split at h
 ·rename_i n q;split at h
  ·rename_i s u;simp only[DJ,Gi]at h;obtain⟨z,j⟩:=h;split at j
   ·rename_i i hi;have I:(sizeOf s.type).run P w=.ok i.size w:=by simp[sizeOf,typeInfo,hi]
    have J:i.size≠0:=Ny
    have m:(underlying t).run P w=.ok (.struct n) w:=by simp[underlying,q]
    simp[Instr.fieldAt,m,u,Instr.sureAddr,fieldPlace,I,J,addr_add,z]
   cases j
  cases h
 cases h
def aiZ {x:Operand} {t:TypeId} {f off j:Nat} {cs:List D} (s:DY P t f off) (z:o.op=.fieldAddr t x f):Bq P o [(x,.d (.ref cs j))] es (.d (.ref cs (j+off))) es:=
 .pure fun ok H a w _ _ I=>by
  have m:=Ju I;simp only at m;generalize J:a.eval x=u at m;cases m with
  |d _ _ h=>
   cases h with
   |ref _ _ b p n q L M=>
    refine⟨.pointer (some ⟨b,p+(j+off),none⟩),?_,.d _ _ (.ref cs (j+off) b p n q L M)⟩;simp only[execOp,z,J,F7,s.run,FI,Fr,NP]
def asi {x:Operand} {t:TypeId} {f off k j:Nat} (n:DY P t f off) (q:o.op=.fieldAddr t x f):Bq P o [(x,.ptr k j)] es (.ptr k (j+off)) es:=
 .pure fun ok H a w _ _ z=>by
  have m:=Ju z;simp only at m;generalize I:a.eval x=u at m;cases m with
  |ptr _ _ b s h=>
   refine⟨.pointer (some ⟨b,j+off,none⟩),?_,.ptr _ _ b s h⟩;simp only[execOp,q,I,F7,n.run,FI,Fr]
def aku {x:Operand} {t:TypeId} {f off k i j:Nat} (q:DY P t f off) (z:o.op=.fieldAddr t x f):Bq P o [(x,.lK k i j)] es (.lK k i (j+off)) es:=
 .pure fun ok H a w _ _ I=>by
  have m:=Ju I;simp only at m;generalize J:a.eval x=u at m;cases m with
  |lK _ _ _ b n cap s h=>
   refine⟨.pointer (some ⟨b,i*s+(j+off),none⟩),?_,.lK _ _ _ b n cap s h⟩;simp only[execOp,z,J,F7,q.run,FI,Fr,NP]
def am8 {x y:Operand} {t e:TypeId} {k:IntKind} {i:Int} {xs:List D} {q:D} {agg:Bool} {size:Nat} (Y:P.underlying t=some (.slice e)) (Z:EC P e agg size) (h0:0≤i) (hi:xs[i.toNat]? =some q) (s:q.cells.length=size)
 (ho:o.op=.indexAddr t x y):Bq P o [(x,.d (.sl xs)),(y,.d (.lit (.int k i)))] es (.d (.ref q.cells 0)) es:=
 .pure fun ok H a w _ _ O=>by
  have z:=(Ee O).1;have S:=(Ee O).2.lit;simp only at z S;generalize he:a.eval x=u at z;have hu:(underlying t).run P w=.ok (.slice e) w:=by simp[underlying,Y]
  obtain⟨m,I⟩:=FV.1 hi;cases z with
  |d _ _ h=>
   cases h with
   |sl0 ad cap=>simp at m
   |sl _ b off cap f U J L hf hx hc=>
    have hd:xs.getD i.toNat Dp=q:=by simp[List.getD,m,I]
    have M:f=size:=by rw[←L _ m,hd,s]
    subst M;refine⟨.pointer (some ⟨b,off+i.toNat*f+0,none⟩),?_,.d _ _ (.ref q.cells 0 b (off+i.toNat*f) (fun h=>J AA (by rw[s]at h;exact h)) ?_ ?_ ?_)⟩
    ·have hlen:0≤i∧i<(xs.length:Int):=⟨h0,AA⟩
     simp only[execOp,ho,he,S,Instr.indexAt,asIntOf,F7,Fr,hu,FI,Sem.run_ite,hlen,and_self,JQ,Z.size,addr_add,OE]
    ·intro j n;rw[s]at n;rw[←hd];exact hf _ m j n
    ·intro j n;rw[s]at n;rw[NP];exact hx _ m j n
    intro j n;rw[s]at n;rw[NP,←hd];exact hc _ m j n
def aqK {x y:Operand} {t e e':TypeId} {kd:IntKind} {i:Int} {k size:Nat} {xs:List D} {agg:Bool} (S:es[k]? =some (.arr e' size xs)) (U:P.underlying t=some (.slice e)) (Y:EC P e agg size) (Z:0≤i) (hi:i.toNat<xs.length)
 (ho:o.op=.indexAddr t x y):Bq P o [(x,.aO k),(y,.d (.lit (.int kd i)))] es (.lK k i.toNat 0) es:=
 .pure fun ok H a w j hl z=>by
  have m:=(Ee z).1;have I:=(Ee z).2.lit;simp only at m I;generalize he:a.eval x=u at m;have hu:(underlying t).run P w=.ok (.slice e) w:=by simp[underlying,U]
  obtain⟨h,J,q⟩:=G7 j hl S;cases m with
  |aO _ ad n cap s' L=>
   rw[J]at L;obtain rfl:=Cm L;obtain⟨M,_,ys,⟨_,s⟩,_⟩:=q;simp only at M;subst M;rcases s with⟨f,h3⟩|⟨g,O,cur,f,_⟩
   ·omega
   simp only[iU]at f;obtain⟨rfl,rfl,rfl⟩:=f;refine⟨.pointer (some ⟨g,i.toNat*s'+0,none⟩),?_,.lK _ _ _ _ _ _ _ J⟩;have hlen:0≤i∧i<(xs.length:Int):=⟨Z,AA⟩
   simp only[execOp,ho,he,I,Instr.indexAt,asIntOf,F7,Fr,hu,FI,Sem.run_ite,hlen,and_self,JQ,Y.size,addr_add,J4,OE]
def arf {x y:Operand} {t:TypeId} {k:IntKind} {i:Int} {s:ByteArray} {c:UInt8} (m:P.underlying t=some .string) (n:0≤i) (hi:s[i.toNat]? =some c) (q:o.op=.index t x y):
 Bq P o [(x,.d (.lit (.string s))),(y,.d (.lit (.int k i)))] es (.d (.lit (.int .u8 c.toNat))) es:=
 .pure fun ok H a w _ _ f=>by
  have h:=(Ee f).1.lit;have j:=(Ee f).2.lit;simp only at h j;have u:(underlying t).run P w=.ok .string w:=by simp[underlying,m]
  exact⟨_,by simp only[execOp,q,h,j,Instr.index,asIntOf,F7,Fr,u,FI,n,JQ,hi],.d _ _ (.lit _)⟩
def Iq (l:List Ag):List D:=l.map fun | .d x=>x|_=>Dp
def Ag.Ah:Ag→Bool
 | .d _=>true
 |_=>false
def R.toD {ok:Nat→Prop} {w:World} {H:List Bo} {x:Ag} {v:Value} (h:R ok w H x v) (hd:x.Ah=true):Du ok w ((fun | .d x=>x|_=>Dp) x) v:=by
 cases h with
 |d _ _ h=>exact h
 |_=>simp[Ag.Ah]at hd
def Ot (agg:Bool) (cs:List D) (off n:Nat):D:=if agg then .agg ((cs.drop off).take n)else cs.getD off Dp
def aE7 {P:Program} {ok:Nat→Prop} {w:World} {t:TypeId} {agg:Bool} {n b p off:Nat} {cs:List D} (I:EC P t agg n) (U:off+n≤cs.length) (L:agg=false→n=1)
 (M:∀i,i<cs.length→(cs.getD i Dp).leaf=true) (O:∀j,j<cs.length→(w.cell? ⟨b,p+j,none⟩).isSome=true) (J:∀j,j<cs.length→Du ok w (cs.getD j Dp) (cellAt w b (p+j))):
 ∃v,(Instr.loadAt t (.pointer (some ⟨b,p+off,none⟩))).run P w=.ok v w∧Du ok w (Ot agg cs off n) v:=by
 have f:∀j,j<cs.length→w.cell? ⟨b,p+j,none⟩=some (cellAt w b (p+j)):=by
  intro j q;have :=O j q;obtain⟨u,S⟩:=Qy.1 this;simp[cellAt,S]
 cases agg with
 |false=>
  have :=L rfl;subst this;refine⟨cellAt w b (p+off),?_,J off AA⟩;have z:=f off AA;simp[Instr.loadAt,Instr.sureAddr,loadVar,I.agg,z]
 |true=>
  let vs:Array Value:=((List.range n).map fun j=>cellAt w b (p+(off+j))).toArray
  have m:vs.size=n:=by simp[vs]
  have s:∀j,j<n→vs.getD j undef=cellAt w b (p+(off+j)):=by
   intro j q;simp[vs,Array.getD,q]
  refine⟨.agg vs,?_,?_⟩
  ·simp only[Instr.loadAt,Instr.sureAddr,F7,Fr,FI]
   have h:=apv (P:=P) w t b (p+off) vs (I.agg w) (by rw[m];exact I.size w) (fun j q=>by
    rw[m]at q;rw[s j q,NP]
    exact f (off+j) AA)
   exact h
  simp only[Ot,JQ];have hlen:((cs.drop off).take n).length=n:=Dy
  have z:∀i,i<n→((cs.drop off).take n).getD i Dp=cs.getD (off+i) Dp:=by
   intro i hi;simp[List.getD,NI hi,Oh]
  refine .agg _ vs (by rw[hlen,m]) (fun i hi=>?_) (fun i hi=>?_)
  ·rw[hlen]at hi;rw[z i hi];exact M _ AA
  rw[hlen]at hi;rw[z i hi,s i hi];exact J _ AA
def asv {x:Operand} {t:TypeId} {agg:Bool} {n off:Nat} {cs:List D} (m:EC P t agg n) (q:off+n≤cs.length) (s:agg=false→n=1) (z:o.op=.load t x):
 Bq P o [(x,.d (.ref cs off))] es (.d (Ot agg cs off n)) es:=
 .pure fun ok H a w _ _ j=>by
  have f:=Ju j;simp only at f;generalize I:a.eval x=u at f;cases f with
  |d _ _ h=>
   cases h with
   |ref _ _ b p J L M O=>
    obtain⟨v,S,hd⟩:=aE7 m q s L M O;exact⟨v,by simp only[execOp,z,I,F7,S,FI,Fr],.d _ _ hd⟩
def uT (l:List Ag):(Iq l).length=l.length:=by simp[Iq]
def aTH {l:List Ag} {i:Nat} (h:i<l.length):(Iq l).getD i Dp=(fun | .d x=>x|_=>Dp) (l.getD i .junk):=by
 simp[Iq,List.getD,h]
def aNS {ok:Nat→Prop} {w:World} {H:List Bo} {h:Bo} {cs:List Ag} (I:Em ok w H h (.box cs)) (hd:cs.all Ag.Ah=true):
 ∃b,h.v=.pointer (some ⟨b,0,none⟩)∧(∀i,i<(Iq cs).length→((Iq cs).getD i Dp).leaf=true)∧(∀j,j<(Iq cs).length→(w.cell? ⟨b,0+j,none⟩).isSome=true)∧(∀j,j<(Iq cs).length→Du ok w ((Iq cs).getD j Dp) (cellAt w b (0+j))):=by
 obtain⟨b,vs,T,J,L,M,q⟩:=I;rw[ER]at hd
 have f:∀j,j<cs.length→w.cell? ⟨b,0+j,none⟩=some (vs.toList.getD j undef):=by
  intro j m;rw[J4];have n:j<vs.size:=by simpa using(by omega:j<vs.toList.length)
  simp[World.cell?,L,n,List.getD]
 refine⟨b,J,fun i hi=>?_,fun j m=>?_,fun j m=>?_⟩
 ·rw[uT]at hi;rw[aTH hi];have s:=(q i hi).1;have u:=hd (cs.getD i .junk) Le;cases z:cs.getD i .junk with
  |d x=>rw[z]at s;exact s
  |_=>rw[z]at u;simp[Ag.Ah]at u
 ·rw[uT]at m;rw[f j m];rfl
 rw[uT]at m;rw[aTH m];unfold cellAt;rw[f j m];exact(q j m).2.toD (hd (cs.getD j .junk) (by simp[List.getD,m]))
def ah5 {x:Operand} {t:TypeId} {agg:Bool} {k n off:Nat} {cs:List Ag} (L:es[k]? =some (.box cs)) (hd:cs.all Ag.Ah=true) (M:EC P t agg n) (O:off+n≤cs.length) (S:agg=false→n=1) (U:o.op=.load t x):
 Bq P o [(x,.ptr k off)] es (.d (Ot agg (Iq cs) off n)) es:=
 .pure fun ok H a w j Y m=>by
  have f:=Ju m;simp only at f;generalize Z:a.eval x=u at f;obtain⟨h,hh,q⟩:=G7 j Y L;obtain⟨b,z,hf,hx,hc⟩:=aNS q hd;cases f with
  |ptr _ _ b' s I=>
   rw[hh]at I;obtain rfl:=Cm I;simp at z;subst z;obtain⟨v,J,hD⟩:=aE7 M (by rw[uT];exact O) S hf hx hc;rw[J4]at J;exact⟨v,by simp only[execOp,U,Z,F7,J,FI,Fr],.d _ _ hD⟩
def aSC {x:Operand} {t:TypeId} {k off:Nat} {cs:List Ag} {v:Ag} (M:es[k]? =some (.box cs)) (O:cs[off]? =some v) (S:EC P t false 1) (U:o.op=.load t x):Bq P o [(x,.ptr k off)] es v es:=
 .pure fun ok H a w m Y q=>by
  have j:=Ju q;simp only at j;generalize Z:a.eval x=u at j;obtain⟨h,hh,b,vs,T,I,h2,h3,h4⟩:=G7 m Y M;cases j with
  |ptr _ _ b' s J=>
   rw[hh]at J;obtain rfl:=Cm J;simp at I;subst I;obtain⟨n,z⟩:=FV.1 O;have L:=(h4 off n).2;have e1:cs.getD off .junk=v:=by simp[List.getD,n,z]
   have f:off<vs.size:=by simpa using(by omega:off<vs.toList.length)
   have e2:vs.toList.getD off undef=vs[off]:=by simp[List.getD,f]
   rw[e1,e2]at L;refine⟨vs[off],?_,L⟩;have hc:w.cell? ⟨b',off,none⟩=some vs[off]:=by simp[World.cell?,h2,f]
   simp[execOp,U,Z,Instr.loadAt,Instr.sureAddr,loadVar,S.agg,hc]
end
def D5.change {C:EI} {ok ok':Nat→Prop} {H H':List Bo} {es es':List BQ} {w w':World} (j:D5 C ok H es w) (B:Nat→Prop)
 (hos:w'.os=w.os) (L:w'.tape=w.tape) (hout:w'.output=w.output) (m:w.heap.size≤w'.heap.size)
 (z:∀b,b<w.heap.size→¬B b→w'.heap[b]? =w.heap[b]?) (hB:∀b,B b→b<w.heap.size→¬ok b∧(C.w0.heap.size≤b∨b∈C.X))
 (hok:∀b,ok b→ok' b) (I:∀b,ok' b→ok b∨(w.heap.size≤b∧b<w'.heap.size)) (q:Names H H') (hlen:H'.length=es'.length)
 (s:∀(k:Nat) (e:BQ) (h:Bo),es'[k]? =some e→H'[k]? =some h→
  (es[k]? =some e∧H[k]? =some h∧(e.live=true→∀b,DX h.v=some b→¬B b))∨
  (Em ok' w' H' h e∧(e.live=true→∀b,DX h.v=some b→¬ok' b∧b<w'.heap.size∧(C.w0.heap.size≤b∨b∈C.X)∧
   ∀(k':Nat) (e':BQ) (h':Bo),k'≠k→es'[k']? =some e'→e'.live=true→H'[k']? =some h'→DX h'.v≠some b))):
 D5 C ok' H' es' w'∧EO ok w ok' w':=by
 have hg:EO ok w ok' w':=fun b f=>⟨hok b f,z b (j.kL b f) (fun n=>(hB b n (j.kL b f)).1 f)⟩
 refine⟨⟨⟨hos.trans j.fr.os,L.trans j.fr.tape,hout.trans j.fr.output,Ej j.fr.size m,fun k hk hx=>?_⟩,fun b f=>hok b (j.yA b f),?_,?_,j.names.trans q,hlen,?_,?_,?_⟩,hg⟩
 ·have hkw:k<w.heap.size:=Uz hk j.fr.size;rw[z k hkw (fun f=>(hB k f hkw).2.elim (fun h=>AA) hx)];exact j.fr.block k hk hx
 ·intro b f;rcases I b f with h|⟨h,_⟩
  ·exact j.yB b h
  exact .inr (.inl (Ej j.fr.size h))
 ·intro b f;rcases I b f with h|⟨_,h⟩
  ·exact Uz (j.kL b h) m
  exact h
 ·intro k e h U Y;rcases s k e h U Y with⟨u,Z,h3⟩|⟨u,_⟩
  ·exact(j.ent k e h u Z).mono hg q (fun J b f=>z b (j.blk k e h b u J Z f).2.1 (h3 J b f))
  exact u
 ·intro k e h b U J Y f;rcases s k e h U Y with⟨u,Z,h3⟩|⟨_,u⟩
  ·have :=j.blk k e h b u J Z f;refine⟨fun n=>?_,Uz this.2.1 m,this.2.2⟩;rcases I b n with h4|⟨h4,_⟩
   ·exact this.1 h4
   omega
  exact⟨(u J b f).1,(u J b f).2.1,(u J b f).2.2.1⟩
 intro k k' e e' h h' b U he' J M Y hh' f n;apply Xu;intro O;rcases s k e h U Y with⟨u,Z,h3⟩|⟨_,u⟩
 ·rcases s k' e' h' he' hh' with⟨S,h2',h3'⟩|⟨_,S⟩
  ·exact O (j.EJ k k' e e' h h' b u S J M Z h2' f n)
  exact(S M b n).2.2.2 k e h O U J Y f
 exact(u J b f).2.2.2 k' e' h' (fun e=>O e.symm) he' M hh' n
def aDD {α:Type} {l:List α} {i:Nat} {z:α} (h:i<l.length):l.getD i z=l[i]:=by simp[List.getD,h]
def WG {α:Type} {l:List α} {a x:α} {k:Nat} (h:(l++[a])[k]? =some x):l[k]? =some x∨(k=l.length∧x=a):=by
 by_cases j:k<l.length
 ·rw[GH j]at h;exact .inl h
 have f:=(FV.1 h).1;simp at f;have :k=l.length:=AA
 subst this;simp at h;exact .inr ⟨rfl,h.symm⟩
def D5.push {C:EI} {ok:Nat→Prop} {H:List Bo} {es:List BQ} {w:World} (f:D5 C ok H es w) (o:Obj) (h:Bo) (e:BQ) (u:∀b,DX h.v=some b→b=w.heap.size)
 (Y:Em ok (w.alloc o) (H++[h]) h e):D5 C ok (H++[h]) (es++[e]) (w.alloc o)∧EO ok w ok (w.alloc o):=by
 refine f.change (fun _=>False) rfl rfl rfl BU (fun b u _=>JY _ _ _ u) (fun _ h=>h.elim) (fun _ h=>h) (fun _ h=>.inl h) (Names.push _ _) (by simp[f.hlen]) ?_;intro k e' h' z m;rcases WG z with s|⟨s,Z⟩
 ·left;refine⟨s,?_,fun _ _ _ h=>h⟩;have I:k<H.length:=by rw[f.hlen];exact(FV.1 s).1
  rwa [GH I]at m
 subst Z;have I:k=H.length:=by rw[f.hlen];exact s
 subst I;simp at m;subst m;refine .inr ⟨Y,fun _ b J=>?_⟩;obtain rfl:=u b J;refine⟨fun n=>absurd (f.kL _ n) AA,BU,.inl f.fr.size,fun k' L M O S hl j q=>?_⟩;rcases WG S with n|⟨n,_⟩
 ·have U:k'<H.length:=by rw[f.hlen];exact(FV.1 n).1
  rw[GH U]at j;exact absurd (f.blk k' L M _ n hl j q).2.1 AA
 rw[←f.hlen]at n;exact O n
def D5.fresh {C:EI} {ok:Nat→Prop} {H:List Bo} {es:List BQ} {w:World} (f:D5 C ok H es w) (o:Obj):
 D5 C (fun b=>ok b∨b=w.heap.size) H es (w.alloc o)∧EO ok w (fun b=>ok b∨b=w.heap.size) (w.alloc o):=by
 refine f.change (fun _=>False) rfl rfl rfl BU (fun b j _=>JY _ _ _ j) (fun _ h=>h.elim) (fun _ h=>.inl h) (fun b h=>?_) (.refl _) f.hlen ?_
 ·rcases h with h|rfl
  ·exact .inl h
  exact .inr ⟨E9 _,BU⟩
 intro k e h m n;exact .inl ⟨m,n,fun _ _ _ h=>h⟩
def D5.drew {C:EI} {ok:Nat→Prop} {H:List Bo} {es:List BQ} {w:World} (f:D5 C ok H es w):D5 C ok H es w.drew∧EO ok w ok w.drew:=
 f.change (fun _=>False) rfl rfl rfl (E9 _) (fun _ _ _=>rfl) (fun _ h=>h.elim) (fun _ h=>h) (fun _ h=>.inl h) (.refl _) f.hlen fun _ _ _ j m=>.inl ⟨j,m,fun _ _ _ h=>h⟩
def Em.dead {ok:Nat→Prop} {w:World} {H:List Bo} {h:Bo}:Em ok w H h .dead:=trivial
def R.ajj {ok:Nat→Prop} {w:World} {H:List Bo} {x:Ag} {v:Value} (h:R ok w H x v) (u:x.cells.all Ag.leaf=true):FZ ok w H x.cells v.cells.toList:=by
 rw[ER]at u;cases h with
 |d x v h=>
  cases h with
  |agg cs vs O L S=>
   refine⟨by simp[Ag.cells,D.cells,Value.cells,O],fun i hi=>?_⟩;simp only[Ag.cells,D.cells,D6]at hi;have U:(Ag.cells (.d (.agg cs))).getD i .junk=.d (cs.getD i Dp):=by simp[Ag.cells,D.cells,List.getD,hi]
   have z:i<vs.size:=AA
   have M:(Value.cells (.agg vs)).toList.getD i undef=vs.getD i undef:=aRJ
   rw[U,M];exact⟨L i hi,.d _ _ (S i hi)⟩
  |lit v=>
   have m:=u (.d (.lit v)) (by simp[Ag.cells,D.cells]);have e:v.cells= #[v]:=by cases v<;>first|rfl|(simp[Ag.leaf,D.leaf,Value.oneCell']at m)
   refine⟨by simp[Ag.cells,D.cells,e],fun i hi=>?_⟩;simp[Ag.cells,D.cells]at hi;subst hi;rw[e];exact⟨m,.d _ _ (.lit v)⟩
  |sl0 ad cap=>
   refine⟨rfl,fun i hi=>?_⟩;simp[Ag.cells,D.cells]at hi;subst hi;exact⟨rfl,.d _ _ (.sl0 ad cap)⟩
  |sl es b off cap size m q I J Y Z=>
   refine⟨rfl,fun i hi=>?_⟩;simp[Ag.cells,D.cells]at hi;subst hi;exact⟨rfl,.d _ _ (.sl es b off cap size m q I J Y Z)⟩
  |ref cs off b o m q I J=>
   refine⟨rfl,fun i hi=>?_⟩;simp[Ag.cells,D.cells]at hi;subst hi;exact⟨rfl,.d _ _ (.ref cs off b o m q I J)⟩
  |fn f first cap vs us m q I J=>
   refine⟨rfl,fun i hi=>?_⟩;simp[Ag.cells,D.cells]at hi;subst hi;exact⟨rfl,.d _ _ (.fn f first cap vs us m q I J)⟩
  |Po t x v m=>
   refine⟨rfl,fun i hi=>?_⟩;simp[Ag.cells,D.cells]at hi;subst hi;exact⟨rfl,.d _ _ (.Po t x v m)⟩
 |ptr k off b s h=>
  exact⟨rfl,fun i hi=>by simp[Ag.cells]at hi;subst hi;exact⟨rfl,.ptr k off b s h⟩⟩
 |aO k ad n cap s h=>
  exact⟨rfl,fun i hi=>by simp[Ag.cells]at hi;subst hi;exact⟨rfl,.aO k ad n cap s h⟩⟩
 |lK k i off b n cap s h=>
  exact⟨rfl,fun j hi=>by simp[Ag.cells]at hi;subst hi;exact⟨rfl,.lK k i off b n cap s h⟩⟩
 |fn f first cap vs us m q I J=>
  exact⟨rfl,fun i hi=>by simp[Ag.cells]at hi;subst hi;exact⟨rfl,.fn f first cap vs us m q I J⟩⟩
 |mp k v s u h=>
  have e:v.cells= #[v]:=by cases v<;>first|rfl|(simp[Value.oneCell']at u)
  exact⟨by simp[Ag.cells,e],fun j hi=>by simp[Ag.cells]at hi;subst hi;rw[e];exact⟨rfl,.mp k v s u h⟩⟩
 |clip xs ad h=>exact⟨rfl,fun i hi=>by simp[Ag.cells]at hi;subst hi;exact⟨rfl,.clip xs ad h⟩⟩
 |wP k ad n cap s h=>exact⟨rfl,fun i hi=>by simp[Ag.cells]at hi;subst hi;exact⟨rfl,.wP k ad n cap s h⟩⟩
 |fP xs vs m q=>have :=u (.fP xs) (by simp[Ag.cells]);simp[Ag.leaf]at this
 |ag xs vs m L q=>
  refine⟨by simp[Ag.cells,Value.cells,m],fun i hi=>?_⟩;have z:i<vs.size:=by rw[m];exact hi
  have M:(Value.cells (.agg vs)).toList.getD i undef=vs.getD i undef:=aRJ
  rw[M];exact⟨L i hi,q i hi⟩
 |junk v=>have :=u .junk (by simp[Ag.cells]);simp[Ag.leaf]at this
section
variable {P : Program} {o : Oper} {es : List BQ}
def aCm (w:World):∀b,DX (Bo.v ⟨.pointer (some ⟨w.heap.size,0,none⟩),0⟩)=some b→b=w.heap.size:=fun b f=>by simpa[DX]using f.symm
def Bq.eff {ns:List (Operand×Ag)} {x:Ag} {es':List BQ}
 (h:∀(C:EI) (ok:Nat→Prop) (H:List Bo) (a:Act) (w:World),D5 C ok H es w→(∀n∈ns,R ok w H n.2 (a.eval n.1))→
  ∃v w' ok' H',((execOp a.eval o).run P w=.ok (.value v) w'∨(v=undef∧(execOp a.eval o).run P w=.ok .skip w'))∧EO ok w ok' w'∧Names H H'∧D5 C ok' H' es' w'∧R ok' w' H' x v):Bq P o ns es x es':=by
 intro C ok H a w Q u z;obtain⟨v,w',ok',H',f,j,m,q,s⟩:=h C ok H a w u z;unfold Oper.wp;rcases f with f|⟨rfl,f⟩
 ·rw[f];exact⟨v,ok',H',rfl,j,m,q,s⟩
 rw[f];exact⟨undef,ok',H',rfl,j,m,q,s⟩
def an4 {t:TypeId} {x:Operand} {v:Ag} (m:v.cells.all Ag.leaf=true) (n:o.op=.box t x):Bq P o [(x,v)] es (.ptr es.length 0) (es++[.box v.cells]):=
 .eff fun C ok H a w h q=>by
  have j:=Ju q;simp only at j
  have f:Em ok (w.alloc (.cells (a.eval x).cells t)) (H++[⟨.pointer (some ⟨w.heap.size,0,none⟩),0⟩]) ⟨.pointer (some ⟨w.heap.size,0,none⟩),0⟩ (.box v.cells):=
   ⟨w.heap.size,(a.eval x).cells,t,rfl,WU w _,(j.ajj m).mono (fun b f=>⟨f,JY _ _ _ (h.kL b f)⟩) (Names.push _ _)⟩
  obtain⟨s,u⟩:=h.push (.cells (a.eval x).cells t) ⟨.pointer (some ⟨w.heap.size,0,none⟩),0⟩ _ (aCm w) f;refine⟨_,_,ok,_,.inl ?_,u,Names.push _ _,s,.ptr _ _ w.heap.size 0 yK⟩;simp[execOp,n,Instr.box,newVar,newRow]
def OT :Value→D
 | .slice none 0 0=>.sl []
 |v=>.lit v
def dW {ok:Nat→Prop} {w:World} (v:Value):Du ok w (OT v) v:=by
 unfold OT;split
 ·exact .sl0 none 0
 exact .lit v
def uY {v:Value} (h:v.oneCell'=true):(OT v).leaf=true:=by
 unfold OT;split
 ·rfl
 exact h
def FH (z:Value):List Ag:=z.cells.toList.map fun v=>.d (OT v)
def apN {t:TypeId} {z:Value} (j:(P.info? t).bind (·.zero)=some z) (m:z.cells.all (·.oneCell')=true) (n:o.op=.alloc t):Bq P o [] es (.ptr es.length 0) (es++[.box (FH z)]):=
 .eff fun C ok H a w h L=>by
  have q:Em ok (w.alloc (.cells z.cells t)) (H++[⟨.pointer (some ⟨w.heap.size,0,none⟩),0⟩]) ⟨.pointer (some ⟨w.heap.size,0,none⟩),0⟩ (.box (FH z)):=by
   refine⟨w.heap.size,z.cells,t,rfl,WU w _,by simp[FH],fun i hi=>?_⟩;simp only[FH,D6,Ry]at hi;have s:(FH z).getD i .junk=.d (OT z.cells[i]):=by simp[FH,List.getD,hi]
   have u:z.cells.toList.getD i undef=z.cells[i]:=Le
   rw[s,u];exact⟨uY ((QF.1 m) _ BU),.d _ _ (dW _)⟩
  obtain⟨I,J⟩:=h.push (.cells z.cells t) ⟨.pointer (some ⟨w.heap.size,0,none⟩),0⟩ _ (aCm w) q;refine⟨_,_,ok,_,.inl ?_,J,Names.push _ _,I,.ptr _ _ w.heap.size 0 yK⟩;obtain⟨i,hi,f⟩:=bY.1 j;simp[execOp,n,Instr.alloc,zeroValue,typeInfo,hi,f,newVar,newRow]
def Ls {l:List BQ} {k j:Nat} {a x:BQ} (f:k<l.length) (h:(l.set k a)[j]? =some x):(j=k∧x=a)∨(j≠k∧l[j]? =some x):=by
 by_cases e:k=j
 ·subst e;simp[f]at h;exact .inl ⟨rfl,h.symm⟩
 rw[WY e]at h;exact .inr ⟨fun h'=>e h'.symm,h⟩
def D5.upd {C:EI} {ok:Nat→Prop} {H:List Bo} {w w':World} (z:D5 C ok H es w) {k:Nat} {I e:BQ} {h:Bo} {b:Nat} (Z:es[k]? =some I) (q:I.live=true) (hh:H[k]? =some h) (hb:DX h.v=some b)
 (hos:w'.os=w.os) (s:w'.tape=w.tape) (J:w'.output=w.output) (hsize:w'.heap.size=w.heap.size)
 (n:∀c,c≠b→w'.heap[c]? =w.heap[c]?) (he:EO ok w ok w'→Em ok w' H h e):D5 C ok H (es.set k e) w'∧EO ok w ok w':=by
 have L:=z.blk k I h b Z q hh hb;have hg:EO ok w ok w':=fun c f=>⟨f,n c (fun e=>L.1 (e▸f))⟩
 refine z.change (fun c=>c=b) hos s J AA (fun c _ f=>n c f) (fun c f _=>by subst f;exact⟨L.1,L.2.2⟩) (fun _ h=>h) (fun _ h=>.inl h) (.refl _) (by simp[z.hlen]) ?_;intro j e' h' hj m;have M:k<es.length:=(FV.1 Z).1;rcases Ls M hj with⟨rfl,rfl⟩|⟨u,O⟩
 ·rw[hh]at m;obtain rfl:=Cm m;refine .inr ⟨he hg,fun _ c f=>?_⟩;rw[hb]at f;obtain rfl:=Cm f;refine⟨L.1,AA,L.2.2,fun k' e'' h'' u hk' hl' S U=>u ?_⟩;rcases Ls M hk' with⟨rfl,_⟩|⟨_,Y⟩
  ·rfl
  exact z.EJ k' j e'' I h'' h b Y Z hl' q S hh U hb
 refine .inl ⟨O,m,fun hl c f hcb=>u ?_⟩;subst hcb;exact z.EJ j k e' I h' h c O Z hl q m hh f hb
def aIu (w:World) (g:Nat) (cs:Array Value) (k:Nat) (h:k≠g):(w.setRow g cs).heap[k]? =w.heap[k]? :=setRow_other w g k cs h
def setAt {α:Type} (cs:List α) (off:Nat) (ys:List α):List α:=cs.take off++ys++cs.drop (off+ys.length)
def Rs {α:Type} {cs ys:List α} {off:Nat} (h:off+ys.length≤cs.length):(setAt cs off ys).length=cs.length:=by simp[setAt];omega
def XP {α:Type} {cs ys:List α} {off:Nat} (h:off+ys.length≤cs.length) (i:Nat) (z:α):(setAt cs off ys).getD i z=if off≤i∧i<off+ys.length then ys.getD (i-off) z else cs.getD i z:=by
 unfold setAt;have f:(cs.take off).length=off:=Dy
 by_cases hi:i<off
 ·rw[DF AA];simp only[List.getD];rw[H7,GH AA,NI hi]
 by_cases j:i<off+ys.length
 ·rw[D7 AA];simp only[List.getD];rw[H7,Jd AA,f,GH AA]
 rw[DF AA];simp only[List.getD];rw[Jd Dy,Oh];congr 2;simp;omega
def ae9 {t:TypeId} {x y:Operand} {k off n:Nat} {cs:List Ag} {v:Ag} (Z:es[k]? =some (.box cs)) (hl:v.cells.all Ag.leaf=true) (hs:∀w,(sizeOf t).run P w=.ok n w) (hn:v.cells.length=n) (hle:off+n≤cs.length) (ho:o.op=.store t x y):
 Bq P o [(x,.ptr k off),(y,v)] es .junk (es.set k (.box (setAt cs off v.cells))):=
 .eff fun C ok H a w M q=>by
  have O:=(Ee q).1;have h2:=(Ee q).2;simp only at O h2;generalize he:a.eval x=u at O;obtain⟨h,hh,S⟩:=G7 M.ent M.hlen Z;obtain⟨b,vs,T,hb,j,z,I⟩:=S;have f:=h2.ajj hl;cases O with
  |ptr _ _ J s hH=>
   rw[hh]at hH;obtain rfl:=Cm hH;simp at hb;subst hb;have m:(a.eval y).cells.toList.length=n:=by rw[f.1,hn]
   have aFs:vs.size=cs.length:=bf
   have U:(a.eval y).cells.size=n:=Zn
   have hst:=aNP (P:=P) J off T (a.eval y).cells.toList 0 vs w j (by rw[m];omega) (fun u hu=>by
    obtain⟨i,hi,rfl⟩:=Ii hu;have L:=f.2 i (by rw[←f.1];exact hi);have :=L.2.leaf L.1
    rwa [aDD hi]at this)
   simp only[OE]at hst;have hlt:J<w.heap.size:=(Fq.1 j).1
   obtain⟨h3,h4⟩:=M.upd (e:=.box (setAt cs off v.cells)) (w':=w.setRow J (vs.toList.take off++(a.eval y).cells.toList++vs.toList.drop (off+(a.eval y).cells.toList.length)).toArray) Z rfl hh rfl rfl rfl rfl aOI (fun c hc=>aIu _ _ _ _ hc) (fun hg=>by
    refine⟨J,_,T,rfl,xY w J vs _ T (0,0) j,?_,fun i hi=>?_⟩
    ·have Y:(vs.toList.take off++(a.eval y).cells.toList++vs.toList.drop (off+(a.eval y).cells.toList.length))=setAt vs.toList off (a.eval y).cells.toList:=rfl;rw[Y,aBG,Rs (by have :=vs.length_toList;omega),Rs AA];simpa using z
    have Y:(vs.toList.take off++(a.eval y).cells.toList++vs.toList.drop (off+(a.eval y).cells.toList.length))=setAt vs.toList off (a.eval y).cells.toList:=rfl;rw[Rs AA]at hi;rw[Y,aBG,XP (by have :=vs.length_toList;omega),XP AA,m,hn];split
    ·have L:=f.2 (i-off) AA;exact⟨L.1,L.2.mono hg (.refl _)⟩
    exact⟨(I i hi).1,(I i hi).2.mono hg (.refl _)⟩)
   refine⟨undef,_,ok,H,.inr ⟨rfl,?_⟩,h4,.refl _,h3,.junk _⟩;simp only[execOp,ho,he,Instr.storeAt,Instr.sureAddr,storeVar,F7,Fr,FI,hs,U,ne_eq,not_true_eq_false,Jg,hst]
end
def V4 (x:D) (es:List D):flat (x::es)=x.cells.map .d++flat es:=SE
def lF (xs ys:List D):flat (xs++ys)=flat xs++flat ys:=SE
def RS {size:Nat}:∀{es:List D},(∀x∈es,x.cells.length=size)→(flat es).length=es.length*size
 | [],_=>SE
 |x::es,h=>by
  rw[V4,EL,D6,h x BU,RS (fun y f=>h y (Hr _ f)),Fp,Ty,Ph]
def flat_get {size:Nat}:∀{es:List D},(∀x∈es,x.cells.length=size)→∀i j,i<es.length→j<size→(flat es).getD (i*size+j) .junk=.d ((es.getD i Dp).cells.getD j Dp)
 | [],_,i,j,hi,_=>Ns
 |x::es,h,0,j,_,m=>by
  have f:=h x BU;rw[V4,Nat.zero_mul,J4];simp only[List.getD];rw[GH (by simp[f,m])];have n:j<x.cells.length:=AA
  simp[n]
 |x::es,h,i+1,j,hi,m=>by
  have f:=h x BU;have q:=flat_get (fun y s=>h y (Hr _ s)) i j Fj m;rw[V4];simp only[List.getD]at q ⊢;rw[Jd (by simp[f,Ty];omega)];have e:(i+1)*size+j-(x.cells.map Ag.d).length=i*size+j:=by simp[f,Ty];omega
  rw[e,q];simp
section
variable {P : Program} {o : Oper} {es : List BQ}
structure VK (w:World) (v:Value) (m size:Nat) (news:List Value):Prop where
 len:news.length=m*size
 one:∀u∈news,u.oneCell'=true
 at_:(∃ad c,v=.slice (some ad) m c∧∀(j:Nat) (u:Value),news[j]? =some u→w.cell? (ad.add j)=some u)∨(∃c,v=.slice none 0 c∧m=0)
def YU {ok:Nat→Prop} {w:World} (H:List Bo) {ys:List D} {v:Value} {size:Nat} (h:Du ok w (.sl ys) v) (S:∀x∈ys,x.cells.length=size):
 ∃m,VK w v ys.length size m∧FZ ok w H (flat ys) m:=by
 cases h with
 |sl0 ad cap=>
  refine⟨[],⟨BU,BU,?_⟩,SE,fun i hi=>aFT⟩;cases ad with
  |none=>exact .inr ⟨cap,rfl,rfl⟩
  |some ad=>exact .inl ⟨ad,cap,rfl,fun j u h=>Hl⟩
 |sl _ b off cap f hcap hok U hf hx hc=>
  by_cases hy:ys=[]
  ·subst hy;refine⟨[],⟨BU,BU,.inl ⟨⟨b,off,none⟩,cap,rfl,fun j u h=>Hl⟩⟩,SE,fun i hi=>aFT⟩
  have q:0<ys.length:=iK.2 hy;have Y:f=size:=by rw[←U 0 q];exact S _ aD1
  subst Y;have hl:=RS S
  have key:∀k,k<ys.length*f→∃i j,k=i*f+j∧i<ys.length∧j<f:=by
   intro k n
   have hp:0<f:=by
    rcases YD f with Z|Z
    ·rw[Z,Nat.mul_zero]at n;omega
    exact Z
   exact⟨k/f,k % f,by rw[TV];exact(yT k f).symm,wo (by rwa [TV]at n),kD _ hp⟩
  let m:List Value:=(List.range (ys.length*f)).map fun k=>cellAt w b (off+k)
  have s:m.length=ys.length*f:=by simp[m]
  have I:∀k,k<ys.length*f→m.getD k undef=cellAt w b (off+k):=by
   intro k n;simp[m,List.getD,n]
  have z:FZ ok w H (flat ys) m:=by
   refine⟨by rw[s,hl],fun k n=>?_⟩;rw[hl]at n;obtain⟨i,j,rfl,hi,J⟩:=key k n;rw[flat_get S i j hi J,I _ n];exact⟨hf i hi j J,.d _ _ (hc i hi j J)⟩
  refine⟨m,⟨s,fun u hu=>?_,.inl ⟨⟨b,off,none⟩,cap,rfl,fun k u n=>?_⟩⟩,z⟩
  ·obtain⟨k,n,rfl⟩:=Ii hu;have h5:=z.2 k (by rw[←z.1];exact n);have :=h5.2.leaf h5.1
   rwa [aDD n]at this
  obtain⟨L,rfl⟩:=FV.1 n;rw[addr_add];have M:k<ys.length*f:=by rw[←s];exact L
  obtain⟨i,j,e,hi,J⟩:=key k M;have O:=hx i hi j J;rw[←e]at O;obtain⟨u',hu'⟩:=Qy.1 O;have :=I k M;rw[aDD L]at this;rw[this];simp[cellAt,hu']
structure Fl (P:Program) (t e:TypeId) (size bytes:Nat):Prop where
 und:P.underlying t=some (.slice e)
 info:∃i z,P.info? e=some i∧i.zero=some z∧i.size=size∧i.bytes=bytes∧z.cells.size=size
 pos:0<size
def aa0 (P:Program) (t e size f:Nat):Bool:=
 (match P.underlying t with |some (.slice e')=>decide (e'=e)|_=>false)&&(match P.info? e with |some i=>decide (i.size=size)&&decide (i.bytes=f)&&(match i.zero with |some z=>decide (z.cells.size=size)|none=>false)|none=>false)&&decide (0<size)
def L9 {P:Program} {t e size f:Nat} (h:aa0 P t e size f=true):Fl P t e size f:=by
 unfold aa0 at h;simp only[DJ,Gi]at h;obtain⟨⟨j,m⟩,q⟩:=h;refine⟨?_,?_,q⟩
 ·split at j
  ·rename_i e' s;rw[s];simp at j;rw[j]
  cases j
 split at m
 ·rename_i i hi;simp only[DJ,Gi]at m;obtain⟨⟨u,I⟩,n⟩:=m;split at n
  ·rename_i z J;exact⟨i,z,hi,J,u,I,Nj⟩
  cases n
 cases m
def asu {w:World} {t e:TypeId} {ty:TypeId} {size J:Nat} (hE:Fl P t e size J) {v:Value} {n:Nat} {xs:List Value} (s:w.ownsRow 0 e size v n xs) {x:Value} {m:Nat} {h:List Value} (f:VK w x m size h)
 (hb:(n+m)*J≤140737488355328) (hn:n+m≤maxLen):
 ∃v' w',(Builtin.append_ #[t,t] ty #[v,x]).run P w=.ok v' w'∧w'.ownsRow 0 e size v' (n+m) (xs++h)∧w.grownBy w' v.ownBlock∧(∀g,DX v'=some g→DX v=some g∨w.heap.size≤g):=by
 obtain⟨i,z,hi,hz,Z,O,hzs⟩:=hE.info;rcases f.at_ with⟨ad,c,rfl,q⟩|⟨c,rfl,rfl⟩
 ·obtain⟨v',w',hr,ho',hg,hnil⟩:=run_append_own (P:=P) w 0 t ty e i z size J hE.und hi hz Z O hzs hE.pos v n xs s ad m c h f.len q f.one hn hb (EY _);refine⟨v',w',hr,ho',hg,fun g L=>?_⟩;rcases s.2 with⟨rfl,rfl⟩|⟨g0,cap,S,rfl,hbg,hg0,hnc,hcm,hcs,htake⟩
  ·have hx:xs=[]:=Gt (by simpa using s.1);subst hx;obtain⟨v2,w2,I,ho2,_,_⟩:=run_append_own (P:=P) w w.heap.size t ty e i z size J hE.und hi hz Z O hzs hE.pos _ 0 [] (aE2 w w.heap.size e size) ad m c h f.len q f.one hn hb (E9 _);rw[hr]at I;simp only[Result.ok.injEq]at I;obtain⟨rfl,rfl⟩:=I;rcases ho2.2 with⟨rfl,_⟩|⟨g',_,_,rfl,hle,_⟩
   ·simp[DX]at L
   simp[DX]at L;subst L;exact .inr hle
  by_cases M:n+m≤cap
  ·have hfit:n*i.size+h.length≤S.size:=by rw[f.len,hcs,Z,←Xl];exact Ja _ M
   have I:=run_append_room (P:=P) w t ty e i hE.und hi g0 n cap S hg0 ad m c h (by rw[Z];exact f.len) q f.one M hfit;rw[hr]at I;simp only[Result.ok.injEq]at I;obtain⟨rfl,rfl⟩:=I;exact .inl L
  have U:∀(j:Nat) (u:Value),xs[j]? =some u→w.cell? ((⟨g0,0,none⟩:Addr).add j)=some u:=s.cells (g:=g0) rfl;have I:=run_append_grow (P:=P) w t ty e i z hE.und hi hz ⟨g0,0,none⟩ n cap xs (by rw[Z];exact s.1) U ad m c h (by rw[Z];exact f.len) q AA (by unfold maxLen at hn;omega) (growslice_fits AA (by rw[O];exact hb));rw[hr]at I;simp only[Result.ok.injEq]at I;obtain⟨rfl,rfl⟩:=I;simp[DX]at L;subst L;exact .inr (E9 _)
 have Y:h=[]:=Gt (by simpa using f.len);subst Y;refine⟨v,w,?_,P6,⟨rfl,rfl,rfl,E9 _,fun _ _ _=>rfl⟩,fun g hg=>.inl hg⟩;rcases s.2 with⟨rfl,rfl⟩|⟨g,cap,S,rfl,_,_,hnc,_⟩
 ·simp[Builtin.append_,aCi hE.und,sizeOf,typeInfo,hi,Builtin.lenOf,Builtin.firstCells]
 simp[Builtin.append_,aCi hE.und,sizeOf,typeInfo,hi,Builtin.lenOf,Builtin.firstCells,hnc,storeCells]
def aHS {w:World} {t e:TypeId} {ty:TypeId} {size s:Nat} (hE:Fl P t e size s) {v:Value} {n:Nat} {xs:List Value} (q:nD w e size v n xs) {x:Value} {m:Nat} {j:List Value} (f:VK w x m size j)
 (hb:(n+m)*s≤140737488355328) (hn:n+m≤maxLen):
 ∃v' w',(Builtin.append_ #[t,t] ty #[v,x]).run P w=.ok v' w'∧nD w' e size v' (n+m) (xs++j)∧w.grownBy w' v.ownBlock∧(∀g,DX v'=some g→DX v=some g∨w.heap.size≤g):=by
 rcases q.2 with h|⟨g,cap,M,rfl,h0,Y,hnc,hcm,hcs,O⟩
 ·obtain⟨v',w',h1,h2,S,h4⟩:=asu (ty:=ty) hE ⟨q.1,.inl h⟩ f hb hn;exact⟨v',w',h1,.of h2,S,h4⟩
 obtain⟨i,z,hi,hz,hs,hby,hzs⟩:=hE.info;have hlen:(xs++j).length=(n+m)*size:=by rw[EL,q.1,f.len,Xl]
 rcases f.at_ with⟨ad,c,rfl,I⟩|⟨c,rfl,rfl⟩
 ·by_cases u:n+m≤cap
  ·have L:n*i.size+j.length≤M.size:=by
    rw[f.len,hs,←Xl];exact Ej (Ja _ u) hcs
   have hr:=run_append_room (P:=P) w t ty e i hE.und hi g n cap M Y ad m c j (by rw[hs];exact f.len) I f.one u L;rw[hs]at hr L;refine⟨_,_,hr,⟨hlen,.inr ⟨g,cap,_,rfl,EY _,xY w g M _ e _ Y,u,hcm,?_,?_⟩⟩,⟨rfl,rfl,rfl,BU,fun k _ hk=>setRow_other w g k _ (fun e=>hk (by simp[Value.ownBlock,e]))⟩,fun g' J=>.inl J⟩
   ·simp only[iW,EL,Fa,L6,Ry];omega
   rw[O,←hlen];exact aH1
  obtain⟨v',w',h1,h2,S⟩:=run_append_arg_grows (P:=P) w t ty e i z size s hE.und hi hz hs hby hzs hE.pos ⟨g,0,none⟩ n cap xs q.1 (q.cells (g:=g) rfl) ad m c j f.len I AA hn hb;refine⟨v',w',h1,.of h2,⟨S.os,S.tape,S.output,S.size,fun k hk _=>S.block k hk BU⟩,fun g' J=>.inr ?_⟩;rcases h2.2 with⟨rfl,_⟩|⟨g2,_,_,rfl,Z,_⟩
  ·simp[DX]at J
  simp[DX]at J;subst J;exact Z
 have U:j=[]:=Gt (by simpa using f.len);subst U;refine⟨.slice (some ⟨g,0,none⟩) n cap,w,?_,TY,⟨rfl,rfl,rfl,E9 _,fun _ _ _=>rfl⟩,fun g hg=>.inl hg⟩;simp[Builtin.append_,aCi hE.und,sizeOf,typeInfo,hi,Builtin.lenOf,Builtin.firstCells,hnc,storeCells]
def D5.turn {C:EI} {ok:Nat→Prop} {H:List Bo} {w w':World} (f:D5 C ok H es w) {k:Nat} {S e:BQ} {h h':Bo} (hk:es[k]? =some S) (I:S.live=true) (hh:H[k]? =some h)
 (hos:w'.os=w.os) (J:w'.tape=w.tape) (U:w'.output=w.output) (L:w.heap.size≤w'.heap.size)
 (u:∀c,c<w.heap.size→DX h.v≠some c→w'.heap[c]? =w.heap[c]?) (hb':∀g,DX h'.v=some g→g<w'.heap.size∧(DX h.v=some g∨w.heap.size≤g))
 (he:EO ok w ok w'→Em ok w' (H++[h']) h' e):D5 C ok (H++[h']) (es.set k .dead++[e]) w'∧EO ok w ok w':=by
 have Y:=fun b hb=>f.blk k S h b hk I hh hb;have Z:k<es.length:=(FV.1 hk).1;have hg:EO ok w ok w':=fun c s=>⟨s,u c (f.kL c s) (fun e=>(Y c e).1 s)⟩
 refine f.change (fun c=>DX h.v=some c) hos J U L u (fun c s _=>⟨(Y c s).1,(Y c s).2.2⟩) (fun _ h=>h) (fun _ h=>.inl h) (Names.push _ _) (by simp[f.hlen]) ?_;intro j e' hj' hj n;rcases WG hj with h1|⟨h1,h2⟩
 ·have hjl:j<H.length:=by rw[f.hlen];simpa using(FV.1 h1).1
  rw[GH hjl]at n;rcases Ls Z h1 with⟨rfl,rfl⟩|⟨M,h3⟩
  ·exact .inr ⟨trivial,fun h=>I4⟩
  refine .inl ⟨h3,n,fun hl c s hcb=>M ?_⟩;exact f.EJ j k e' S hj' h c h3 hk hl I n hh s hcb
 subst h2;have hk2:j=H.length:=by rw[f.hlen];simpa using h1
 subst hk2;simp at n;subst n;refine .inr ⟨he hg,fun _ c s=>?_⟩;obtain⟨h3,m⟩:=hb' c s;refine⟨fun hok=>?_,h3,?_,fun k' e'' h'' M hk' O q z=>?_⟩
 ·rcases m with m|m
  ·exact(Y c m).1 hok
  have :=f.kL c hok;omega
 ·rcases m with m|m
  ·exact(Y c m).2.2
  exact .inl (Ej f.fr.size m)
 rcases WG hk' with h5|⟨h5,_⟩
 ·have hkl':k'<H.length:=by rw[f.hlen];simpa using(FV.1 h5).1
  rw[GH hkl']at q;rcases Ls Z h5 with⟨rfl,rfl⟩|⟨hne',h6⟩
  ·cases O
  rcases m with m|m
  ·exact hne' (f.EJ k' k e'' S h'' h c h6 hk O I q hh z m)
  have :=(f.blk k' e'' h'' c h6 O q z).2.1;omega
 simp at h5;exact M (by rw[h5,f.hlen])
def rP {w:World} {e size n:Nat} {v:Value} {xs:List Value} (h:nD w e size v n xs) {g:Nat} (f:DX v=some g):g<w.heap.size:=by
 rcases h.2 with⟨rfl,_⟩|⟨m,_,_,rfl,_,j,_⟩
 ·simp[DX]at f
 simp[DX]at f;subst f;exact(Fq.1 j).1
def aJX {w:World} {e size n:Nat} {v:Value} {xs:List Value} (h:nD w e size v n xs):v.ownBlock=DX v:=by
 rcases h.2 with⟨rfl,_⟩|⟨f,_,_,rfl,_⟩<;>rfl
def P9 {ok:Nat→Prop} {w:World} {H:List Bo} {k:Nat} {v:Value} {h:Bo} (j:R ok w H (.aO k) v) (m:H[k]? =some h):v=h.v:=by
 cases j with
 |aO _ ad n cap s f=>rw[m]at f;rw[Cm f]
def an9 {C:EI} {ok:Nat→Prop} {H:List Bo} {w:World} (S:D5 C ok H es w) {t ty e:TypeId} {size j k:Nat} {xs ys:List D} (hE:Fl P t e size j) (hk:es[k]? =some (.arr e size xs))
 {v x:Value} (hv:R ok w H (.aO k) v) {f:List Value} (z:VK w x ys.length size f) (q:FZ ok w H (flat ys) f) (U:∀y∈ys,y.cells.length=size) (hb:(xs.length+ys.length)*j≤140737488355328) (hn:xs.length+ys.length≤maxLen):
 ∃v' w' H',(Builtin.append_ #[t,t] ty #[v,x]).run P w=.ok v' w'∧EO ok w ok w'∧Names H H'∧D5 C ok H' (es.set k .dead++[.arr e size (xs++ys)]) w'∧R ok w' H' (.aO es.length) v':=by
 obtain⟨h,hh,Y⟩:=G7 S.ent S.hlen hk;obtain rfl:=P9 hv hh;obtain⟨h1,h2,u,n,Z⟩:=Y;obtain⟨v',w',hr,s,I,J⟩:=aHS (P:=P) (ty:=ty) hE n z hb hn
 obtain⟨h3,h4⟩:=S.turn (h':=⟨v',size⟩) (e:=.arr e size (xs++ys)) hk rfl hh I.os I.tape I.output I.size (fun c hc hne=>I.block c hc (by rw[aJX n];exact fun e=>hne e.symm)) (fun g L=>⟨rP s L,J g L⟩) (fun M=>by
  refine⟨rfl,fun y hy=>?_,u++f,P6,?_⟩
  ·rcases I8.1 hy with h|h
   ·exact h2 y h
   exact U y h
  have O:=Z.mono M (Names.push H [⟨v',size⟩]);have a2:=q.mono M (Names.push H [⟨v',size⟩]);rw[lF];refine⟨by rw[EL,EL,O.1,a2.1],fun i hi=>?_⟩;by_cases m:i<(flat xs).length
  ·have e1:(flat xs++flat ys).getD i .junk=(flat xs).getD i .junk:=by simp[List.getD,GH m]
   have e2:(u++f).getD i undef=u.getD i undef:=by simp[List.getD,GH (by rw[O.1];exact m:i<u.length)]
   rw[e1,e2];exact O.2 i m
  have hi3:i-(flat xs).length<(flat ys).length:=aMz
  have e1:(flat xs++flat ys).getD i .junk=(flat ys).getD (i-(flat xs).length) .junk:=by simp[List.getD,Jd (Tq m)]
  have e2:(u++f).getD i undef=f.getD (i-(flat xs).length) undef:=by simp[List.getD,Jd (by rw[O.1];omega:u.length≤i),O.1]
  rw[e1,e2];exact a2.2 _ hi3)
 refine⟨v',w',_,hr,h4,Names.push _ _,h3,?_⟩;have hH:(H++[(⟨v',size⟩:Bo)])[es.length]? =some ⟨v',size⟩:=by rw[←S.hlen];simp
 rcases s.2 with⟨rfl,_⟩|⟨g',c',_,rfl,_⟩
 ·exact .aO _ _ _ _ size hH
 exact .aO _ _ _ _ size hH
def agd {s x:Operand} {t e:TypeId} {size f k:Nat} {xs ys:List D} (hE:Fl P t e size f) (L:es[k]? =some (.arr e size xs)) (j:∀y∈ys,y.cells.length=size)
 (M:(xs.length+ys.length)*f≤140737488355328) (O:xs.length+ys.length≤maxLen) (S:o.op=.call { callee:=.builtin .append,args:= #[s,x],argTypes:= #[t,t] }):
 Bq P o [(s,.aO k),(x,.d (.sl ys))] es (.aO es.length) (es.set k .dead++[.arr e size (xs++ys)]):=
 .eff fun C ok H a w U m=>by
  have z:=(Ee m).1;have I:=(Ee m).2;simp only at z I;have q:Du ok w (.sl ys) (a.eval x):=by cases I with |d _ _ h=>exact h
  obtain⟨J,n,u⟩:=YU H q j;obtain⟨v',w',H',Y,Z,r2,r3,r4⟩:=an9 (ty:=o.type) U hE L z n u j M O;refine⟨v',w',ok,H',.inl ?_,Z,r2,r3,r4⟩;simp[execOp,S,resolve,invoke,builtin,Y]
def aM6 {C:EI} {ok:Nat→Prop} {H:List Bo} {w:World} (j:D5 C ok H es w) (e:TypeId) (size:Nat):
 D5 C ok (H++[⟨.slice none 0 0,size⟩]) (es++[.arr e size []]) w∧R ok w (H++[⟨.slice none 0 0,size⟩]) (.aO es.length) (.slice none 0 0):=by
 obtain⟨h,_⟩:=j.change (ok':=ok) (w':=w) (H':=H++[⟨.slice none 0 0,size⟩]) (es':=es++[.arr e size []]) (fun _=>False) rfl rfl rfl (E9 _) (fun _ _ _=>rfl) (fun _ h=>h.elim) (fun _ h=>h) (fun _ h=>.inl h) (Names.push _ _) (by simp[j.hlen]) (by
  intro k e' h' n f;rcases WG n with m|⟨m,s⟩
  ·have q:k<H.length:=by rw[j.hlen];exact(FV.1 m).1
   rw[GH q]at f;exact .inl ⟨m,f,fun _ _ _ h=>h⟩
  subst s;have q:k=H.length:=by rw[j.hlen];exact m
  subst q;simp at f;subst f
  exact .inr ⟨⟨rfl,BU,[],⟨BU,.inl ⟨rfl,rfl⟩⟩,SE,fun i hi=>aFT⟩,fun _ b u=>by simp[DX]at u⟩)
 exact⟨h,.aO _ _ _ _ size (by rw[←j.hlen];simp)⟩
def CB (e:TypeId) (size:Nat) (f:o.op=.assign (.const (.slice none 0 0))):Bq P o [] es (.aO es.length) (es++[.arr e size []]):=
 .eff fun C ok H a w h _=>by
  obtain⟨j,m⟩:=aM6 h e size;exact⟨.slice none 0 0,w,ok,_,.inl aLP,.refl _ _,Names.push _ _,j,m⟩
def ahv (f:o.op=.assign (.const (.slice none 0 0))):Bq P o [] es (.d (.sl [])) es:=
 .pure fun _ _ a w _ _ _=>⟨.slice none 0 0,aLP,.d _ _ (.sl0 none 0)⟩
def aoT (f:o.op=.move (.const (.slice none 0 0))):Bq P o [] es (.d (.sl [])) es:=
 .pure fun _ _ a w _ _ _=>⟨.slice none 0 0,aLP,.d _ _ (.sl0 none 0)⟩
end
def aTv (off:Nat):∀(vs:List Value) (i:Nat) (cells:Array Value),off+i+vs.length≤cells.size→
 ((vs.zipIdx i).foldl (fun cs (p:Value×Nat)=>cs.setIfInBounds (off+p.2) p.1) cells).toList=setAt cells.toList (off+i) vs
 | [],i,cells,h=>by simp[setAt]
 |v::vs,i,cells,h=>by
  simp only[Fp]at h;rw[List.zipIdx_cons,G6];rw[aTv off vs (i+1) _ Dy];simp only[aNF];have f:off+i<cells.toList.length:=Dy
  unfold setAt;rw[aLb,D7 f];have j:(cells.toList.take (off+i)).length=off+i:=Dy
  have m:(List.take (off+i) cells.toList++v::List.drop (off+i+1) cells.toList).take (off+(i+1))=cells.toList.take (off+i)++[v]:=by
   rw[aKR,j,PW AA];have :off+(i+1)-(off+i)=1:=AA
   rw[this];simp
  have n:(List.take (off+i) cells.toList++v::List.drop (off+i+1) cells.toList).drop (off+(i+1)+vs.length)=cells.toList.drop (off+i+(vs.length+1)):=by
   rw[List.drop_append,j,yg AA];have :off+(i+1)+vs.length-(off+i)=vs.length+1:=AA
   rw[this];simp[aIz];congr 1;omega
  rw[m,n];simp
def Mc :List (Nat×Operand)→List Ag→List (Operand×Ag)
 |(_,x)::f,v::vs=>(x,v)::Mc f vs
 |_,_=>[]
def MQ (place:Nat→Option (Nat×Nat)) (n:Nat):List (Nat×Operand)→List Ag→Bool
 |(i,_)::f,v::vs=>(match place i with |some (off,s)=>decide (v.cells.length=s)&&decide (off+s≤n)&&v.cells.all Ag.leaf|none=>false)&&MQ place n f vs
 | [],[]=>true
 |_,_=>false
def Jj (place:Nat→Option (Nat×Nat)):List Ag→List (Nat×Operand)→List Ag→List Ag
 |cs,(i,_)::f,v::vs=>Jj place (setAt cs ((place i).getD (0,0)).1 v.cells) f vs
 |cs,_,_=>cs
def FZ.setAt {ok:Nat→Prop} {w:World} {H:List Bo} {cs ys:List Ag} {vs us:List Value} {off:Nat} (h:FZ ok w H cs vs) (k:FZ ok w H ys us) (f:off+ys.length≤cs.length):FZ ok w H (setAt cs off ys) (setAt vs off us):=by
 refine⟨by rw[Rs (by rw[h.1,k.1];exact f),Rs f,h.1],fun i hi=>?_⟩;rw[Rs f]at hi;rw[XP f,XP (by rw[h.1,k.1];exact f),k.1];split
 ·exact k.2 _ AA
 exact h.2 i hi
def oz {ok:Nat→Prop} {w:World} {H:List Bo} {place:Nat→Option (Nat×Nat)} {a:Act}:∀(j:List (Nat×Operand)) (vs:List Ag) (cs:List Ag) (cells:Array Value),FZ ok w H cs cells.toList→MQ place cs.length j vs=true→
 (∀n∈Mc j vs,R ok w H n.2 (a.eval n.1))→∃f,Instr.fill place cells (j.map fun p=>(p.1,a.eval p.2))=some f∧FZ ok w H (Jj place cs j vs) f.toList
 | [],[],cs,cells,z,_,_=>⟨cells,rfl,z⟩
 | [],_::_,_,_,_,h,_=>by simp[MQ]at h
 |_::_,[],_,_,_,h,_=>by simp[MQ]at h
 |(i,x)::j,v::vs,cs,cells,z,h,L=>by
  simp only[MQ,DJ]at h;obtain⟨m,S⟩:=h;cases I:place i with
  |none=>rw[I]at m;cases m
  |some os=>
   obtain⟨off,s⟩:=os;rw[I]at m;simp only[DJ,Gi]at m;obtain⟨⟨h3,h4⟩,U⟩:=m;have M:FZ ok w H v.cells (a.eval x).cells.toList:=(L (x,v) (by simp[Mc])).ajj U;have Y:(a.eval x).cells.size=s:=by have :=M.1;simp at this;omega
   have O:cells.size=cs.length:=by simpa using z.1
   have q:((a.eval x).cells.zipIdx.foldl (fun cs (p:Value×Nat)=>cs.setIfInBounds (off+p.2) p.1) cells).toList=setAt cells.toList off (a.eval x).cells.toList:=by
    rw[←Array.foldl_toList,Array.toList_zipIdx];exact aTv off (a.eval x).cells.toList 0 cells Dy
   have u:=z.setAt M (off:=off) AA;rw[←q]at u;obtain⟨f,Z,hR⟩:=oz j vs (setAt cs off v.cells) _ u (by rw[Rs AA];exact S) (fun n J=>L n (by simp[Mc,J]));refine⟨f,?_,?_⟩
   ·simp only[Ko,Instr.fill,I];rw[DF Dy];exact Z
   simp only[Jj,I,MC];exact hR
def QJ (z:Value) (n:Nat):List Ag:=(List.range n).map fun k=>(FH z).getD (k % z.cells.size) .junk
def atL {ok:Nat→Prop} {w:World} {H:List Bo} {z:Value} {n:Nat} (j:z.cells.all (·.oneCell')=true) (m:0<z.cells.size):FZ ok w H (QJ z n) (((Array.range n).map (z.cells[· % z.cells.size]!)).toList):=by
 refine⟨by simp[QJ],fun i hi=>?_⟩;have f:i<n:=by simpa[QJ]using hi
 have h:i % z.cells.size<z.cells.size:=kD _ m;have q:(QJ z n).getD i .junk=.d (OT z.cells[i % z.cells.size]):=by simp[QJ,FH,List.getD,f,h]
 have s:(((Array.range n).map (z.cells[· % z.cells.size]!)).toList).getD i undef=z.cells[i % z.cells.size]:=by simp[List.getD,f,h]
 rw[q,s];exact⟨uY ((QF.1 j) _ BU),.d _ _ (dW _)⟩
def aIo {ok:Nat→Prop} {w:World} {H:List Bo} {z:Value} (f:z.cells.all (·.oneCell')=true):FZ ok w H (FH z) z.cells.toList:=by
 refine⟨by simp[FH],fun i hi=>?_⟩;simp only[FH,D6,Ry]at hi;have h:(FH z).getD i .junk=.d (OT z.cells[i]):=by simp[FH,List.getD,hi]
 have j:z.cells.toList.getD i undef=z.cells[i]:=Le
 rw[h,j];exact⟨uY ((QF.1 f) _ BU),.d _ _ (dW _)⟩
def aJo {P:Program} {w:World}:∀(l:List Field),(∀f∈l,(P.info? f.type).isSome=true)→
 (l.mapM fun f=>(do pure (f.offset,←sizeOf f.type):Sem (Nat×Nat))).run P w=.ok (l.map fun f=>(f.offset,P.cellsOf f.type)) w
 | [],_=>rfl
 |f::l,h=>by
  obtain⟨i,hi⟩:=Qy.1 (h f BU);have j:=aJo (P:=P) (w:=w) l (fun g m=>h g (by simp[m]));have n:(sizeOf f.type).run P w=.ok i.size w:=by simp[sizeOf,typeInfo,hi]
  have q:P.cellsOf f.type=i.size:=by simp[Program.cellsOf,hi]
  simp only[List.mapM_cons,F7,n,FI,Fr,j,Ko,q]
structure Il (P:Program) (t:TypeId) (places:List (Nat×Nat)) (z:Value):Prop where
 fields:∃fs,P.underlying t=some (.struct fs)∧(∀f∈fs.toList,(P.info? f.type).isSome=true)∧(fs.toList.map fun f=>(f.offset,P.cellsOf f.type))=places
 zero:(P.info? t).bind (·.zero)=some z
 one:z.cells.all (·.oneCell')=true
def aQn (P:Program) (t:TypeId) (h:List (Nat×Nat)):Bool:=
 match P.underlying t with
 |some (.struct j)=>j.toList.all (fun f=>(P.info? f.type).isSome)&&decide ((j.toList.map fun f=>(f.offset,P.cellsOf f.type))=h)
 |_=>false
def Ku {P:Program} {t:TypeId} {f:List (Nat×Nat)} {z:Value} (h:aQn P t f=true) (j:(P.info? t).bind (·.zero)=some z) (m:z.cells.all (·.oneCell')=true):Il P t f z:=by
 unfold aQn at h;split at h
 ·rename_i n q;simp only[DJ,ER,Gi]at h;exact⟨⟨n,q,h.1,h.2⟩,j,m⟩
 cases h
section
variable {P : Program} {o : Oper} {es : List BQ}
def aD2 {t:TypeId} {z:Value} (h:(P.info? t).bind (·.zero)=some z) (w:World):(zeroValue t).run P w=.ok z w:=by
 obtain⟨i,hi,f⟩:=bY.1 h;simp[zeroValue,typeInfo,hi,f]
def abt {l:List Ag} (h:l.all Ag.Ah=true):l=(Iq l).map .d:=by
 rw[ER]at h;unfold Iq;rw[su]
 conv=>lhs;rw[←List.map_id l]
 refine List.map_congr_left fun x f=>?_;have :=h x f;cases x<;>first|rfl|(simp[Ag.Ah]at this)
def ahw {t:TypeId} {j:Array (Nat×Operand)} {h:List (Nat×Nat)} {z:Value} (O:Il P t h z) (vs:List Ag) (S:MQ (fun(i:Nat)=>h[i]?) (FH z).length j.toList vs=true) (U:o.op=.build t j):
 Bq P o (Mc j.toList vs) es (.ag (Jj (fun(i:Nat)=>h[i]?) (FH z) j.toList vs)) es:=
 .pure fun ok H a w _ _ Y=>by
  obtain⟨⟨L,Z,hf,q⟩,hz,h1⟩:=O;have s:=aD2 (P:=P) hz w;have u:(underlying t).run P w=.ok (.struct L) w:=aJf
  have hm:(L.mapM fun f=>(do pure (f.offset,←sizeOf f.type):Sem (Nat×Nat))).run P w=.ok h.toArray w:=by
   rw[aNV];rw[qj,aJo _ hf,q];rfl
  obtain⟨m,hc,n⟩:=oz (place:=fun(i:Nat)=>h[i]?) j.toList vs (FH z) z.cells (aIo (ok:=ok) (w:=w) (H:=H) h1) S Y;refine⟨.agg m,?_,.ag _ _ (by simpa using n.1) (fun i hi=>(n.2 i hi).1) (fun i hi=>?_)⟩
  rotate_left
  ·have M:=(n.2 i hi).2;have I:i<m.size:=by have :=n.1;simp at this;omega
   have J:m.toList.getD i undef=m.getD i undef:=by simp[List.getD,Array.getD,I]
   rw[J]at M;exact M
  have e:(j.map fun(i,x)=>(i,a.eval x)).toList=j.toList.map fun p=>(p.1,a.eval p.2):=BU
  have J:(fun(i:Nat)=>h.toArray[i]?)=(fun(i:Nat)=>h[i]?):=by funext i;simp
  simp only[execOp,U,Instr.build,F7,s,u,hm,FI];rw[e,J,hc];rfl
def ahT {t:TypeId} {m:Array (Nat×Operand)} {j:List (Nat×Nat)} {z:Value} (Z:Il P t j z) (vs:List Ag) (hp:MQ (fun(i:Nat)=>j[i]?) (FH z).length m.toList vs=true)
 (hd:(Jj (fun(i:Nat)=>j[i]?) (FH z) m.toList vs).all Ag.Ah=true) (ho:o.op=.build t m):
 Bq P o (Mc m.toList vs) es (.d (.agg (Iq (Jj (fun(i:Nat)=>j[i]?) (FH z) m.toList vs)))) es:=
 .pure fun ok H a w _ _ hn=>by
  obtain⟨⟨S,hu,hf,q⟩,hz,h1⟩:=Z;have s:=aD2 (P:=P) hz w;have u:(underlying t).run P w=.ok (.struct S) w:=by simp[underlying,hu]
  have hm:(S.mapM fun f=>(do pure (f.offset,←sizeOf f.type):Sem (Nat×Nat))).run P w=.ok j.toArray w:=by
   rw[aNV];rw[qj,aJo _ hf,q];rfl
  obtain⟨n,hc,I⟩:=oz (place:=fun(i:Nat)=>j[i]?) m.toList vs (FH z) z.cells (aIo (ok:=ok) (w:=w) (H:=H) h1) hp hn;refine⟨.agg n,?_,.d _ _ ?_⟩
  ·have e:(m.map fun(i,x)=>(i,a.eval x)).toList=m.toList.map fun p=>(p.1,a.eval p.2):=BU
   have e2:(fun(i:Nat)=>j.toArray[i]?)=(fun(i:Nat)=>j[i]?):=by funext i;simp
   simp only[execOp,ho,Instr.build,F7,s,u,hm,FI];rw[e,e2,hc];rfl
  rw[abt hd]at I;generalize Iq (Jj (fun(i:Nat)=>j[i]?) (FH z) m.toList vs)=xs at I ⊢;obtain⟨U,J⟩:=I;simp only[D6]at U J
  have Y:∀i,i<xs.length→(xs.map Ag.d).getD i .junk=.d (xs.getD i Dp):=by
   intro i hi;simp[List.getD,hi]
  have L:n.size=xs.length:=oM
  refine .agg xs n L ?_ ?_<;>intro i hi
  ·have :=(J i hi).1;rw[Y i hi]at this;exact this
  have M:=(J i hi).2;rw[Y i hi]at M;have O:i<n.size:=AA
  have e:n.toList.getD i undef=n.getD i undef:=by simp[List.getD,Array.getD,O]
  rw[e]at M;cases M with |d _ _ h=>exact h
def amL {ok:Nat→Prop} {w:World} {H:List Bo} {ys:List D} {size b:Nat} {cells:Array Value} {e:TypeId} {fr:Nat×Nat} (m:∀y∈ys,y.cells.length=size) (J:w.heap[b]? =some (.cells cells e fr)) (n:ok b) (q:FZ ok w H (flat ys) cells.toList):
 Du ok w (.sl ys) (.slice (some ⟨b,0,none⟩) ys.length ys.length):=by
 have z:=RS m;have s:cells.size=ys.length*size:=by have :=q.1;simp at this;omega
 have L:∀i,i<ys.length→ys.getD i Dp∈ys:=fun i hi=>Le
 have u:∀i j,i<ys.length→j<size→i*size+j<ys.length*size:=by
  intro i j hi f
  calc i*size+j<i*size+size:=AA
   _=(i+1)*size:=by rw[Ty]
   _≤ys.length*size:=Ja _ hi
 have I:∀i j,i<ys.length→j<size→w.cell? ⟨b,0+(i*size+j),none⟩=some (cells.toList.getD (i*size+j) undef):=by
  intro i j hi f;have :=u i j hi f;rw[J4];simp[World.cell?,J,s,this,List.getD]
 refine .sl ys b 0 ys.length size (E9 _) (fun _ _=>n) (fun i hi=>m _ (L i hi)) (fun i hi j f=>?_) (fun i hi j f=>?_) (fun i hi j f=>?_)
 ·have :=(q.2 (i*size+j) (by rw[z];exact u i j hi f)).1;rw[flat_get m i j hi f]at this;exact this
 ·rw[I i j hi f];rfl
 have :=(q.2 (i*size+j) (by rw[z];exact u i j hi f)).2;rw[flat_get m i j hi f]at this;unfold cellAt;rw[I i j hi f];cases this with |d _ _ h=>exact h
def abq {t e:TypeId} {size j len:Nat} {z:Value} (hE:Fl P t e size j) (Z:(P.info? e).bind (·.zero)=some z) (h1:z.cells.all (·.oneCell')=true) (L:z.cells.size=size) (hlen:len*size≤16777216) {f:Array (Nat×Operand)} {vs:List Ag}
 (hp:MQ (fun i=>some (i*size,size)) (len*size) f.toList vs=true) {ok:Nat→Prop} {w:World} {H:List Bo} {a:Act} (hn:∀n∈Mc f.toList vs,R ok w H n.2 (a.eval n.1)):
 ∃cells,(Instr.buildSlice t len (f.map fun(i,x)=>(i,a.eval x))).run P w=.ok (.slice (some ⟨w.heap.size,0,none⟩) len len) (w.alloc (.cells cells e))∧FZ ok w H (Jj (fun i=>some (i*size,size)) (QJ z (len*size)) f.toList vs) cells.toList:=by
 obtain⟨i,z',hi,_,hs,_,_⟩:=hE.info;have M:=aD2 (P:=P) Z w;have m:(sizeOf e).run P w=.ok size w:=aO9
 have q:(underlying t).run P w=.ok (.slice e) w:=aHc
 have Y:(f.map fun(i,x)=>(i,a.eval x)).toList=f.toList.map fun p=>(p.1,a.eval p.2):=BU
 have O:(QJ z (len*size)).length=len*size:=by simp[QJ]
 have s:0<z.cells.size:=by rw[L];exact hE.pos
 obtain⟨h,S,hR⟩:=oz (place:=fun i=>some (i*size,size)) f.toList vs (QJ z (len*size)) _ (atL (ok:=ok) (w:=w) (H:=H) (n:=len*size) h1 s) (by rw[O];exact hp) hn;refine⟨h,?_,hR⟩;have u:¬(len*size>2^24):=AA
 by_cases I:len*size=0
 ·have U:(Array.range (len*size)).map (fun k=>(z.cells[k % z.cells.size]! :Value))= #[]:=by rw[I];simp
  rw[U]at S;have J:(Array.range (len*size)).map (fun k=>((#[]:Array Value)[k % (#[]:Array Value).size]! :Value))= #[]:=by rw[I];simp
  simp only[Instr.buildSlice,F7,q,FI,m,u,Jg,Sem.run_ite,I,JQ,Fr];simp only[I]at J;rw[J,Y,S];rfl
 simp only[Instr.buildSlice,F7,q,FI,m,u,Jg,Sem.run_ite,I,M,Fr];rw[Y,S];rfl
def aaL {t e:TypeId} {size h len:Nat} {z:Value} (hE:Fl P t e size h) (u:(P.info? e).bind (·.zero)=some z) (I:z.cells.all (·.oneCell')=true) (n:z.cells.size=size) (hlen:len*size≤16777216) {f:Array (Nat×Operand)} (vs:List Ag) (ys:List D)
 (J:MQ (fun i=>some (i*size,size)) (len*size) f.toList vs=true) (q:Jj (fun i=>some (i*size,size)) (QJ z (len*size)) f.toList vs=flat ys) (L:ys.length=len) (j:ys.all (fun y=>decide (y.cells.length=size))=true) (M:o.op=.buildSlice t len f):
 Bq P o (Mc f.toList vs) es (.d (.sl ys)) es:=
 .eff fun C ok H a w O S=>by
  obtain⟨cells,U,m⟩:=abq hE u I n hlen J S;rw[q]at m;obtain⟨Y,s⟩:=O.fresh (.cells cells e);refine⟨.slice (some ⟨w.heap.size,0,none⟩) len len,_,_,H,.inl ?_,s,.refl _,Y,.d _ _ ?_⟩
  ·simp only[execOp,M,F7,U,FI,Fr]
  rw[←L];exact amL (H:=H) (fun y q=>by rw[ER]at j;simpa using j y q) (WU w _) (.inr rfl) (m.mono s (.refl _))
def aJ5 {t e:TypeId} {size h len:Nat} {z:Value} (hE:Fl P t e size h) (S:(P.info? e).bind (·.zero)=some z) (U:z.cells.all (·.oneCell')=true) (I:z.cells.size=size) (hlen:len*size≤16777216) {f:Array (Nat×Operand)} (vs:List Ag) (ys:List D)
 (Y:MQ (fun i=>some (i*size,size)) (len*size) f.toList vs=true) (J:Jj (fun i=>some (i*size,size)) (QJ z (len*size)) f.toList vs=flat ys) (L:ys.length=len) (m:ys.all (fun y=>decide (y.cells.length=size))=true) (Z:o.op=.buildSlice t len f):
 Bq P o (Mc f.toList vs) es (.aO es.length) (es++[.arr e size ys]):=
 .eff fun C ok H a w M hn=>by
  obtain⟨cells,hr,j⟩:=abq hE S U I hlen Y hn;rw[J]at j;have n:∀y∈ys,y.cells.length=size:=fun y J=>by rw[ER]at m;simpa using m y J
  have hfl:=RS n;have q:cells.size=ys.length*size:=by have :=j.1;simp at this;omega
  have s:=hE.pos
  have O:ys.length≤16777216:=by
   have :ys.length*1≤ys.length*size:=Nat.mul_le_mul_left _ s;rw[L]at this ⊢;omega
  obtain⟨h2,h3⟩:=M.push (.cells cells e) ⟨.slice (some ⟨w.heap.size,0,none⟩) len len,size⟩ (.arr e size ys) (fun b u=>by simpa[DX]using u.symm) (by
   refine⟨rfl,n,cells.toList,⟨TY,.inr ⟨w.heap.size,len,cells,by rw[L],EY _,WU w _,AA,aBd,Yf (by rw[q,L]),?_⟩⟩,?_⟩
   ·rw[PW Dy]
   exact j.mono (fun b u=>⟨u,JY _ _ _ (M.kL b u)⟩) (Names.push _ _))
  refine⟨.slice (some ⟨w.heap.size,0,none⟩) len len,_,ok,_,.inl ?_,h3,Names.push _ _,h2,.aO _ _ _ _ size (by rw[←M.hlen];simp)⟩;simp only[execOp,Z,F7,hr,FI,Fr]
end
section
variable {P : Program} {ops : Array Oper} {Q : Exit → Act → World → Prop} {φ : Nat → Value → World → Prop} {W : World} {a0 : Act} {i : Nat}
variable {d : Option Tmp} {t : TypeId} {p : String} {af : Array Edge} {g : Option (Nat × Bool)}
def Enters (P:Program) (f:FuncId):Prop:=∀args w,(callFunc f args).run P w=.ok (.enter f args) w
def enters_of {f:FuncId} {fn:Func} {c:Code} (j:P.funcs[f]? =some fn) (h:(fn.name== "runtime.NumGoroutine")=false) (m:fn.body=some c):Enters P f:=by
 intro args w;have n:fn.name≠ "runtime.NumGoroutine" :=JB
 simp[callFunc,j,n,m]
def Dt (P:Program) (f:FuncId):Bool:=match P.funcs[f]? with
 |some fn=> !(fn.name== "runtime.NumGoroutine")&&fn.body.isSome
 |none=>false
def TP {f:FuncId} (h:Dt P f=true):Enters P f:=by
 unfold Dt at h;cases j:P.funcs[f]? with
 |none=>rw[j]at h;cases h
 |some fn=>
  rw[j]at h;simp only[DJ,RZ]at h;obtain⟨c,m⟩:=Qy.1 h.2;exact enters_of j h.1 m
def tH {o:Oper} {a:Act} {f:FuncId} {ats:Array TypeId} {aFA:Array Operand} (h:o.op=.call { callee:=.value (.func f),args:=aFA,argTypes:=ats }):execOp a.eval o=callFunc f (aFA.map a.eval):=by
 have j:a.eval (.func f)=.func (.func f) #[] #[]:=rfl;unfold execOp;simp[h,resolve,Deferred.ofValue,invoke,j]
end
inductive Dv where
 |ent (k:Nat)
 |nil (size:Nat)
def Dv.hd (H:List Bo):Dv→Bo
 | .ent k=>H.getD k ⟨undef,0⟩
 | .nil s=>⟨.slice none 0 0,s⟩
def Ag.Vm (srcs:List Dv) (n:Nat):Ag→Ag
 | .d x=>.d x
 | .ptr k off=>match srcs[k]? with |some (.ent j)=>.ptr j off|some (.nil _)=>.junk|none=>.ptr (n+(k-srcs.length)) off
 | .aO k=>match srcs[k]? with |some (.ent j)=>.aO j|some (.nil _)=>.junk|none=>.aO (n+(k-srcs.length))
 | .lK k i off=>match srcs[k]? with |some (.ent j)=>.lK j i off|some (.nil _)=>.junk|none=>.lK (n+(k-srcs.length)) i off
 | .mp k=>match srcs[k]? with |some (.ent j)=>.mp j|some (.nil _)=>.junk|none=>.mp (n+(k-srcs.length))
 | .wP k=>match srcs[k]? with |some (.ent j)=>.wP j|some (.nil _)=>.junk|none=>.wP (n+(k-srcs.length))
 | .clip xs=>.clip xs
 |_=>.junk
def Ag.up (srcs:List Dv) (n:Nat):Ag→Ag
 | .fP xs=>.fP (xs.map (Ag.Vm srcs n))
 | .fn f fi ca=>.fn f (fi.map (Ag.Vm srcs n)) (ca.map (Ag.Vm srcs n))
 |x=>x.Vm srcs n
def aJw (srcs:List Dv):Ag→Ag→Prop
 | .d x,y=>y=.d x
 | .ptr k off,y=>∃i,y=.ptr i off∧srcs[i]? =some (.ent k)
 | .mp k,y=>∃i,y=.mp i∧srcs[i]? =some (.ent k)
 |_,_=>False
def vY (srcs:List Dv):List Ag→List Ag→Prop
 |x::xs,y::ys=>aJw srcs x y∧vY srcs xs ys
 | [],[]=>True
 |_,_=>False
def xJ {srcs:List Dv}:∀{xs ys:List Ag},vY srcs xs ys→xs.length=ys.length
 | [],[],_=>rfl
 |_::xs,_::ys,h=>by simp[xJ h.2]
 | [],_::_,h=>h.elim
 |_::_,[],h=>h.elim
def aMs {srcs:List Dv}:∀{xs ys:List Ag},vY srcs xs ys→∀i,i<ys.length→aJw srcs (xs.getD i .junk) (ys.getD i .junk)
 | [],[],_,i,hi=>Ns
 |_::xs,_::ys,h,0,_=>by simpa using h.1
 |_::xs,_::ys,h,i+1,hi=>by simpa using aMs h.2 i Fj
 | [],_::_,h,_,_=>h.elim
 |_::_,[],h,_,_=>h.elim
def aP8 (srcs:List Dv):Ag→Ag→Prop
 | .fn f fi ca,y=>∃h j,y=.fn f h j∧vY srcs fi h∧vY srcs ca j
 | .d x,y=>y=.d x∨(∃i s,x=.lit (.slice none 0 0)∧y=.aO i∧srcs[i]? =some (.nil s))∨(x=.lit (.slice none 0 0)∧y=.d (.sl []))
 | .aO k,y=>∃i,y=.aO i∧srcs[i]? =some (.ent k)
 | .ptr k off,y=>∃i,y=.ptr i off∧srcs[i]? =some (.ent k)
 | .mp k,y=>∃i,y=.mp i∧srcs[i]? =some (.ent k)
 |_,_=>False
def BQ.closed:BQ→Bool
 | .box cs=>cs.all Ag.Ah
 | .loop .. =>false
 |_=>true
def Em.any {ok:Nat→Prop} {w:World} {H H2:List Bo} {h:Bo} {e:BQ} (j:Em ok w H h e) (q:e.closed=true):Em ok w H2 h e:=by
 cases e with
 |dead=>trivial
 |box cs=>
  obtain⟨b,vs,T,u,z,I,n⟩:=j;refine⟨b,vs,T,u,z,I,fun i hi=>⟨(n i hi).1,?_⟩⟩;have m:=(n i hi).2;simp only[BQ.closed,ER]at q;have f:=q (cs.getD i .junk) Le;cases L:cs.getD i .junk with
  |d x=>rw[L]at m;cases m with |d _ _ h=>exact .d _ _ h
  |_=>rw[L]at f;simp[Ag.Ah]at f
 |arr e s es=>
  obtain⟨u,z,xs,I,n,m⟩:=j;refine⟨u,z,xs,I,n,fun i hi=>⟨(m i hi).1,?_⟩⟩;have f:=(m i hi).2;have J:(flat es).getD i .junk∈flat es:=Le
  unfold flat at J ⊢;simp only[UG,Fh]at J;obtain⟨x,_,y,_,M⟩:=J;unfold flat at f;rw[←M]at f ⊢;cases f with |d _ _ h=>exact .d _ _ h
 |map es=>exact j
 |bQ es=>exact j
 |iter es vis=>exact j
 |loop=>cases q
def BQ.up (srcs:List Dv) (n:Nat):BQ→BQ
 | .box cs=>.box (cs.map (Ag.Vm srcs n))
 |e=>e
def Ag.aqM (srcs:List Dv):Ag→Bool
 | .d _=>true
 | .mp k=>match srcs[k]? with |some (.ent _)=>true|_=>false
 | .ptr k _=>match srcs[k]? with |some (.ent _)=>true|_=>false
 |_=>false
def BQ.al8 (srcs:List Dv):BQ→Bool
 | .box cs=>cs.all (Ag.aqM srcs)
 | .loop .. =>false
 |_=>true
def BQ.anV (srcs:List Dv) (n:Nat):BQ→Bool
 | .box cs=>cs.all fun x=>x.Ah||(x.Vm srcs n).leaf
 | .loop .. =>false
 |_=>true
def BQ.adF (srcs:List Dv) (n:Nat) (e:BQ):(e.up srcs n).live=e.live:=by cases e<;>rfl
def aR5 {srcs:List Dv} {n:Nat} {x:Ag} (h:x.Ah=true):x.Vm srcs n=x:=by cases x<;>first|rfl|cases h
def BQ.axE {srcs:List Dv} {n:Nat} {e:BQ} (h:e.closed=true):e.up srcs n=e:=by
 cases e with
 |box cs=>
  simp only[BQ.closed,ER]at h;show BQ.box (cs.map (Ag.Vm srcs n))=BQ.box cs
  rw[show cs.map (Ag.Vm srcs n)=cs from by
   conv=>rhs;rw[←List.map_id cs]
   exact List.map_congr_left fun x f=>aR5 (h x f)]
 |_=>rfl
def ab3 {srcs:List Dv} {n:Nat}:∀{E:List BQ},E.all BQ.closed=true→E.map (BQ.up srcs n)=E
 | [],_=>rfl
 |e::E,h=>by
  simp only[List.all_cons,DJ]at h;rw[Ko,BQ.axE h.1,ab3 h.2]
def ajZ {srcs:List Dv} {n:Nat} {e:BQ} (h:e.closed=true):e.anV srcs n=true:=by
 cases e with
 |box cs=>
  simp only[BQ.closed,BQ.anV,ER]at h ⊢;intro x f;rw[h x f];rfl
 |loop=>cases h
 |_=>rfl
def Em.down {ok:Nat→Prop} {w:World} {H Hc:List Bo} {h:Bo} {srcs:List Dv} {n:Nat} {e:BQ} (J:∀(j:Nat) (s:Dv),srcs[j]? =some s→Hc[j]? =some (Dv.hd H s)) (hd:e.al8 srcs=true) (u:Em ok w H h (e.up srcs n)):Em ok w Hc h e:=by
 cases e with
 |dead=>trivial
 |arr=>exact u.any rfl
 |map=>exact u
 |bQ=>exact u
 |iter=>exact u
 |loop=>cases hd
 |box cs=>
  obtain⟨b,vs,T,L,M,O,S⟩:=u;refine⟨b,vs,T,L,M,by rw[O,D6],fun i hi=>?_⟩;obtain⟨z,m⟩:=S i aHt;rw[UJ _ _ _ hi]at m z;simp only[BQ.al8,ER]at hd;have f:=hd (cs.getD i .junk) Le;generalize cs.getD i .junk=x at m f z ⊢;generalize vs.toList.getD i undef=v at m ⊢;cases x with
  |d x=>exact⟨z,by cases m with |d _ _ h=>exact .d _ _ h⟩
  |mp k=>
   refine⟨rfl,?_⟩;simp only[Ag.aqM]at f;simp only[Ag.Vm]at m;cases q:srcs[k]? with
   |none=>rw[q]at f;cases f
   |some s=>
    cases s with
    |nil _=>rw[q]at f;cases f
    |ent j=>
     rw[q]at m;cases m with
     |mp _ _ s U I=>
      refine .mp k _ s U ?_;rw[J k _ q];simp[Dv.hd,List.getD,I]
  |ptr k off=>
   refine⟨rfl,?_⟩;simp only[Ag.aqM]at f;simp only[Ag.Vm]at m;cases q:srcs[k]? with
   |none=>rw[q]at f;cases f
   |some s=>
    cases s with
    |nil _=>rw[q]at f;cases f
    |ent j=>
     rw[q]at m;cases m with
     |ptr _ _ b s I=>
      refine .ptr k off b s ?_;rw[J k _ q];simp[Dv.hd,List.getD,I]
  |_=>simp[Ag.aqM]at f
def LW (srcs:List Dv) (es E':List BQ):List BQ:=
 (es.zipIdx.map fun(e,j)=>match srcs.findIdx? (fun s=>match s with | .ent k=>k==j| .nil _=>false)with |some i=>(E'.getD i .dead).up srcs es.length|none=>e)++(E'.drop srcs.length).map (BQ.up srcs es.length)
def Qo (srcs:List Dv) (es E E':List BQ):Bool:=
 decide (srcs.length=E.length)&&decide (srcs.length≤E'.length)&&E.all (BQ.al8 srcs)&&E'.all (BQ.anV srcs es.length)&&
 decide ((srcs.filterMap fun s=>match s with | .ent k=>some k| .nil _=>none).Nodup)&&
 ((srcs.zip E').all fun p=>match p.1 with | .ent _=>true| .nil _=> !p.2.live)&&(srcs.all fun s=>match s with | .ent k=>decide (k<es.length)&&(es.getD k .dead).live| .nil _=>true)
def pJ (srcs:List Dv) (es:List BQ):List BQ→Prop
 |E=>∀(i:Nat) (s:Dv),srcs[i]? =some s→match s with | .ent k=>(E[i]?).map (BQ.up srcs es.length)=es[k]? | .nil sz=>∃e,E[i]? =some (.arr e sz [])
def Uc {ok:Nat→Prop} {w:World} {H Hc H':List Bo} {srcs:List Dv} {x:Ag} {v:Value} (S:Hc=srcs.map (Dv.hd H)) (J:∀(i k:Nat),srcs[i]? =some (.ent k)→k<H.length) (U:Names Hc H') (h:R ok w H' x v):R ok w (H++H'.drop srcs.length) (x.Vm srcs H.length) v:=by
 have key:∀(k:Nat) (hd:Bo),H'[k]? =some hd→(∀(j:Nat),srcs[k]? =some (.ent j)→(H++H'.drop srcs.length)[j]? =some hd)∧(srcs[k]? =none→(H++H'.drop srcs.length)[H.length+(k-srcs.length)]? =some hd):=by
  intro k hd M;refine⟨fun j O=>?_,fun L=>?_⟩
  ·have z:=J k j O;have u:Hc[k]? =some (H.getD j ⟨undef,0⟩):=by rw[S,J9,O];rfl
   have q:=U _ _ u;rw[M]at q;rw[GH z];simp[List.getD,z]at q;simp[z,q]
  have Y:srcs.length≤k:=aGb
  rw[Jd AA,Oh];have :srcs.length+(H.length+(k-srcs.length)-H.length)=k:=AA
  rw[this,M]
 cases h with
 |d x v h=>exact .d x v h
 |ptr k off b s h=>
  obtain⟨u,q⟩:=key k _ h;simp only[Ag.Vm];split<;>rename_i m
  ·exact .ptr _ off b s (u _ m)
  ·exact .junk _
  exact .ptr _ off b s (q m)
 |aO k ad n cap s h=>
  obtain⟨u,q⟩:=key k _ h;simp only[Ag.Vm];split<;>rename_i m
  ·exact .aO _ ad n cap s (u _ m)
  ·exact .junk _
  exact .aO _ ad n cap s (q m)
 |lK k i off b n cap s h=>
  obtain⟨u,q⟩:=key k _ h;simp only[Ag.Vm];split<;>rename_i m
  ·exact .lK _ i off b n cap s (u _ m)
  ·exact .junk _
  exact .lK _ i off b n cap s (q m)
 |mp k v s I h=>
  obtain⟨u,q⟩:=key k _ h;simp only[Ag.Vm];split<;>rename_i m
  ·exact .mp _ v s I (u _ m)
  ·exact .junk _
  exact .mp _ v s I (q m)
 |clip xs ad h=>exact .clip xs ad h
 |wP k ad n cap s h=>
  obtain⟨u,q⟩:=key k _ h;simp only[Ag.Vm];split<;>rename_i m
  ·exact .wP _ ad n cap s (u _ m)
  ·exact .junk _
  exact .wP _ ad n cap s (q m)
 |fn f first cap vs us I Z h h'=>exact .junk _
 |fP xs vs I h=>exact .junk _
 |ag xs vs I hf h=>exact .junk _
 |junk v=>exact .junk _
def adz {ok:Nat→Prop} {w:World} {H Hc H':List Bo} {srcs:List Dv} {x:Ag} {v:Value} (m:Hc=srcs.map (Dv.hd H)) (j:∀(i k:Nat),srcs[i]? =some (.ent k)→k<H.length) (q:Names Hc H') (h:R ok w H' x v):R ok w (H++H'.drop srcs.length) (x.up srcs H.length) v:=by
 cases h with
 |fP xs vs u h=>exact .fP _ vs ZA (fun i hi=>aTj)
 |ag xs vs u I h=>exact .junk _
 |d x v h=>exact Uc m j q (.d x v h)
 |ptr k off b s h=>exact Uc m j q (.ptr k off b s h)
 |aO k ad n cap s h=>exact Uc m j q (.aO k ad n cap s h)
 |lK k i off b n cap s h=>exact Uc m j q (.lK k i off b n cap s h)
 |mp k v s u h=>exact Uc m j q (.mp k v s u h)
 |clip xs ad h=>exact Uc m j q (.clip xs ad h)
 |wP k ad n cap s h=>exact Uc m j q (.wP k ad n cap s h)
 |fn f first cap vs us u z h h'=>exact .fn f _ _ vs us ZA (by simp[z]) (fun i hi=>aTj) (fun i hi=>by rw[D6]at hi;rw[UJ _ _ _ hi];exact Uc m j q (h' i hi))
 |junk v=>exact .junk _
def Em.upw {ok:Nat→Prop} {w:World} {H Hc H':List Bo} {h:Bo} {srcs:List Dv} {n:Nat} {e:BQ} (s:Hc=srcs.map (Dv.hd H)) (m:∀(i k:Nat),srcs[i]? =some (.ent k)→k<H.length) (u:Names Hc H') (z:H.length=n) (q:e.anV srcs n=true) (f:Em ok w H' h e):
 Em ok w (H++H'.drop srcs.length) h (e.up srcs n):=by
 cases e with
 |dead=>trivial
 |arr=>exact f.any rfl
 |map=>exact f
 |bQ=>exact f
 |iter=>exact f
 |loop=>cases q
 |box cs=>
  obtain⟨b,vs,T,I,J,L,M⟩:=f;refine⟨b,vs,T,I,J,by rw[L,D6],fun i hi=>?_⟩;rw[D6]at hi;obtain⟨O,S⟩:=M i hi;simp only[BQ.anV,ER]at q;have j:=q (cs.getD i .junk) Le;rw[UJ _ _ _ hi];refine⟨?_,by have :=Uc s m u S;rwa [z]at this⟩;rcases Bool.or_eq_true_iff.1 j with j|j
  ·rw[aR5 j];exact O
  exact j
def F5 :List Operand→List Ag→List (Operand×Ag)
 |x::xs,v::vs=>(x,v)::F5 xs vs
 |_,_=>[]
def Lh (srcs:List Dv):List Ag→List Ag→Prop
 |x::xs,y::ys=>aP8 srcs x y∧Lh srcs xs ys
 | [],[]=>True
 |_,_=>False
def aRd {srcs:List Dv}:∀{xs ys:List Ag},Lh srcs xs ys→xs.length=ys.length
 | [],[],_=>rfl
 |_::xs,_::ys,h=>by simp[aRd h.2]
 | [],_::_,h=>h.elim
 |_::_,[],h=>h.elim
def aoK {srcs:List Dv} {ops:List Operand}:∀{xs ys:List Ag},ops.length=xs.length→Lh srcs xs ys→∀i,i<ys.length→∃o x,ops[i]? =some o∧(o,x)∈F5 ops xs∧aP8 srcs x (ys.getD i .junk):=by
 induction ops with
 |nil=>
  intro xs ys f h i hi;cases xs with
  |nil=>cases ys with |nil=>simp at hi|cons _ _=>exact h.elim
  |cons _ _=>simp at f
 |cons o ops j=>
  intro xs ys f h i hi;cases xs with
  |nil=>simp at f
  |cons x xs=>
   cases ys with
   |nil=>exact h.elim
   |cons y ys=>
    cases i with
    |zero=>exact⟨o,x,rfl,by simp[F5],h.1⟩
    |succ i=>
     obtain⟨m,n,q,s,u⟩:=j KZ h.2 i Fj;exact⟨m,n,TY,by simp[F5,s],Rh⟩
def atm {srcs:List Dv} {H:List Bo} {b:Nat}:b∈(srcs.filterMap fun s=>match s with | .ent k=>DX (H.getD k ⟨undef,0⟩).v| .nil _=>none)↔∃k,.ent k∈srcs∧DX (H.getD k ⟨undef,0⟩).v=some b:=by
 rw[Rw];constructor
 ·rintro⟨s,f,h⟩;cases s with
  |ent k=>exact⟨k,f,h⟩
  |nil _=>cases h
 rintro⟨k,f,h⟩;exact⟨_,f,h⟩
section
variable {P : Program} {o : Oper} {es : List BQ}
def aSJ :∀{srcs:List Dv},(srcs.filterMap fun s=>match s with | .ent k=>some k| .nil _=>none).Nodup→∀(i j k:Nat),srcs[i]? =some (.ent k)→srcs[j]? =some (.ent k)→i=j
 | [],_,i,j,k,h,_=>Hl
 |s::srcs,m,i,j,k,hi,q=>by
  have f:∀(n:Nat),srcs[n]? =some (.ent k)→k∈srcs.filterMap fun s=>match s with | .ent k=>some k| .nil _=>none:=fun n h=>by
   rw[Rw];exact⟨_,WJ h,rfl⟩
  have u:(srcs.filterMap fun s=>match s with | .ent k=>some k| .nil _=>none).Nodup:=by
   cases s with
   |ent k'=>simp only[RN]at m;exact(NC.1 m).2
   |nil _=>simpa only[RN]using m
  match i,j with
  |0,0=>rfl
  |0,j+1=>
   simp at hi q;subst hi;simp only[RN]at m;exact absurd (f j q) (NC.1 m).1
  |i+1,0=>
   simp at hi q;subst q;simp only[RN]at m;exact absurd (f i hi) (NC.1 m).1
  |i+1,j+1=>rw[aSJ u i j k Fj TY]
def aOu {f:FuncId} {C:EI} {ok:Nat→Prop} {H:List Bo} {w:World} (Y:D5 C ok H es w) (srcs:List Dv) {eH fU:List Ag} {E E':List BQ} {res:Ag} (hr:Ap P f fU E res E')
 (hb:Qo srcs es E E'=true) (hE:pJ srcs es E) (ha:Lh srcs eH fU) {ops:List Operand} (hl:ops.length=eH.length) {a:Act} (hn:∀n∈F5 ops eH,R ok w H n.2 (a.eval n.1)):
 Calls P f (ops.map a.eval).toArray w fun e w'=>∃v ok' H',e=.returned v∧EO ok w ok' w'∧Names H H'∧D5 C ok' H' (LW srcs es E') w'∧R ok' w' H' (res.up srcs es.length) v:=by
 unfold Qo at hb;simp only[DJ,Gi,ER]at hb;obtain⟨⟨⟨⟨⟨⟨hb1,hb2⟩,hb3⟩,hb4⟩,hb5⟩,hb6⟩,hb7⟩:=hb;have hidx:=aSJ hb5
 let Hc:=srcs.map (Dv.hd H)
 let X:=srcs.filterMap fun s=>match s with | .ent k=>DX (H.getD k ⟨undef,0⟩).v| .nil _=>none
 have hX:∀b,b∈X↔∃k,.ent k∈srcs∧DX (H.getD k ⟨undef,0⟩).v=some b:=fun b=>atm
 have S:∀(i k:Nat),srcs[i]? =some (.ent k)→k<es.length∧(es.getD k .dead).live=true:=by
  intro i k hi;have :=hb7 _ (WJ hi);simpa using this
 have hlt:∀(i k:Nat),srcs[i]? =some (.ent k)→k<H.length:=fun i k hi=>by rw[Y.hlen];exact(S i k hi).1
 have hHk:∀(k:Nat),k<H.length→H[k]? =some (H.getD k ⟨undef,0⟩):=fun k hk=>by simp[List.getD,hk]
 have anW:∀(k:Nat),k<es.length→es[k]? =some (es.getD k .dead):=fun k hk=>by simp[List.getD,hk]
 have L:∀b,b∈X→∃(i k:Nat),srcs[i]? =some (.ent k)∧DX (H.getD k ⟨undef,0⟩).v=some b∧¬ok b∧b<w.heap.size∧(C.w0.heap.size≤b∨b∈C.X):=by
  intro b hb;obtain⟨k,hk,hbk⟩:=(hX b).1 hb;obtain⟨i,hi,M⟩:=Ii hk;have hi':srcs[i]? =some (.ent k):=by simp[hi,M]
  have :=Y.blk k _ _ b (anW k (S i k hi').1) (S i k hi').2 (hHk k (hlt i k hi')) hbk;exact⟨i,k,hi',hbk,this⟩
 have hmc:D5 ⟨w,ok,X,Hc⟩ ok Hc E w:=by
  refine⟨.refl _ _,fun _ h=>h,fun _ h=>.inl h,Y.kL,.refl _,by simp[Hc,hb1],?_,?_,?_⟩
  ·intro i e h M I;have hi:i<srcs.length:=aJN
   have hcl:e.al8 srcs=true:=hb3 e (WJ M);have aEC:∀(j:Nat) (s:Dv),srcs[j]? =some s→Hc[j]? =some (Dv.hd H s):=fun j s m=>by simp[Hc,m]
   have m:srcs[i]? =some srcs[i]:=QE
   have hd:=hE i _ m;simp only[Hc,J9,m,IB,LJ]at I;cases hsi:srcs[i]with
   |ent k=>
    rw[hsi]at hd I m;simp only[Dv.hd]at I;subst I;simp only at hd;rw[M,IB]at hd;exact Em.down aEC hcl (Y.ent k _ _ hd.symm (hHk k (hlt i k m)))
   |nil sz=>
    rw[hsi]at hd I;simp only[Dv.hd]at I;subst I;obtain⟨e',he'⟩:=hd;rw[M]at he';obtain rfl:=Cm he';exact⟨rfl,BU,[],⟨BU,.inl ⟨rfl,rfl⟩⟩,SE,fun i hi=>aFT⟩
  ·intro i e h b M J I z;have hi:i<srcs.length:=aJN
   have m:srcs[i]? =some srcs[i]:=QE
   simp only[Hc,J9,m,IB,LJ]at I;cases hsi:srcs[i]with
   |ent k=>
    rw[hsi]at I m;simp only[Dv.hd]at I;subst I;have hbX:b∈X:=(hX b).2 ⟨k,WJ m,z⟩;obtain⟨_,_,_,_,O,U,_⟩:=L b hbX;exact⟨O,U,.inr hbX⟩
   |nil sz=>
    rw[hsi]at I;simp only[Dv.hd]at I;subst I;simp[DX]at z
  intro i j e e' h h' b M he' J Z I hh' z akZ;have hi:i<srcs.length:=aJN
  have hj:j<srcs.length:=by rw[hb1];exact(FV.1 he').1
  have m:srcs[i]? =some srcs[i]:=QE
  have hs':srcs[j]? =some srcs[j]:=by simp[hj]
  simp only[Hc,J9,m,IB,LJ]at I;simp only[Hc,J9,hs',IB,LJ]at hh';cases hsi:srcs[i]with
  |nil sz=>rw[hsi]at I;simp only[Dv.hd]at I;subst I;simp[DX]at z
  |ent k=>
   cases hsj:srcs[j]with
   |nil sz=>rw[hsj]at hh';simp only[Dv.hd]at hh';subst hh';simp[DX]at akZ
   |ent k'=>
    rw[hsi]at I m;rw[hsj]at hh' hs';simp only[Dv.hd]at I hh';subst I;subst hh';have hkk:=Y.EJ k k' _ _ _ _ b (anW k (S i k m).1) (anW k' (S j k' hs').1) (S i k m).2 (S j k' hs').2 (hHk k (hlt i k m)) (hHk k' (hlt j k' hs')) z akZ;subst hkk;exact hidx i j k m hs'
 have hargs:∀i,i<fU.length→R ok w Hc (fU.getD i .junk) ((ops.map a.eval).toArray.getD i undef):=by
  intro i hi;obtain⟨op,x,ho,hmem,harg⟩:=aoK hl ha i hi;have hR:=hn _ hmem
  have e:(ops.map a.eval).toArray.getD i undef=a.eval op:=by
   obtain⟨O,U⟩:=FV.1 ho;simp[Array.getD,O,U]
  rw[e];simp only at hR;generalize fU.getD i .junk=y at harg ⊢;generalize a.eval op=u at hR ⊢;have hHc:∀(j:Nat) (s:Dv),srcs[j]? =some s→Hc[j]? =some (Dv.hd H s):=fun j s m=>by simp[Hc,m]
  cases x with
  |d x=>
   rcases harg with rfl|⟨j,s,rfl,rfl,m⟩|⟨rfl,rfl⟩
   ·cases hR with |d _ _ h=>exact .d _ _ h
   ·have :=hR.lit;rw[this];exact .aO j none 0 0 s (hHc j _ m)
   have :=hR.lit;rw[this];exact .d _ _ (.sl0 none 0)
  |aO k=>
   obtain⟨j,rfl,m⟩:=harg;cases hR with
   |aO _ ad n cap s hH=>
    refine .aO j ad n cap s ?_;rw[hHc j _ m];simp[Dv.hd,List.getD,hH]
  |ptr k off=>
   obtain⟨j,rfl,m⟩:=harg;cases hR with
   |ptr _ _ b s hH=>
    refine .ptr j off b s ?_;rw[hHc j _ m];simp[Dv.hd,List.getD,hH]
  |mp k=>
   obtain⟨j,rfl,m⟩:=harg;cases hR with
   |mp _ _ s hl hH=>
    refine .mp j _ s hl ?_;rw[hHc j _ m];simp[Dv.hd,List.getD,hH]
  |fn f fi ca=>
   obtain⟨fi',ca',rfl,O,U⟩:=harg
   have one:∀(x y:Ag) (v:Value),aJw srcs x y→R ok w H x v→R ok w Hc y v:=by
    intro x y v hxy hx;cases x with
    |d x=>obtain rfl:=hxy;cases hx with |d _ _ h=>exact .d _ _ h
    |mp k=>
     obtain⟨j,rfl,m⟩:=hxy;cases hx with
     |mp _ _ s hl hH=>
      refine .mp j _ s hl ?_;rw[hHc j _ m];simp[Dv.hd,List.getD,hH]
    |ptr k off=>
     obtain⟨j,rfl,m⟩:=hxy;cases hx with
     |ptr _ _ b s hH=>
      refine .ptr j off b s ?_;rw[hHc j _ m];simp[Dv.hd,List.getD,hH]
    |_=>exact hxy.elim
   cases hR with
   |fn _ _ _ vs us hl1 hl2 h3 h4=>
    refine .fn f fi' ca' vs us (by rw[hl1,xJ O]) (by rw[hl2,xJ U]) (fun i hi=>?_) (fun i hi=>?_)
    ·exact one _ _ _ (aMs O i hi) (h3 i (by rw[xJ O];exact hi))
    exact one _ _ _ (aMs U i hi) (h4 i (by rw[xJ U];exact hi))
  |_=>exact harg.elim
 refine(hr ok X Hc w _ hmc (by simp[hl,aRd ha]) hargs).mono ?_;rintro e w' ⟨v,ok',H',rfl,q,hR⟩;have hgr:EO ok w ok' w':=fun b hb=>⟨q.yA b hb,q.fr.block b (Y.kL b hb) (fun hbX=>by obtain⟨_,_,_,_,O,_⟩:=L b hbX;exact O hb)⟩
 have aFq:srcs.length≤H'.length:=by rw[q.hlen];exact hb2
 refine⟨v,ok',H++H'.drop srcs.length,rfl,hgr,Names.push _ _,?_,by have :=adz rfl hlt q.names hR;rwa [Y.hlen]at this⟩
 let idx:Nat→Option Nat:=fun j=>srcs.findIdx? (fun s=>match s with | .ent k=>k==j| .nil _=>false)
 have aDJ:∀(j i:Nat),idx j=some i→srcs[i]? =some (.ent j):=by
  intro j i h;simp only[idx,acy]at h;obtain⟨O,U,_⟩:=h;have :srcs[i]? =some srcs[i]:=by simp[O]
  cases m:srcs[i]with
  |ent k=>rw[m]at U this;simp at U;rw[this,U]
  |nil _=>rw[m]at U;simp at U
 have aDK:∀(j:Nat),idx j=none→∀(i:Nat),srcs[i]? ≠some (.ent j):=by
  intro j h i hi;simp only[idx,List.findIdx?_eq_none_iff]at h;have :=h _ (WJ hi);simp at this
 have hlow:∀(j:Nat),j<es.length→(LW srcs es E')[j]? =some (match idx j with |some i=>(E'.getD i .dead).up srcs es.length|none=>es.getD j .dead):=by
  intro j hj;unfold LW;rw[GH (by simpa using hj)];simp only[J9,List.getElem?_zipIdx,anW j hj,IB,J4];rfl
 have aCD:(LW srcs es E').length=es.length+(E'.length-srcs.length):=by simp[LW]
 have hhigh:∀(j:Nat),es.length≤j→(LW srcs es E')[j]? =(E'[srcs.length+(j-es.length)]?).map (BQ.up srcs es.length):=by
  intro j hj;unfold LW;rw[Jd (by simpa using hj),J9,Oh];simp
 have aDL:∀(j:Nat),j<es.length→(H++H'.drop srcs.length)[j]? =H[j]? :=fun j hj=>GH (by rw[Y.hlen];exact hj)
 have aCE:∀(j:Nat),es.length≤j→(H++H'.drop srcs.length)[j]? =H'[srcs.length+(j-es.length)]? :=by
  intro j hj;rw[Jd (by rw[Y.hlen];exact hj),Oh,Y.hlen]
 have hcls:∀(j:Nat) (e:BQ) (h:Bo),(LW srcs es E')[j]? =some e→e.live=true∨True→(H++H'.drop srcs.length)[j]? =some h→
  (∃(i:Nat) (e0:BQ),e=e0.up srcs es.length∧E'[i]? =some e0∧H'[i]? =some h∧((j<es.length∧srcs[i]? =some (.ent j))∨(es.length≤j∧i=srcs.length+(j-es.length))))∨(j<es.length∧es[j]? =some e∧H[j]? =some h∧∀(i:Nat),srcs[i]? ≠some (.ent j)):=by
  intro j e h M _ I;by_cases hj:j<es.length
  ·rw[hlow j hj]at M;rw[aDL j hj]at I;cases hi:idx j with
   |none=>
    rw[hi]at M;simp only[LJ]at M;exact .inr ⟨hj,by rw[anW j hj,M],I,aDK j hi⟩
   |some i=>
    rw[hi]at M;simp only[LJ]at M;have m:=aDJ j i hi;have hil:i<srcs.length:=(FV.1 m).1;have hiE:i<E'.length:=AA
    refine .inl ⟨i,_,M.symm,by simp[List.getD,hiE],?_,.inl ⟨hj,m⟩⟩;refine q.names i h ?_;simp only[Hc,J9,m,IB,Dv.hd];simp[List.getD,I]
  rw[hhigh j AA]at M;rw[aCE j AA]at I;rw[Td]at M;obtain⟨e0,M,rfl⟩:=M;exact .inl ⟨_,_,rfl,M,I,.inr ⟨AA,rfl⟩⟩
 have hold:∀(j:Nat) (e:BQ) (h:Bo) (b:Nat),es[j]? =some e→H[j]? =some h→(∀(i:Nat),srcs[i]? ≠some (.ent j))→e.live=true→DX h.v=some b→b<w.heap.size∧b∉X∧¬ok b∧(C.w0.heap.size≤b∨b∈C.X):=by
  intro j e h b M I hno J z;have O:=Y.blk j e h b M J I z;refine⟨O.2.1,fun hbX=>?_,O.1,O.2.2⟩;obtain⟨i,k,m,hbk,_⟩:=L b hbX;have :=Y.EJ j k e _ h _ b M (anW k (S i k m).1) J (S i k m).2 I (hHk k (hlt i k m)) z hbk;subst this;exact hno i m
 have anX:∀(i:Nat) (e:BQ) (h:Bo) (b:Nat),E'[i]? =some e→H'[i]? =some h→e.live=true→DX h.v=some b→¬ok' b∧b<w'.heap.size∧(w.heap.size≤b∨b∈X):=fun i e h b M I J z=>q.blk i e h b M J I z;refine⟨⟨q.fr.os.trans Y.fr.os,q.fr.tape.trans Y.fr.tape,q.fr.output.trans Y.fr.output,Ej Y.fr.size q.fr.size,fun k hk hx=>?_⟩,fun b hb=>q.yA b (Y.yA b hb),?_,q.kL,Y.names.trans (Names.push _ _),?_,?_,?_,?_⟩
 ·have hkw:k<w.heap.size:=Uz hk Y.fr.size
  rw[q.fr.block k hkw (fun hkX=>by
   obtain⟨_,_,_,_,_,_,h⟩:=L k hkX;rcases h with h|h
   ·omega
   exact hx h)]
  exact Y.fr.block k hk hx
 ·intro b hb;rcases q.yB b hb with h|h|h
  ·exact Y.yB b h
  ·exact .inr (.inl (Ej Y.fr.size h))
  obtain⟨_,_,_,_,_,_,h⟩:=L b h;exact .inr h
 ·rw[aCD,EL,L6,Y.hlen,q.hlen]
 ·intro j e h M I;rcases hcls j e h M (.inr trivial) I with⟨i,e0,rfl,O,U,_⟩|⟨_,O,U,h3⟩
  ·exact Em.upw rfl hlt q.names Y.hlen (hb4 e0 (WJ O)) (q.ent i e0 h O U)
  refine(Y.ent j e h O U).mono hgr (Names.push _ _) (fun J b z=>?_);have h4:=hold j e h b O U h3 J z;exact q.fr.block b h4.1 h4.2.1
 ·intro j e h b M J I z;rcases hcls j e h M (.inr trivial) I with⟨i,e0,rfl,O,U,_⟩|⟨_,O,U,h3⟩
  ·have h4:=anX i e0 h b O U aNl z;refine⟨h4.1,h4.2.1,?_⟩;rcases h4.2.2 with h5|h5
   ·exact .inl (Ej Y.fr.size h5)
   obtain⟨_,_,_,_,_,_,h⟩:=L b h5;exact h
  have h4:=hold j e h b O U h3 J z;refine⟨fun hok'=>?_,Uz h4.1 q.fr.size,h4.2.2.2⟩;rcases q.yB b hok' with h5|h5|h5
  ·exact h4.2.2.1 h5
  ·have :w.heap.size≤b:=h5;omega
  exact h4.2.1 h5
 intro j j' e e' h h' b M he' J Z I hh' z akZ;rcases hcls j e h M (.inr trivial) I with⟨i,e0,rfl,O,U,h3⟩|⟨_,O,U,h3⟩
 ·rcases hcls j' e' h' he' (.inr trivial) hh' with⟨i',e0',rfl,h1',h2',h3'⟩|⟨_,h1',h2',h3'⟩
  ·have hii:=q.EJ i i' e0 e0' h h' b O h1' aNl (by rw[BQ.adF]at Z;exact Z) U h2' z akZ;subst hii;rcases h3 with⟨_,h4⟩|⟨h4,h5⟩
   ·rcases h3' with⟨_,h4'⟩|⟨h4',h5'⟩
    ·rw[h4]at h4';simpa using h4'
    have :=(FV.1 h4).1;omega
   rcases h3' with⟨_,h4'⟩|⟨h4',h5'⟩
   ·have :=(FV.1 h4').1;omega
   omega
  have h4:=hold j' e' h' b h1' h2' h3' Z akZ;rcases(anX i e0 h b O U aNl z).2.2 with h5|h5
  ·omega
  exact absurd h5 h4.2.1
 rcases hcls j' e' h' he' (.inr trivial) hh' with⟨i',e0',rfl,h1',h2',h3'⟩|⟨_,h1',h2',h3'⟩
 ·have h4:=hold j e h b O U h3 J z;rcases(anX i' e0' h' b h1' h2' (by rw[BQ.adF]at Z;exact Z) akZ).2.2 with h5|h5
  ·omega
  exact absurd h5 h4.2.1
 exact Y.EJ j j' e e' h h' b O h1' J Z U h2' z akZ
def aRx {f:FuncId} {ops:Array Operand} {ats:Array TypeId} (srcs:List Dv) {eH fU:List Ag} {E E':List BQ} {h:Ag} (j:Ap P f fU E h E') (m:Dt P f=true) (n:Qo srcs es E E'=true) (hE:pJ srcs es E) (ha:Lh srcs eH fU) (q:ops.toList.length=eH.length)
 (s:o.op=.call { callee:=.value (.func f),args:=ops,argTypes:=ats }):Bq P o (F5 ops.toList eH) es (h.up srcs es.length) (LW srcs es E'):=by
 intro C ok H a w Q u z;unfold Oper.wp;rw[tH s,TP m,Zm];have e:ops.map a.eval=(ops.toList.map a.eval).toArray:=aCH
 rw[e];refine(aOu u srcs j n hE ha q z).mono ?_;rintro e w' ⟨v,ok',H',rfl,I,J,L,M⟩;exact⟨v,ok',H',rfl,I,J,L,M⟩
end
def AZ (n:Int):D:=.lit (.int .i64 n)
def D8 (n:Int):D:=.lit (.int .u8 n)
def DT (b:Bool):D:=.lit (.bool b)
def Ci (s:ByteArray):D:=.lit (.string s)
def Au {α:Type} (e:α→D) (l:List α):D:=.sl (l.map e)
def Ai (x:D):List Ag:=x.cells.map .d
def Aq {α:Type} (l:List α) (i:Int):Option α:=if 0≤i then l[i.toNat]? else none
def CZ {α:Type} (f:Nat) (l m:List α):Option (List α):=if(l.length+m.length)*f≤140737488355328 then some (l++m)else none
def Gh (s:ByteArray) (i:Int):Option Int:=if 0≤i then(s[i.toNat]?).map fun c=>(c.toNat:Int)else none
def Gy {α:Type} (l:List α) (lo hi:Int):Option (List α):=if 0≤lo∧lo≤hi∧hi≤l.length then some ((l.drop lo.toNat).take (hi.toNat-lo.toNat))else none
def MR (s:ByteArray) (lo hi:Int):Option ByteArray:=if 0≤lo∧lo≤hi∧hi≤s.size then some (s.extract lo.toNat hi.toNat)else none
def JM {α:Type} (f:Nat) (z:α) (n c:Int):Option (List α):=if 0≤n∧n≤c∧(f:Int)*c≤140737488355328 then some (List.replicate n.toNat z)else none
def Fb {α:Type} {l:List α} {i:Int} {x:α} (h:Aq l i=some x):0≤i∧l[i.toNat]? =some x:=by
 unfold Aq at h;split at h
 ·exact⟨‹_›,h⟩
 cases h
def ara {α β:Type} {l:List α} {i:Nat} {x:α} (f:α→β) (h:l[i]? =some x):(l.map f)[i]? =some (f x):=jL
def TM {α:Type} {b:Bool} {x y z:α} (f:b=true) (h:(bif b then x else y)=z):x=z:=by subst f;exact h
def SH {α:Type} {b:Bool} {x y z:α} (f:b=false) (h:(bif b then x else y)=z):y=z:=by subst f;exact h
def DN {α β:Type} {x:Option α} {f:α→Option β} {z:β} (h:x.bind f=some z):∃a,x=some a∧f a=some z:=bY.1 h
def Az :Nat:=9223372036854775808
section
variable {P : Program} {o : Oper} {es : List BQ} {α : Type}
def BN {x:Operand} {t e:TypeId} (enc:α→D) (l:List α) (f:P.underlying t=some (.slice e)) (h:o.op=.call { callee:=.builtin .len,args:= #[x],argTypes:= #[t] }):
 Bq P o [(x,.d (Au enc l))] es (.d (AZ l.length)) es:=by
 have :=arF (es:=es) (xs:=l.map enc) f h;rw[D6]at this;exact this
def JC {x:Operand} {t e e':TypeId} {k s:Nat} (enc:α→D) (l:List α) (f:es[k]? =some (.arr e' s (l.map enc))) (h:P.underlying t=some (.slice e)) (j:o.op=.call { callee:=.builtin .len,args:= #[x],argTypes:= #[t] }):
 Bq P o [(x,.aO k)] es (.d (AZ l.length)) es:=by
 have :=aoq f h j;rw[D6]at this;exact this
def aqx {x:Operand} {t:TypeId} (s:ByteArray) (f:P.underlying t=some .string) (h:o.op=.call { callee:=.builtin .len,args:= #[x],argTypes:= #[t] }):
 Bq P o [(x,.d (Ci s))] es (.d (AZ s.size)) es:=an2 f h
def jX {x y:Operand} {t e:TypeId} {k:IntKind} {i:Int} {agg:Bool} {size:Nat} (enc:α→D) {l:List α} {a:α} (h:Aq l i=some a) (f:P.underlying t=some (.slice e)) (j:EC P e agg size) (m:(enc a).cells.length=size) (n:o.op=.indexAddr t x y):
 Bq P o [(x,.d (Au enc l)),(y,.d (.lit (.int k i)))] es (.d (.ref (enc a).cells 0)) es:=
 am8 f j (Fb h).1 (ara enc (Fb h).2) m n
def Gj {x y:Operand} {t e e':TypeId} {kd:IntKind} {i:Int} {k size:Nat} {agg:Bool} (enc:α→D) {l:List α} {a:α} (h:Aq l i=some a) (f:es[k]? =some (.arr e' size (l.map enc))) (j:P.underlying t=some (.slice e)) (m:EC P e agg size) (n:o.op=.indexAddr t x y):
 Bq P o [(x,.aO k),(y,.d (.lit (.int kd i)))] es (.lK k i.toNat 0) es:=
 aqK f j m (Fb h).1 (by have :=(FV.1 (Fb h).2).1;simpa using this) n
def arx {s:ByteArray} {i n:Int} (h:Gh s i=some n):∃c,0≤i∧s[i.toNat]? =some c∧n=c.toNat:=by
 unfold Gh at h;split at h
 ·rename_i f;rw[Td]at h;obtain⟨c,j,m⟩:=h;exact⟨c,f,j,m.symm⟩
 cases h
def Iz {x y:Operand} {t:TypeId} {k:IntKind} {i n:Int} {s:ByteArray} (h:Gh s i=some n) (f:P.underlying t=some .string) (j:o.op=.index t x y):
 Bq P o [(x,.d (Ci s)),(y,.d (.lit (.int k i)))] es (.d (D8 n)) es:=by
 obtain⟨c,m,q,rfl⟩:=arx h;exact arf f m q j
def nU {b:Nat} {l m r:List α} (h:CZ b l m=some r):r=l++m∧(l.length+m.length)*b≤140737488355328:=by
 unfold CZ at h;split at h
 ·exact⟨(Cm h).symm, ‹_›⟩
 cases h
def aFQ {n b:Nat} (f:0<b) (h:n*b≤140737488355328):n≤maxLen:=by
 have :n*1≤n*b:=Nat.mul_le_mul_left _ f;unfold maxLen;omega
def DU {s x:Operand} {t e:TypeId} {size f k:Nat} (enc:α→D) {l m r:List α} (h:CZ f l m=some r) (hE:Fl P t e size f) (n:es[k]? =some (.arr e size (l.map enc))) (q:∀a,(enc a).cells.length=size) (u:0<f)
 (z:o.op=.call { callee:=.builtin .append,args:= #[s,x],argTypes:= #[t,t] }):
 Bq P o [(s,.aO k),(x,.d (Au enc m))] es (.aO es.length) (es.set k .dead++[.arr e size (r.map enc)]):=by
 obtain⟨rfl,j⟩:=nU h;have :=agd (ys:=m.map enc) hE n (fun y I=>by obtain⟨a,_,rfl⟩:=Fh.1 I;exact q a) Ny (by simpa using aFQ u j) z;rw[←Jo]at this;exact this
def ahJ {s r:ByteArray} {lo hi:Int} (h:MR s lo hi=some r):(0≤lo∧lo≤hi∧hi≤s.size)∧r=s.extract lo.toNat hi.toNat:=by
 unfold MR at h;split at h
 ·exact⟨‹_›,(Cm h).symm⟩
 cases h
def xG (x:Option Operand) (n:Int):List (Operand×Ag):=match x with |some y=>[(y,.d (AZ n))]|none=>[]
def je {t:TypeId} {x:Operand} {lo hi:Option Operand} {l h:Int} {s r:ByteArray} (U:MR s l h=some r) (Y:lo=none→l=0) (O:hi=none→h=s.size) (Z:P.underlying t=some .string) (q:o.op=.slice t x lo hi none):
 Bq P o ((x,.d (Ci s))::(xG lo l++xG hi h)) es (.d (Ci r)) es:=
 .pure fun ok H a w _ _ I=>by
  obtain⟨⟨J,h1,h2⟩,rfl⟩:=ahJ U;have j:=(I (x,.d (Ci s)) BU).lit;simp only at j;have u:(underlying t).run P w=.ok .string w:=aJf
  refine⟨.string (s.extract l.toNat h.toNat),?_,.d _ _ (.lit _)⟩;have m:∀y,lo=some y→a.eval y=.int .i64 l:=fun y e=>(I (y,.d (AZ l)) zi).lit;have n:∀y,hi=some y→a.eval y=.int .i64 h:=fun y e=>(I (y,.d (AZ h)) zi).lit;have S:((0:Int)≤h∧h≤(s.size:Int)):=⟨AA,h2⟩
  have e2:((0:Int)≤l∧l≤(h.toNat:Int)):=⟨J,AA⟩
  cases lo with
  |none=>
   have L:=Y rfl;subst L;cases hi with
   |none=>
    have f:=O rfl;subst f;simp[execOp,q,j,Instr.sliceAt,Instr.slice,u,Instr.sliceBounds]
   |some y=>
    simp[execOp,q,j,Instr.sliceAt,Instr.slice,u,Instr.sliceBounds,Instr.sliceBound,n y rfl,asIntOf,S]
  |some z=>
   cases hi with
   |none=>
    have f:=O rfl;subst f;have M:((0:Int)≤l∧l≤(s.size:Int)):=⟨J,AA⟩
    simp[execOp,q,j,Instr.sliceAt,Instr.slice,u,Instr.sliceBounds,Instr.sliceBound,m z rfl,asIntOf,M]
   |some y=>
    simp[execOp,q,j,Instr.sliceAt,Instr.slice,u,Instr.sliceBounds,Instr.sliceBound,m z rfl,n y rfl,asIntOf,S];intro hc;have :=hc J;omega
def aPO {l r:List α} {lo hi:Int} (h:Gy l lo hi=some r):(0≤lo∧lo≤hi∧hi≤l.length)∧r=(l.drop lo.toNat).take (hi.toNat-lo.toNat):=by
 unfold Gy at h;split at h
 ·exact⟨‹_›,(Cm h).symm⟩
 cases h
def aTt {ok:Nat→Prop} {w:World} {xs:List D} {ad:Option Addr} {cap size l h:Nat} (M:Du ok w (.sl xs) (.slice ad xs.length cap)) (Z:∀x∈xs,x.cells.length=size) (O:l≤h) (S:h≤xs.length):
 Du ok w (.sl ((xs.drop l).take (h-l))) (.slice (if cap=l then ad else ad.map (·.add (l*size))) (h-l) (cap-l)):=by
 have hlen:((xs.drop l).take (h-l)).length=h-l:=Dy
 by_cases U:h-l=0
 ·have :(xs.drop l).take (h-l)=[]:=by rw[U];rfl
  rw[this,U];exact .sl0 _ _
 have q:0<xs.length:=AA
 generalize hn:xs.length=n at M;cases M with
 |sl0=>simp at q
 |sl _ b off _ f Y z s hf hx hc=>
  have I:f=size:=by
   rw[←s 0 q];exact Z _ aD1
  subst I;have J:cap≠l:=AA
  rw[DF J];simp only[IB,addr_add]
  have L:∀i,i<h-l→((xs.drop l).take (h-l)).getD i Dp=xs.getD (l+i) Dp:=by
   intro i hi;simp[List.getD,NI hi,Oh]
  have m:∀i j,off+l*f+(i*f+j)=off+((l+i)*f+j):=by
   intro i j;rw[Xl];omega
  have :=Du.sl ((xs.drop l).take (h-l)) b (off+l*f) (cap-l) f (ok:=ok) (w:=w) (by rw[hlen];omega) (fun O S=>z (by rw[hlen]at O;omega) S) (fun i hi=>by rw[hlen]at hi;rw[L i hi];exact s _ AA)
   (fun i hi j u=>by rw[hlen]at hi;rw[L i hi];exact hf _ AA j u) (fun i hi j u=>by rw[hlen]at hi;rw[m];exact hx _ AA j u)
   (fun i hi j u=>by rw[hlen]at hi;rw[L i hi,m];exact hc _ AA j u)
  rw[hlen]at this;exact this
def SQ {t e:TypeId} {agg:Bool} {size:Nat} {x:Operand} {lo hi:Option Operand} {l h:Int} (enc:α→D) {xs r:List α} (hr:Gy xs l h=some r) (hl:lo=none→l=0) (hh:hi=none→h=xs.length) (ht:P.underlying t=some (.slice e)) (I:EC P e agg size)
 (hc:∀a,(enc a).cells.length=size) (J:o.op=.slice t x lo hi none):Bq P o ((x,.d (Au enc xs))::(xG lo l++xG hi h)) es (.d (Au enc r)) es:=
 .pure fun ok H a w _ _ O=>by
  obtain⟨⟨h0,h1,h2⟩,rfl⟩:=aPO hr;have S:=O (x,.d (Au enc xs)) BU;simp only at S;generalize L:a.eval x=v at S;have M:(underlying t).run P w=.ok (.slice e) w:=by simp[underlying,ht]
  have s:∀y,lo=some y→a.eval y=.int .i64 l:=fun y e=>(O (y,.d (AZ l)) zi).lit;have u:∀y,hi=some y→a.eval y=.int .i64 h:=fun y e=>(O (y,.d (AZ h)) zi).lit;have m:Du ok w (.sl (xs.map enc)) v:=by cases S with |d _ _ h=>exact h
  have n:∃ad cap,v=.slice ad (xs.map enc).length cap∧(xs.map enc).length≤cap:=by
   generalize hys:xs.map enc=ys at m;cases m with
   |sl0 ad cap=>exact⟨ad,cap,rfl,EY _⟩
   |sl _ b off cap size f=>exact⟨_,cap,rfl,f⟩
  obtain⟨ad,cap,rfl,f⟩:=n;have j:=aTt (l:=l.toNat) (h:=h.toNat) m (size:=size) (fun y hy=>aOS) AA Dy;rw[←Yt,←YI]at j;rw[D6]at f;refine⟨_,?_,.d _ _ j⟩;have e1:((0:Int)≤h∧h≤(cap:Int)):=⟨AA,AA⟩
  cases lo with
  |none=>
   have U:=hl rfl;subst U;cases hi with
   |none=>
    have q:=hh rfl;subst q;simp[execOp,J,L,Instr.sliceAt,Instr.slice,M,Instr.sliceBounds,I.size]
   |some y=>
    simp[execOp,J,L,Instr.sliceAt,Instr.slice,M,Instr.sliceBounds,Instr.sliceBound,u y rfl,asIntOf,e1,I.size]
  |some z=>
   cases hi with
   |none=>
    have q:=hh rfl;subst q;have Y:((0:Int)≤l∧l≤(xs.length:Int)):=⟨h0,AA⟩
    simp[execOp,J,L,Instr.sliceAt,Instr.slice,M,Instr.sliceBounds,Instr.sliceBound,s z rfl,asIntOf,Y,I.size]
   |some y=>
    simp[execOp,J,L,Instr.sliceAt,Instr.slice,M,Instr.sliceBounds,Instr.sliceBound,s z rfl,u y rfl,asIntOf,e1,I.size];intro Z;have :=Z h0;omega
def kn (P:Program) (t:TypeId) (f off:Nat) (agg:Bool) (n:Nat):Bool:=
 match P.underlying t with
 |some (.struct j)=>match j[f]? with
  |some h=>decide (h.offset=off)&&aI0 P h.type agg n
  |none=>false
 |_=>false
def agO {x:Operand} {t:TypeId} {f off n:Nat} {agg:Bool} {cs:List D} (m:kn P t f off agg n=true) (hn:off+n≤cs.length) (U:agg=false→n=1) (L:o.op=.field t x f):Bq P o [(x,.d (.agg cs))] es (.d (Ot agg cs off n)) es:=
 .pure fun ok H a w _ _ z=>by
  have I:=Ju z;simp only at I;generalize M:a.eval x=v at I;unfold kn at m;split at m
  ·rename_i Y Z;split at m
   ·rename_i j O;simp only[DJ,Gi]at m;obtain⟨rfl,q⟩:=m;have q:=FD q;have s:(underlying t).run P w=.ok (.struct Y) w:=aJf
    cases I with
    |d _ _ h=>
     cases h with
     |agg _ vs hl J S=>
      cases agg with
      |false=>
       have :=U rfl;subst this;have u:j.offset<vs.size:=AA
       refine⟨vs[j.offset],?_,?_⟩
       ·simp[execOp,L,M,Instr.field,s,O,asAgg,part,q.agg,u]
       have :=S j.offset AA;simp[Array.getD,u]at this;exact .d _ _ this
      |true=>
       refine⟨.agg (vs.extract j.offset (j.offset+n)),?_,?_⟩
       ·simp[execOp,L,M,Instr.field,s,O,asAgg,part,q.agg,q.size]
       simp only[Ot,JQ];have hlen:((cs.drop j.offset).take n).length=n:=Dy
       have hg:∀i,i<n→((cs.drop j.offset).take n).getD i Dp=cs.getD (j.offset+i) Dp:=by
        intro i hi;simp[List.getD,NI hi,Oh]
       refine .d _ _ (.agg _ _ (by rw[hlen];simp;omega) ?_ ?_)<;>intro i hi<;>rw[hlen]at hi<;>rw[hg i hi]
       ·exact J _ AA
       have :=S (j.offset+i) AA
       have e:(vs.extract j.offset (j.offset+n)).getD i undef=vs.getD (j.offset+i) undef:=by
        have h3:j.offset+i<vs.size:=AA
        have h4:i<(vs.extract j.offset (j.offset+n)).size:=Dy
        have h5:i<min (j.offset+n) vs.size-j.offset:=AA
        simp[Array.getD,h3,h5]
       rw[e];exact this
   cases m
  cases m
def Ag.flat:Ag→Bool
 | .d (.lit _)=>true
 | .fP xs=>xs.all fun x=>match x with | .d (.lit _)=>true|_=>false
 |_=>false
def aTR (es:List BQ):Ag→Ag→Prop
 | .d x,y=>y=.d x
 | .aO k,y=>∃e s xs,es[k]? =some (.arr e s xs)∧y=.d (.sl xs)
 |_,_=>False
def ZN (es:List BQ):List Ag→List Ag→Prop
 |x::xs,y::ys=>aTR es x y∧ZN es xs ys
 | [],[]=>True
 |_,_=>False
def aH7 :∀{xs ys:List Ag},ZN es xs ys→xs.length=ys.length
 | [],[],_=>rfl
 |_::xs,_::ys,h=>by simp[aH7 h.2]
 | [],_::_,h=>h.elim
 |_::_,[],h=>h.elim
def aPS {ops:List Operand}:∀{xs ys:List Ag},ops.length=xs.length→ZN es xs ys→∀i,i<ys.length→∃o x,ops[i]? =some o∧(o,x)∈F5 ops xs∧aTR es x (ys.getD i .junk):=by
 induction ops with
 |nil=>
  intro xs ys f h i hi;cases xs with
  |nil=>cases ys with |nil=>simp at hi|cons _ _=>exact h.elim
  |cons _ _=>simp at f
 |cons o ops j=>
  intro xs ys f h i hi;cases xs with
  |nil=>simp at f
  |cons x xs=>
   cases ys with
   |nil=>exact h.elim
   |cons y ys=>
    cases i with
    |zero=>exact⟨o,x,rfl,by simp[F5],h.1⟩
    |succ i=>
     obtain⟨m,n,q,s,u⟩:=j KZ h.2 i Fj;exact⟨m,n,TY,by simp[F5,s],Rh⟩
def dB {ok ok':Nat→Prop} {w:World} {H:List Bo} {h:Bo} {e s:Nat} {xs:List D} (he:Em ok w H h (.arr e s xs)) (n:∀b,ok b→ok' b) (J:∀b,DX h.v=some b→ok' b):Du ok' w (.sl xs) h.v:=by
 obtain⟨h1,z,ys,⟨h3,h4⟩,U⟩:=he;rcases h4 with⟨I,Y⟩|⟨g,cap,m,I,Y,h8,Z,h10,L,M⟩
 ·rw[Gt Y,I];exact .sl0 none 0
 rw[I];have q:=J g (by rw[I];rfl);have u:=RS z
 have O:∀i j,i<xs.length→j<s→i*s+j<xs.length*s:=by
  intro i j hi f
  calc i*s+j<i*s+s:=AA
   _=(i+1)*s:=by rw[Ty]
   _≤xs.length*s:=Ja _ hi
 have hcur:xs.length*s≤m.size:=by
  exact Ej (Ja _ Z) L
 have hc:∀i j,i<xs.length→j<s→w.cell? ⟨g,0+(i*s+j),none⟩=some (ys.getD (i*s+j) undef):=by
  intro i j hi f;have S:=O i j hi f;rw[J4]
  have e1:ys.getD (i*s+j) undef=m[i*s+j]' AA:=by
   rw[←M];simp[List.getD,NI S,show i*s+j<m.size by omega]
  rw[e1];simp[World.cell?,h8,show i*s+j<m.size by omega]
 have hg:∀i,i<xs.length→xs.getD i Dp∈xs:=fun i hi=>Le
 refine .sl xs g 0 cap s Z (fun _ _=>q) (fun i hi=>z _ (hg i hi)) (fun i hi j f=>?_) (fun i hi j f=>?_) (fun i hi j f=>?_)
 ·have :=(U.2 (i*s+j) (by rw[u];exact O i j hi f)).1;rw[flat_get z i j hi f]at this;exact this
 ·rw[hc i j hi f];rfl
 have :=(U.2 (i*s+j) (by rw[u];exact O i j hi f)).2;rw[flat_get z i j hi f]at this;unfold cellAt;rw[hc i j hi f];cases this with |d _ _ h=>exact h.mono (fun b J=>⟨n b J,rfl⟩)
def ZJ {f:FuncId} {ops:Array Operand} {ats:Array TypeId} {eH fU:List Ag} {q:Ag} (hr:Ap P f fU [] q []) (hf:Dt P f=true) (n:q.flat=true) (ha:ZN es eH fU) (hl:ops.toList.length=eH.length)
 (ho:o.op=.call { callee:=.value (.func f),args:=ops,argTypes:=ats }):Bq P o (F5 ops.toList eH) es q es:=by
 intro C ok H a w Q z hn;unfold Oper.wp;rw[tH ho,TP hf,Zm];have e:ops.map a.eval=(ops.toList.map a.eval).toArray:=aCH
 rw[e]
 let I:Nat→Prop:=fun b=>b<w.heap.size
 have hmc:D5 ⟨w,I,[],[]⟩ I [] [] w:=
  ⟨.refl _ _,fun _ h=>h,fun _ h=>.inl h,fun _ h=>h,.refl _,rfl,fun k e h J _=>Yu,fun k e h b J=>Yu,fun k k' e e' h h' b J=>Yu⟩
 refine(hr I [] [] w _ hmc (by simp[hl,aH7 ha]) (fun i hi=>?_)).mono ?_
 ·obtain⟨op,x,ho',O,j⟩:=aPS hl ha i hi;have M:=hn _ O
  have e:(ops.toList.map a.eval).toArray.getD i undef=a.eval op:=by
   obtain⟨h1,h2⟩:=FV.1 ho';have S:i<ops.size:=by simpa using h1
   have U:ops[i]=op:=aDf
   simp[Array.getD,S,U]
  rw[e];simp only at M;generalize fU.getD i .junk=y at j;generalize a.eval op=u at M;cases x with
  |d x=>
   obtain rfl:=j;cases M with |d _ _ h=>exact .d _ _ (h.mono (fun b L=>⟨z.kL b L,rfl⟩))
  |aO k=>
   obtain⟨e',s,xs,hk,rfl⟩:=j;obtain⟨h,Z,hok⟩:=G7 z.ent z.hlen hk;obtain rfl:=P9 M Z;exact .d _ _ (dB hok (fun b L=>z.kL b L) (fun b L=>(z.blk k _ h b hk rfl Z L).2.1))
  |_=>exact j.elim
 rintro e w' ⟨v,ok',H',rfl,m,M⟩;have Y:∀b,b<w.heap.size→¬False→w'.heap[b]? =w.heap[b]? :=fun b L _=>m.fr.block b L BU;obtain⟨h1,h2⟩:=z.change (ok':=ok) (H':=H) (es':=es) (w':=w') (fun _=>False) m.fr.os m.fr.tape m.fr.output m.fr.size Y (fun _ h=>h.elim) (fun _ h=>h) (fun _ h=>.inl h) (.refl _) z.hlen (fun k e h J Z=>.inl ⟨J,Z,fun _ _ _ h=>h⟩);refine⟨v,ok,H,rfl,h2,.refl _,h1,?_⟩;cases M with
 |d x v h=>
  cases x with
  |lit u=>cases h;exact .d _ _ (.lit _)
  |_=>simp[Ag.flat]at n
 |fP xs vs hl' h=>
  refine .fP xs vs hl' (fun i hi=>?_);simp only[Ag.flat,ER]at n;have S:=n (xs.getD i .junk) Le;have U:=h i hi;generalize xs.getD i .junk=x at S U;generalize vs.getD i undef=u at U;cases U with
  |d y _ h5=>
   cases y with
   |lit u=>cases h5;exact .d _ _ (.lit _)
   |_=>simp at S
  |_=>simp at S
 |_=>simp[Ag.flat]at n
end
def Ag.thaw (k:Nat) (xs:List D):Ag→Ag
 | .aO j=>if j=k then .d (.sl xs)else .aO j
 | .lK j i off=>if j=k then .junk else .lK j i off
 |x=>x
def BL.thaw (σ:BL) (k:Nat) (xs:List D):BL:=⟨σ.slots.map (Ag.thaw k xs),σ.ents.set k .dead,σ.base⟩
def Ic {σ:BL} (k:Nat) {e s:Nat} {xs:List D} (U:σ.ents[k]? =some (.arr e s xs)):∀C ok H a w,Holds C ok H σ a w→∃ok',Holds C ok' H (σ.thaw k xs) a w:=by
 intro C ok H a w h;obtain⟨hd,I,Y⟩:=G7 h.mem.ent h.mem.hlen U;have n:k<σ.ents.length:=(FV.1 U).1
 let ok':Nat→Prop:=fun b=>ok b∨DX hd.v=some b
 have z:=fun b f=>h.mem.blk k _ hd b U rfl I f;have Z:EO ok w ok' w:=fun b f=>⟨.inl f,rfl⟩
 refine⟨ok',⟨h.mem.fr,fun b f=>.inl (h.mem.yA b f),?_,?_,h.mem.names,by simp[BL.thaw,h.mem.hlen],?_,?_,?_⟩,by simp[BL.thaw,h.size],h.defers.mono Z,h.base,?_⟩
 ·rintro b (f|f)
  ·exact h.mem.yB b f
  exact .inr (z b f).2.2
 ·rintro b (f|f)
  ·exact h.mem.kL b f
  exact(z b f).2.1
 ·intro j e' h' he q;rcases Ls n he with⟨rfl,rfl⟩|⟨_,u⟩
  ·trivial
  exact(h.mem.ent j e' h' u q).mono Z (.refl _) (fun _ _ _=>rfl)
 ·intro j e' h' b he hl q f;rcases Ls n he with⟨rfl,rfl⟩|⟨hne,u⟩
  ·cases hl
  have h3:=h.mem.blk j e' h' b u hl q f;refine⟨fun m=>?_,h3.2⟩;rcases m with m|m
  ·exact h3.1 m
  exact hne (h.mem.EJ j k e' _ h' hd b u U hl rfl q I f m)
 ·intro i j e1 e2 h1 h2 b he1 he2 L M hh1 hh2 hb1 hb2;rcases Ls n he1 with⟨rfl,rfl⟩|⟨_,O⟩
  ·cases L
  rcases Ls n he2 with⟨rfl,rfl⟩|⟨_,S⟩
  ·cases M
  exact h.mem.EJ i j e1 e2 h1 h2 b O S L M hh1 hh2 hb1 hb2
 intro t ht;simp only[BL.thaw,D6]at ht
 have e1:(σ.thaw k xs).slots.getD t .junk=(σ.slots.getD t .junk).thaw k xs:=by
  simp only[BL.thaw];exact UJ _ _ _ ht
 rw[e1];have J:=(h.slot t ht).mono Z (Names.refl H);generalize σ.slots.getD t .junk=x at J ⊢;generalize a.tmps.getD t undef=v at J ⊢;cases x with
 |aO j=>
  simp only[Ag.thaw];split
  ·rename_i hj;subst hj;obtain rfl:=P9 J I;exact .d _ _ (dB Y (fun b f=>.inl f) (fun b f=>.inr f))
  exact J
 |lK j i off=>
  simp only[Ag.thaw];split
  ·exact .junk _
  exact J
 |_=>exact J
def AB.thaw {P:Program} {c:Code} {σ:BL} {Q:Exit→BL→Prop} (k:Nat) {e s:Nat} {xs:List D} (j:σ.ents[k]? =some (.arr e s xs)) (h:AB P c (σ.thaw k xs) Q):AB P c σ Q:=by
 refine⟨fun ro m C ok H a w n=>?_⟩;obtain⟨ok',f⟩:=Ic k j C ok H a w n;exact h.run ro m C ok' H a w f
def Ap.view {P:Program} {f:FuncId} {args:List Ag} {e s:Nat} {xs:List D} (h:Ap P f args [] (.aO 0) [.arr e s xs]):Ap P f args [] (.d (.sl xs)) []:=by
 intro ok X H w m I J ha;refine(h ok X H w m I J ha).mono ?_;rintro e' w' ⟨v,ok',H',rfl,j,L⟩;have M:H=[]:=Gt I.hlen;have O:H'.length=1:=j.hlen
 match H',O with
 | [hd],_=>
   obtain rfl:=P9 L (h:=hd) rfl;have u:=j.ent 0 _ hd rfl rfl;have q:=fun b q=>j.blk 0 _ hd b rfl rfl rfl q
   let z:Nat→Prop:=fun b=>ok' b∨DX hd.v=some b
   refine⟨hd.v,z,[],rfl,⟨j.fr,fun b h=>.inl (j.yA b h),?_,?_,by intro k v S;subst M;simp at S,rfl,fun k e h n=>bJ,fun k e h b n=>bJ,fun k k' e e' h h' b n=>bJ⟩,.d _ _ (dB u (fun b h=>.inl h) (fun b h=>.inr h))⟩
   ·rintro b (h|h)
    ·exact j.yB b h
    exact .inr (q b h).2.2
   rintro b (h|h)
   ·exact j.kL b h
   exact(q b h).2.1
def aga (es E':List BQ) (f:E'.all BQ.closed=true):LW [] es E'=es++E':=by
 unfold LW;simp only[List.findIdx?_nil,Lm,pF];rw[ab3 f];congr 1;apply jg;intro i;simp only[J9,List.getElem?_zipIdx];cases es[i]? <;>rfl
def aRw {P:Program} {o:Oper} {es:List BQ} {f:FuncId} {ops:Array Operand} {ats:Array TypeId} {eH fU:List Ag} {j res':Ag} {E':List BQ} (q:Ap P f fU [] j E') (u:Dt P f=true) (m:E'.all BQ.closed=true)
 (ha:Lh [] eH fU) (z:ops.toList.length=eH.length) (I:j.up [] es.length=res') (J:o.op=.call { callee:=.value (.func f),args:=ops,argTypes:=ats }):Bq P o (F5 ops.toList eH) es res' (es++E'):=by
 have :=aRx (es:=es) [] q u (by
  have n:E'.all (BQ.anV [] es.length)=true:=by
   rw[ER]at m ⊢;exact fun e L=>ajZ (m e L)
  simp[Qo,n]) (fun i s h=>Hl) ha z J
 rw[aga _ _ m,I]at this;exact this
def aS1 {P:Program} {o:Oper} {es:List BQ} {f:FuncId} {ops:Array Operand} {ats:Array TypeId} {eH fU:List Ag} {h res':Ag} (j:Ap P f fU [] h []) (m:Dt P f=true)
 (ha:Lh [] eH fU) (n:ops.toList.length=eH.length) (q:h.up [] es.length=res') (s:o.op=.call { callee:=.value (.func f),args:=ops,argTypes:=ats }):Bq P o (F5 ops.toList eH) es res' es:=by
 have :=aRw (es:=es) j m rfl ha n q s;rw[Pm]at this;exact this
section
variable {P : Program} {σ : BL} {Q : Exit → BL → Prop}
def aMd (P:Program) (σ:BL):ResultVar→Ag→Prop
 | .tmp t,x=>x=σ.slots.getD t .junk
 | .cell t T,x=>∃k cs agg n,σ.slots.getD t .junk=.ptr k 0∧σ.ents[k]? =some (.box cs)∧cs.all Ag.Ah=true∧EC P T agg n∧n≤cs.length∧(agg=false→n=1)∧x=.d (Ot agg (Iq cs) 0 n)
def LG {P:Program} {σ:BL} {t:Tmp} {x:Ag} (h:x=σ.slots.getD t .junk):aMd P σ (.tmp t) x:=h
def Wp (P:Program) (σ:BL):List ResultVar→List Ag→Prop
 |r::rs,x::xs=>aMd P σ r x∧Wp P σ rs xs
 | [],[]=>True
 |_,_=>False
def eL :List Ag→Ag
 | [x]=>x
 |xs=>.fP xs
def aeN (P:Program) (fn:Func) (f:Ag) (E':List BQ):Exit→BL→Prop
 | .ret,σ=>∃xs π,Wp P σ fn.results.toList xs∧UD σ.base σ.ents π=true∧f=(eL xs).back π∧E'=RI σ.ents π
 | .normal,σ=>∃xs π,Wp P σ fn.results.toList xs∧UD σ.base σ.ents π=true∧f=(eL xs).back π∧E'=RI σ.ents π
 |_,_=>False
def aNE (tmps:Array Value):ResultVar→Sem Value
 | .tmp t=>pure (tmps.getD t undef)
 | .cell t T=>do loadVar T (←asAddr (tmps.getD t undef))
def atS {C:EI} {ok:Nat→Prop} {H:List Bo} {a:Act} {w:World} (h:Holds C ok H σ a w) {r:ResultVar} {x:Ag} (f:aMd P σ r x):
 ∃v,(aNE a.tmps r).run P w=.ok v w∧R ok w H x v:=by
 cases r with
 |tmp t=>
  obtain rfl:=f;exact⟨_,rfl,h.avi t⟩
 |cell t T=>
  obtain⟨k,cs,agg,n,I,J,hd,L,hn,M,rfl⟩:=f;have m:=I▸h.avi t;obtain⟨O,S,j⟩:=G7 h.mem.ent h.mem.hlen J;obtain⟨b,q,U,Y,Z⟩:=aNS j hd;generalize hu:a.tmps.getD t undef=u at m;cases m with
  |ptr _ _ b' s z=>
   rw[S]at z;obtain rfl:=Cm z;simp at q;subst q;show ∃v,((do loadVar T (←asAddr (a.tmps.getD t undef)):Sem Value)).run P w=.ok v w∧_;rw[hu];obtain⟨v,f,hD⟩:=aE7 L (off:=0) (by rw[uT];omega) M U Y Z;refine⟨v,?_,.d _ _ hD⟩;simp only[Instr.loadAt,Instr.sureAddr,F7,Fr,FI,J4]at f;simp only[asAddr,F7,Fr,FI];exact f
def ae2 {C:EI} {ok:Nat→Prop} {H:List Bo} {a:Act} {w:World} (h:Holds C ok H σ a w):∀(rs:List ResultVar) (xs:List Ag),Wp P σ rs xs→
 ∃vs:List Value,(rs.mapM (aNE a.tmps)).run P w=.ok vs w∧vs.length=xs.length∧∀i,i<xs.length→R ok w H (xs.getD i .junk) (vs.getD i undef)
 | [],[],_=>⟨[],rfl,rfl,fun i hi=>Ns⟩
 | [],_::_,h'=>h'.elim
 |_::_,[],h'=>h'.elim
 |r::rs,x::xs,h'=>by
  obtain⟨v,m,n⟩:=atS (P:=P) h h'.1;obtain⟨vs,f,q,j⟩:=ae2 h rs xs h'.2;refine⟨v::vs,?_,by simp[q],fun i hi=>?_⟩
  ·simp only[List.mapM_cons,F7,m,f,FI,Fr]
  cases i with
  |zero=>exact n
  |succ i=>simpa using j i Fj
def ami {C:EI} {ok:Nat→Prop} {H:List Bo} {a:Act} {w:World} (h:Holds C ok H σ a w) {fn:Func} {xs:List Ag} (s:Wp P σ fn.results.toList xs):
 ∃v,(results fn a.tmps).run P w=.ok v w∧R ok w H (eL xs) v:=by
 obtain⟨vs,n,f,j⟩:=ae2 (P:=P) h _ _ s
 have u:(results fn a.tmps).run P w=.ok (if h:vs.toArray.size=1 then vs.toArray[0]else .tuple vs.toArray) w:=by
  have e:results fn a.tmps=(do let vs ←fn.results.mapM (aNE a.tmps);pure (if h:vs.size=1 then vs[0]else .tuple vs)):=rfl;rw[e,aNV];simp only[F7,qj,n,FI,Fr]
 refine⟨_,u,?_⟩
 match xs,f,j with
 | [x],f,j=>
   have m:vs.toArray.size=1:=KZ
   rw[dif_pos m];have :=j 0 BU
   have e:vs.getD 0 undef=vs.toArray[0]:=by
    have :0<vs.length:=Vk
    simp[List.getD,this]
   rw[e]at this;exact this
 | [],f,j=>
   have m:¬vs.toArray.size=1:=by simp at f;simp[f]
   rw[dif_neg m];exact .fP [] _ KZ (fun i hi=>Ns)
 |x::y::xs,f,j=>
  have m:¬vs.toArray.size=1:=by simp at f;simp[f]
  rw[dif_neg m];refine .fP _ _ KZ (fun i hi=>?_);have :=j i hi;have q:i<vs.length:=AA
  have e:vs.toArray.getD i undef=vs.getD i undef:=by simp[Array.getD,List.getD,q]
  rw[e];exact this
def ajo {w:World} {D:Nat} {x:Option (List Deferred)} (h:w.heap[D]? =some (.deferred x)) (o:Nat):w.cell? ⟨D,o,none⟩=none:=by
 unfold World.cell?;rw[h]
def Holds.take {C:EI} {ok:Nat→Prop} {H:List Bo} {σ:BL} {a:Act} {w:World} (Y:∀b,C.ok0 b→b<C.w0.heap.size) (h:Holds C ok H σ a w) {D:Nat} {Ds:List Nat} (hd:∀d∈Ds,ok d∧C.w0.heap.size≤d∧w.heap[d]? =some (.deferred (some [])))
 (Z:ok D∧C.w0.heap.size≤D∧w.heap[D]? =some (.deferred (some []))) (s:(D::Ds).Nodup):
 ∃ok',Holds C ok' H σ { a with defers:=Ds.map fun D=>{ target:=.collected D,args:= #[] } } (w.putObj D (.deferred none))∧∀d∈Ds,ok' d∧C.w0.heap.size≤d∧(w.putObj D (.deferred none)).heap[d]? =some (.deferred (some [])):=by
 obtain⟨h1,h2,S⟩:=Z;have j:∀b,b≠D→(w.putObj D (.deferred none)).heap[b]? =w.heap[b]? :=fun b f=>Xy f;have u:∀b o,ok b→(w.cell? ⟨b,o,none⟩).isSome=true→ok b∧b≠D:=fun b o f z=>⟨f,fun e=>by subst e;rw[ajo S]at z;cases z⟩
 have U:EO (fun b=>ok b∧b≠D) w (fun b=>ok b∧b≠D) (w.putObj D (.deferred none)):=fun b f=>⟨f,j b f.2⟩
 have M:∀(k:Nat) (e:BQ) (hd:Bo) (b:Nat),σ.ents[k]? =some e→e.live=true→H[k]? =some hd→DX hd.v=some b→b≠D:=fun k e hd b n I q f O=>(h.mem.blk k e hd b n I q f).1 (O▸h1)
 have J:∀d∈Ds,(ok d∧d≠D)∧C.w0.heap.size≤d∧(w.putObj D (.deferred none)).heap[d]? =some (.deferred (some [])):=fun d m=>by
  have L:d≠D:=fun e=>(NC.1 s).1 (e▸m);exact⟨⟨(hd d m).1,L⟩,(hd d m).2.1,by rw[j d L];exact(hd d m).2.2⟩
 refine⟨fun b=>ok b∧b≠D,⟨⟨⟨h.mem.fr.os,h.mem.fr.tape,h.mem.fr.output,by simpa[World.putObj]using h.mem.fr.size,fun k hk hX=>by rw[j k AA];exact h.mem.fr.block k hk hX⟩,fun b f=>⟨h.mem.yA b f,fun e=>by have :=Y b f;omega⟩,fun b f=>h.mem.yB b f.1,fun b f=>by simpa[World.putObj]using h.mem.kL b f.1,h.mem.names,h.mem.hlen,?_,?_,?_⟩,h.size,⟨Ds,rfl,(NC.1 s).2,J⟩,h.base,fun t ht=>((h.slot t ht).shrink u).mono U (.refl _)⟩,J⟩
 ·intro k e hd n q;exact((h.mem.ent k e hd n q).shrink u (fun b ms c f z=>⟨f,fun e=>by subst e;rw[S]at z;cases z⟩)).mono U (.refl _) fun I b f=>j b (M k e hd b n I q f)
 ·intro k e hd b n I q f;obtain⟨h4,h5,h6⟩:=h.mem.blk k e hd b n I q f;exact⟨fun hx=>h4 hx.1,by simpa[World.putObj]using h5,h6⟩
 exact h.mem.EJ
def aId {fn:Func} {Rr:Ending→World→Prop} {C:EI} (m:∀b,C.ok0 b→b<C.w0.heap.size) {H:List Bo} {σ:BL}
 (n:∀ok a w,Holds C ok H σ a w→∃v,(results fn a.tmps).run P w=.ok v w∧Rr (.returned v) w):∀(Ds:List Nat) {ok:Nat→Prop} {a:Act} {w:World},Holds C ok H σ a w→(∀d∈Ds,ok d∧C.w0.heap.size≤d∧w.heap[d]? =some (.deferred (some [])))→Ds.Nodup→
  LeavesInM (Io none) 0 P fn a.tmps Rr (Ds.map fun D=>{ target:=.collected D,args:= #[] }) .returning w
 | [],ok,a,w,h,_,_=>n ok a w h
 |D::Ds,ok,a,w,h,hd,q=>by
  obtain⟨ok',h',f⟩:=h.take m (fun d j=>hd d (Hr _ j)) (hd D (GR ..)) q;have s:=aId m n Ds h' f (NC.1 q).2;exact⟨BU,.inl ⟨D,_,rfl,run_takeDeferred (hd D (GR ..)).2.2,s⟩⟩
def Ap.aI {f:FuncId} {fn:Func} {c:Code} {args:List Ag} {E E':List BQ} {q:Ag} (Z:P.funcs[f]? =some fn) (hb:fn.body=some c)
 (h:AB P c (.enter args fn.ntmps E) (aeN P fn q E')):Ap P f args E q E':=by
 intro ok X H w j z hs ha;refine(aEX (ro:=none) (n:=0)).1 (aKm Z hb trivial (U0 (h.run none (.inl rfl) ⟨w,ok,X,H⟩ ok H _ w ?_) ?_) rfl)
 ·refine⟨z,?_,.nil _ _ _,z.hlen,fun t ht=>?_⟩
  ·simp[BL.enter,hs]
  simp only[BL.enter];by_cases e:t<args.length
  ·have I:(args++List.replicate (fn.ntmps-args.length) Ag.junk).getD t .junk=args.getD t .junk:=aIH
   have e2:(j++Array.replicate (fn.ntmps-j.size) undef).getD t undef=j.getD t undef:=by
    simp[Gu,Xi (show t<j.size by omega)]
   rw[I,e2];exact ha t e
  have I:(args++List.replicate (fn.ntmps-args.length) Ag.junk).getD t .junk=.junk:=by
   simp only[List.getD,Jd (Tq e),aMi];split<;>rfl
  rw[I];exact .junk _
 rintro e a' w' ⟨ok',H',σ',Y,J⟩;obtain⟨Ds,L,M,O⟩:=Y.defers
 have key:∀(x:List Ag) (π:List (Nat×Bool)),Wp P σ' fn.results.toList x→UD σ'.base σ'.ents π=true→q=(eL x).back π→E'=RI σ'.ents π→
  LeavesInM (Io none) 0 P fn a'.tmps (fun e w'=>∃v ok' H',e=.returned v∧D5 ⟨w,ok,X,H⟩ ok' H' E' w'∧R ok' w' H' q v) a'.defers .returning w':=by
  rintro x π u m rfl rfl;rw[L];refine aId (P:=P) (C:=⟨w,ok,X,H⟩) z.kL (fun S a2 w2 s=>?_) Ds Y O M;obtain⟨v,hv,hR⟩:=ami (P:=P) s u;exact⟨v,hv,v,S,_,rfl,s.mem.norm π (s.base▸m),hR.back π⟩
 cases e with
 |ret=>obtain⟨x,π,u,m,s,U⟩:=J;exact key x π u m s U
 |normal=>obtain⟨x,π,u,m,s,U⟩:=J;exact key x π u m s U
 |_=>exact J.elim
def AX {x y:Code} (f:AB P x σ (Kq (fun s=>AB P y s Q) Q)):AB P (.seq x y) σ Q:=AB.seq _ f (fun _ h=>h)
def CY {x y:Code} (K:BL→Prop) (f:∀s,K s→AB P y s Q) (j:(∀s,K s→AB P y s Q)→AB P x σ (Kq (fun s=>AB P y s Q) Q)):AB P (.seq x y) σ Q:=AB.seq _ (j f) (fun _ h=>h)
def RY {c:Operand} {x y:Code} (f:σ.get c=.d (.lit (.bool true))) (h:AB P x σ Q):AB P (.cond c x y) σ Q:=AB.cond true f (fun _=>h) (fun h=>I4)
def Np {c:Operand} {x y:Code} (f:σ.get c=.d (.lit (.bool false))) (h:AB P y σ Q):AB P (.cond c x y) σ Q:=AB.cond false f (fun h=>I4) (fun _=>h)
def Ep {id:Nat} {ops:Array Oper} {y:Code} {σ':BL} {rs:List Ag} {ess:List (List BQ)} {bs:List Bool} (m:P.follows .mixedOrders=true) (f:(VJ ops&&WM ops&&UR ops σ.slots.length&&VT ops)=true) (j:Xo ops bs=true)
 (h:FC P ops ops.toList σ rs ess bs σ') (n:AB P y σ' Q):AB P (.seq (.region id ops true) y) σ Q:=
 AB.seq (fun s=>s=σ') (.draw m f j h rfl) (fun _ e=>e▸n)
end
section
variable {P : Program} {o : Oper} {es : List BQ}
def atN {x:Operand} {t:TypeId} {agg:Bool} {n off:Nat} {cs:List D} {y:D} (f:y=Ot agg cs off n) (h:EC P t agg n) (j:off+n≤cs.length) (m:agg=false→n=1) (q:o.op=.load t x):Bq P o [(x,.d (.ref cs off))] es (.d y) es:=f▸asv h j m q
def ahy {x:Operand} {t:TypeId} {agg:Bool} {k n off:Nat} {cs:List Ag} {y:D} (f:y=Ot agg (Iq cs) off n) (h:es[k]? =some (.box cs)) (hd:cs.all Ag.Ah=true) (j:EC P t agg n) (m:off+n≤cs.length) (q:agg=false→n=1) (s:o.op=.load t x):
 Bq P o [(x,.ptr k off)] es (.d y) es:=f▸ah5 h hd j m q s
def akl {x:Operand} {t:TypeId} {f off n:Nat} {agg:Bool} {cs:List D} {y:D} (h:y=Ot agg cs off n) (j:kn P t f off agg n=true) (m:off+n≤cs.length) (q:agg=false→n=1) (s:o.op=.field t x f):Bq P o [(x,.d (.agg cs))] es (.d y) es:=h▸agO j m q s
def akw {t:TypeId} {h:Array (Nat×Operand)} {f:List (Nat×Nat)} {z:Value} {y:D} (j:Il P t f z) (vs:List Ag) (m:o.op=.build t h) (n:y=.agg (Iq (Jj (fun(i:Nat)=>f[i]?) (FH z) h.toList vs))) (q:MQ (fun(i:Nat)=>f[i]?) (FH z).length h.toList vs=true)
 (hd:(Jj (fun(i:Nat)=>f[i]?) (FH z) h.toList vs).all Ag.Ah=true):Bq P o (Mc h.toList vs) es (.d y) es:=n▸ahT j vs q hd m
def atj {s t:TypeId} {x:Operand} {f k:IntKind} {n:Int} (h:P.underlying s=some (.int f)) (j:P.underlying t=some (.int k)) (m:o.op=.convert s t x):Bq P o [(x,.d (.lit (.int f n)))] es (.d (.lit (.int k (k.wrap n)))) es:=
 adl m fun w=>by simp[convert,underlying,h,j,Conv.intToInt]
def aeb {s t:TypeId} {x:Operand} {u:ByteArray} (f:P.underlying s=some .string) (h:P.underlying t=some .string) (j:o.op=.convert s t x):Bq P o [(x,.d (Ci u))] es (.d (Ci u)) es:=
 adl j fun w=>by simp[convert,underlying,f,h]
def ahf {t t':TypeId} {x y:Operand} {a b:Bool} (f:P.underlying t=some .bool) (h:o.op=.binOp .eql t x y t'):Bq P o [(x,.d (DT a)),(y,.d (DT b))] es (.d (DT (a==b))) es:=
 Gg (u:=.bool a) (v:=.bool b) (r:=.bool (a==b)) h (fun w=>by
  show((do pure (.bool (←Op.equal t (.bool a) (.bool b))):Sem Value)).run P w=_
  simp only[F7,run_equal_bool w t a b f,FI,Fr]) ⟨rfl,rfl⟩
def ahe {t t':TypeId} {x y:Operand} {a b:Bool} (f:P.underlying t=some .bool) (h:o.op=.binOp .neq t x y t'):Bq P o [(x,.d (DT a)),(y,.d (DT b))] es (.d (DT (!(a==b)))) es:=
 Gg (u:=.bool a) (v:=.bool b) (r:=.bool (!(a==b))) h (fun w=>by
  show((do pure (.bool (!(←Op.equal t (.bool a) (.bool b)))):Sem Value)).run P w=_
  simp only[F7,run_equal_bool w t a b f,FI,Fr]) ⟨rfl,rfl⟩
end
def bD {A Rr:Type} (body:(A→Option Rr)→A→Option Rr):Nat→A→Option Rr
 |0,_=>none
 |n+1,a=>body (bD body n) a
def Df {P:Program} {σ:BL} {Q:Exit→BL→Prop} {j:Code} {A Rr:Type} (S:A→BL) (body:(A→Option Rr)→A→Option Rr) (r:Rr) (a0:A) (q:Bz σ (S a0)) (h:Go.Proofs.YtolgdkhlelfpoaaGreat.bD body Az a0=some r)
 (round:∀(J:BL→Prop) (k:A→Option Rr),(∀σ' a,Bz σ' (S a)→k a=some r→J σ')→∀a,body k a=some r→AB P j (S a) (Kq J Q)):AB P (.loop j) σ Q:=by
 refine AB.loop (fun n s=>∃a,Bz s (S a)∧Go.Proofs.YtolgdkhlelfpoaaGreat.bD body n a=some r) Az ⟨a0,q,h⟩ ?_;rintro n s ⟨a,f,m⟩;refine CS f ?_;cases n with
 |zero=>cases m
 |succ n=>exact round _ (Go.Proofs.YtolgdkhlelfpoaaGreat.bD body n) (fun σ' a u z=>⟨n,XZ n,a,u,z⟩) a m
def aV {A B Rr:Type} (body:(A→B→Option Rr)→A→B→Option Rr):Nat→A→B→Option Rr
 |0,_,_=>none
 |n+1,a,b=>body (aV body n) a b
def DL {P:Program} {σ:BL} {Q:Exit→BL→Prop} {m:Code} {A B Rr:Type} (S:A→B→BL) (body:(A→B→Option Rr)→A→B→Option Rr) (r:Rr) (a0:A) (j:B) (u:Bz σ (S a0 j)) (h:Go.Proofs.YtolgdkhlelfpoaaGreat.aV body Az a0 j=some r)
 (round:∀(J:BL→Prop) (k:A→B→Option Rr),(∀σ' a b,Bz σ' (S a b)→k a b=some r→J σ')→∀a b,body k a b=some r→AB P m (S a b) (Kq J Q)):AB P (.loop m) σ Q:=by
 refine AB.loop (fun n s=>∃a b,Bz s (S a b)∧Go.Proofs.YtolgdkhlelfpoaaGreat.aV body n a b=some r) Az ⟨a0,j,u,h⟩ ?_;rintro n s ⟨a,b,f,q⟩;refine CS f ?_;cases n with
 |zero=>cases q
 |succ n=>exact round _ (Go.Proofs.YtolgdkhlelfpoaaGreat.aV body n) (fun σ' a b z I=>⟨n,XZ n,a,b,z,I⟩) a b q
def jw {A B C Rr:Type} (body:(A→B→C→Option Rr)→A→B→C→Option Rr):Nat→A→B→C→Option Rr
 |0,_,_,_=>none
 |n+1,a,b,c=>body (jw body n) a b c
def QH {P:Program} {σ:BL} {Q:Exit→BL→Prop} {q:Code} {A B C Rr:Type} (S:A→B→C→BL) (body:(A→B→C→Option Rr)→A→B→C→Option Rr) (r:Rr) (a0:A) (j:B) (m:C) (z:Bz σ (S a0 j m)) (h:Go.Proofs.YtolgdkhlelfpoaaGreat.jw body Az a0 j m=some r)
 (round:∀(J:BL→Prop) (k:A→B→C→Option Rr),(∀σ' a b c,Bz σ' (S a b c)→k a b c=some r→J σ')→∀a b c,body k a b c=some r→AB P q (S a b c) (Kq J Q)):AB P (.loop q) σ Q:=by
 refine AB.loop (fun n s=>∃a b c,Bz s (S a b c)∧Go.Proofs.YtolgdkhlelfpoaaGreat.jw body n a b c=some r) Az ⟨a0,j,m,z,h⟩ ?_;rintro n s ⟨a,b,c,f,u⟩;refine CS f ?_;cases n with
 |zero=>cases u
 |succ n=>exact round _ (Go.Proofs.YtolgdkhlelfpoaaGreat.jw body n) (fun σ' a b c I L=>⟨n,XZ n,a,b,c,I,L⟩) a b c u
def Uh {A B C D Rr:Type} (body:(A→B→C→D→Option Rr)→A→B→C→D→Option Rr):Nat→A→B→C→D→Option Rr
 |0,_,_,_,_=>none
 |n+1,a,b,c,d=>body (Uh body n) a b c d
def AB.Uh {P:Program} {σ:BL} {Q:Exit→BL→Prop} {u:Code} {A B C D Rr:Type} (S:A→B→C→D→BL) (body:(A→B→C→D→Option Rr)→A→B→C→D→Option Rr) (r:Rr) (a0:A) (j:B) (m:C) (q:D) (I:Bz σ (S a0 j m q)) (h:Go.Proofs.YtolgdkhlelfpoaaGreat.Uh body Az a0 j m q=some r)
 (round:∀(J:BL→Prop) (k:A→B→C→D→Option Rr),(∀σ' a b c d,Bz σ' (S a b c d)→k a b c d=some r→J σ')→∀a b c d,body k a b c d=some r→AB P u (S a b c d) (Kq J Q)):AB P (.loop u) σ Q:=by
 refine AB.loop (fun n s=>∃a b c d,Bz s (S a b c d)∧Go.Proofs.YtolgdkhlelfpoaaGreat.Uh body n a b c d=some r) Az ⟨a0,j,m,q,I,h⟩ ?_;rintro n s ⟨a,b,c,d,f,z⟩;refine CS f ?_;cases n with
 |zero=>cases z
 |succ n=>exact round _ (Go.Proofs.YtolgdkhlelfpoaaGreat.Uh body n) (fun σ' a b c d L M=>⟨n,XZ n,a,b,c,d,L,M⟩) a b c d z
def BG {A B C D E Rr:Type} (body:(A→B→C→D→E→Option Rr)→A→B→C→D→E→Option Rr):Nat→A→B→C→D→E→Option Rr
 |0,_,_,_,_,_=>none
 |n+1,a,b,c,d,e=>body (BG body n) a b c d e
def aFJ {P:Program} {σ:BL} {Q:Exit→BL→Prop} {z:Code} {A B C D E Rr:Type} (S:A→B→C→D→E→BL) (body:(A→B→C→D→E→Option Rr)→A→B→C→D→E→Option Rr) (r:Rr) (a0:A) (j:B) (m:C) (q:D) (u:E) (L:Bz σ (S a0 j m q u)) (h:Go.Proofs.YtolgdkhlelfpoaaGreat.BG body Az a0 j m q u=some r)
 (round:∀(J:BL→Prop) (k:A→B→C→D→E→Option Rr),(∀σ' a b c d e,Bz σ' (S a b c d e)→k a b c d e=some r→J σ')→∀a b c d e,body k a b c d e=some r→AB P z (S a b c d e) (Kq J Q)):AB P (.loop z) σ Q:=by
 refine AB.loop (fun n s=>∃a b c d e,Bz s (S a b c d e)∧Go.Proofs.YtolgdkhlelfpoaaGreat.BG body n a b c d e=some r) Az ⟨a0,j,m,q,u,L,h⟩ ?_;rintro n s ⟨a,b,c,d,e,f,I⟩;refine CS f ?_;cases n with
 |zero=>cases I
 |succ n=>exact round _ (Go.Proofs.YtolgdkhlelfpoaaGreat.BG body n) (fun σ' a b c d e M O=>⟨n,XZ n,a,b,c,d,e,M,O⟩) a b c d e I
def EZ {A B C D E F Rr:Type} (body:(A→B→C→D→E→F→Option Rr)→A→B→C→D→E→F→Option Rr):Nat→A→B→C→D→E→F→Option Rr
 |0,_,_,_,_,_,_=>none
 |n+1,a,b,c,d,e,f=>body (EZ body n) a b c d e f
def AB.EZ {P:Program} {σ:BL} {Q:Exit→BL→Prop} {L:Code} {A B C D E F Rr:Type} (S:A→B→C→D→E→F→BL) (body:(A→B→C→D→E→F→Option Rr)→A→B→C→D→E→F→Option Rr) (r:Rr) (a0:A) (m:B) (q:C) (u:D) (z:E) (I:F) (O:Bz σ (S a0 m q u z I)) (h:Go.Proofs.YtolgdkhlelfpoaaGreat.EZ body Az a0 m q u z I=some r)
 (round:∀(J:BL→Prop) (k:A→B→C→D→E→F→Option Rr),(∀σ' a b c d e f,Bz σ' (S a b c d e f)→k a b c d e f=some r→J σ')→∀a b c d e f,body k a b c d e f=some r→AB P L (S a b c d e f) (Kq J Q)):AB P (.loop L) σ Q:=by
 refine AB.loop (fun n s=>∃a b c d e f,Bz s (S a b c d e f)∧Go.Proofs.YtolgdkhlelfpoaaGreat.EZ body n a b c d e f=some r) Az ⟨a0,m,q,u,z,I,O,h⟩ ?_;rintro n s ⟨a,b,c,d,e,f,j,M⟩;refine CS j ?_;cases n with
 |zero=>cases M
 |succ n=>exact round _ (Go.Proofs.YtolgdkhlelfpoaaGreat.EZ body n) (fun σ' a b c d e f U Y=>⟨n,XZ n,a,b,c,d,e,f,U,Y⟩) a b c d e f M
def aaX {A B C D E F G Rr:Type} (body:(A→B→C→D→E→F→G→Option Rr)→A→B→C→D→E→F→G→Option Rr):Nat→A→B→C→D→E→F→G→Option Rr
 |0,_,_,_,_,_,_,_=>none
 |n+1,a,b,c,d,e,f,g=>body (aaX body n) a b c d e f g
def AB.aaX {P:Program} {σ:BL} {Q:Exit→BL→Prop} {M:Code} {A B C D E F G Rr:Type} (S:A→B→C→D→E→F→G→BL) (body:(A→B→C→D→E→F→G→Option Rr)→A→B→C→D→E→F→G→Option Rr) (r:Rr) (a0:A) (m:B) (q:C) (u:D) (z:E) (I:F) (L:G) (U:Bz σ (S a0 m q u z I L)) (h:Go.Proofs.YtolgdkhlelfpoaaGreat.aaX body Az a0 m q u z I L=some r)
 (round:∀(J:BL→Prop) (k:A→B→C→D→E→F→G→Option Rr),(∀σ' a b c d e f g,Bz σ' (S a b c d e f g)→k a b c d e f g=some r→J σ')→∀a b c d e f g,body k a b c d e f g=some r→AB P M (S a b c d e f g) (Kq J Q)):AB P (.loop M) σ Q:=by
 refine AB.loop (fun n s=>∃a b c d e f g,Bz s (S a b c d e f g)∧Go.Proofs.YtolgdkhlelfpoaaGreat.aaX body n a b c d e f g=some r) Az ⟨a0,m,q,u,z,I,L,U,h⟩ ?_;rintro n s ⟨a,b,c,d,e,f,g,j,O⟩;refine CS j ?_;cases n with
 |zero=>cases O
 |succ n=>exact round _ (Go.Proofs.YtolgdkhlelfpoaaGreat.aaX body n) (fun σ' a b c d e f g Y Z=>⟨n,XZ n,a,b,c,d,e,f,g,Y,Z⟩) a b c d e f g O
section
variable {P : Program} {o : Oper} {es : List BQ} {α : Type}
def aoV {b:Nat} {z:α} {n c:Int} {r:List α} (h:JM b z n c=some r):(0≤n∧n≤c∧(b:Int)*c≤140737488355328)∧r=List.replicate n.toNat z:=by
 unfold JM at h;split at h
 ·exact⟨‹_›,(Cm h).symm⟩
 cases h
def Yh {x y:Operand} {t e:TypeId} {size f:Nat} {j:Value} {n c:Int} {r:List α} (enc:α→D) (z:α) (h:JM f z n c=some r) (hE:Fl P t e size f) (hz:(P.info? e).bind (·.zero)=some j) (h1:j.cells.all (·.oneCell')=true) (I:j.cells.size=size)
 (m:FH j=(enc z).cells.map .d) (hb:0<f) (ho:o.op=.makeSlice t x y):Bq P o [(x,.d (AZ n)),(y,.d (AZ c))] es (.aO es.length) (es++[.arr e size (List.map enc r)]):=
 .eff fun C ok H a w hm hn=>by
  obtain⟨⟨h0,U,hbc⟩,rfl⟩:=aoV h;have hx:=(Ee hn).1.lit;have J:=(Ee hn).2.lit;simp only at hx J;obtain⟨i,z',hi,hz',hs,Y,_⟩:=hE.info;have Z:i.zero=some j:=by rw[hi]at hz;simpa using hz
  have L:c≤9223372036854775807:=by
   have h2:(1:Int)*c≤(f:Int)*c:=Int.mul_le_mul_of_nonneg_right AA AA;omega
  have hr:=run_make (P:=P) w t e i j hE.und hi Z .i64 .i64 n c h0 U (by rw[Y];omega) L;rw[hs]at hr
  let cells:=madeCells j.cells (c.toNat*size)
  have M:=hE.pos;have q:cells.size=c.toNat*size:=size_madeCells _ _;have O:(FH j).length=size:=by simp[FH,I]
  have s:∀y∈List.map enc (List.replicate n.toNat z),y.cells.length=size:=by
   intro y J;simp only[List.map_replicate,List.mem_replicate]at J;rw[J.2,←O,m];simp
  have u:=RS s;have hlen:(List.map enc (List.replicate n.toNat z)).length=n.toNat:=BU
  rw[hlen]at u;have aFt:n.toNat*size≤c.toNat*size:=Ja _ AA
  have hrs:∀{ok:Nat→Prop} {w:World} {H:List Bo},FZ ok w H (flat (List.map enc (List.replicate n.toNat z))) (cells.toList.take (n.toNat*size)):=by
   intro ok w H;refine⟨by rw[u,Fa,Ry,q];omega,fun k hk=>?_⟩;rw[u]at hk;have hd:=yT k size;have hq:k/size<n.toNat:=wo (by rwa [TV]at hk);have hm':k % size<size:=kD _ M;have e0:k=k/size*size+k % size:=by rw[TV];exact hd.symm
   have e1:(flat (List.map enc (List.replicate n.toNat z))).getD k .junk=.d ((enc z).cells.getD (k % size) Dp):=by
    have hg:=flat_get s (k/size) (k % size) (by rw[hlen];exact hq) hm';rw[←e0]at hg;rw[hg];congr 3;simp[List.getD,hq]
   have hcl:(enc z).cells.length=size:=by rw[←O,m];simp
   have e2:(Ag.d ((enc z).cells.getD (k % size) Dp))=(FH j).getD (k % size) .junk:=by
    rw[m];have :k % size<(enc z).cells.length:=AA
    simp[List.getD,this]
   have S:k % size<j.cells.size:=AA
   have e3:(cells.toList.take (n.toNat*size)).getD k undef=j.cells[k % size]:=by
    have hk2:k<c.toNat*size:=AA
    have e:cells.toList=(List.range (c.toNat*size)).map fun i=>j.cells[i % j.cells.size]! :=by
     show(madeCells j.cells (c.toNat*size)).toList=_;simp[madeCells]
    rw[e];simp only[List.getD,NI hk];simp[hk2,I];rw[wX j.cells (k % size) S]
   rw[e1,e2,e3];have e4:(FH j).getD (k % size) .junk=.d (OT j.cells[k % size]):=by simp[FH,List.getD,S]
   rw[e4];exact⟨uY ((QF.1 h1) _ BU),.d _ _ (dW _)⟩
  obtain⟨h2,h3⟩:=hm.push (.cells cells e) ⟨.slice (some ⟨w.heap.size,0,none⟩) n.toNat c.toNat,size⟩ (.arr e size (List.map enc (List.replicate n.toNat z))) (fun b hb=>by simpa[DX]using hb.symm) (by
   refine⟨rfl,s,cells.toList.take (n.toNat*size),⟨?_,.inr ⟨w.heap.size,c.toNat,cells,by rw[hlen],EY _,WU w _,by rw[hlen];omega,aBd,Yf q.symm,by rw[hlen]⟩⟩,hrs⟩
   rw[hlen,Fa,Ry,q];omega)
  refine⟨.slice (some ⟨w.heap.size,0,none⟩) n.toNat c.toNat,_,ok,_,.inl ?_,h3,Names.push _ _,h2,.aO _ _ _ _ size (by rw[←hm.hlen];simp)⟩;simp only[execOp,ho,hx,J,F7,hr,FI,Fr];rfl
def gCopy (l m:List α):List α:=m.take l.length++l.drop m.length
def am5 {x y:Operand} {t e:TypeId} {size bytes k:Nat} (enc:α→D) (l m:List α) (hE:Fl P t e size bytes) (hk:es[k]? =some (.arr e size (List.map enc l))) (hc:∀a,(enc a).cells.length=size) (ho:o.op=.call { callee:=.builtin .copy,args:= #[x,y],argTypes:= #[t,t] }):
 Bq P o [(x,.aO k),(y,.d (Au enc m))] es .junk (es.set k (.arr e size (List.map enc (gCopy l m)))):=
 .eff fun C ok H a w hm hn=>by
  have hx:=(Ee hn).1;have hy:=(Ee hn).2;simp only at hx hy;obtain⟨h,hh,hok⟩:=G7 hm.ent hm.hlen hk;have hxv:=P9 hx hh;obtain⟨i,z',hi,hz',hs,hby,_⟩:=hE.info;have hu:(underlying t).run P w=.ok (.slice e) w:=aHc
  have hsz:(sizeOf e).run P w=.ok size w:=aO9
  have O:∀(q:List α),∀y∈q.map enc,y.cells.length=size:=fun q y hy=>aOS
  have hyR:Du ok w (.sl (m.map enc)) (a.eval y):=by cases hy with |d _ _ h=>exact h
  obtain⟨f,M,aED⟩:=YU H hyR (O m);obtain⟨h1,h2,ys,S,hrs⟩:=hok;have U:(m.map enc).length=m.length:=BU
  have hll:(l.map enc).length=l.length:=BU
  have hnl:f.length=m.length*size:=by rw[M.len,U]
  let n:=Nat.min m.length l.length
  have Y:(Builtin.lenOf (a.eval y)).run P w=.ok m.length w:=by
   rcases M.at_ with⟨ad,c,Z,_⟩|⟨c,Z,e2⟩
   ·rw[Z];simp[Builtin.lenOf]
   rw[Z];rw[U]at e2;simp[Builtin.lenOf,e2]
  have z:(Builtin.firstCells size n (a.eval y)).run P w=.ok (f.take (n*size)).toArray w:=by
   rcases M.at_ with⟨ad,c,Z,hcells⟩|⟨c,Z,e2⟩
   ·rw[Z];refine run_firstCells_some (P:=P) w size n ad _ c (f.take (n*size)) ?_ ?_
    ·rw[Fa,hnl];have :n*size≤m.length*size:=Ja _ (aLu _ _);omega
    intro j v hj;rw[qJ]at hj;split at hj
    ·exact hcells j v hj
    cases hj
   rw[Z];rw[U]at e2;have :f=[]:=Gt (by rw[hnl,e2];simp);simp[Builtin.firstCells,this]
  have hone:∀u∈f.take (n*size),u.oneCell'=true:=fun u hu=>M.one u (uO hu);have hn1:n≤m.length:=aLu _ _;have hn2:n≤l.length:=Nat.min_le_right _ _
  have s:(f.take (n*size)).length=n*size:=by
   rw[Fa,hnl];have :n*size≤m.length*size:=Ja _ hn1;omega
  have hgc:gCopy l m=m.take n++l.drop n:=by
   unfold gCopy;by_cases hle:m.length≤l.length
   ·have Z:n=m.length:=wL hle;rw[Z,PW hle,GY]
   have Z:n=l.length:=Nat.min_eq_right AA;rw[Z,yg AA,OV]
  have I:(gCopy l m).length=l.length:=by rw[hgc];simp;omega
  rcases S.2 with⟨hv,hl0⟩|⟨g,cap,J,hv,_,hg,hncap,hcm,hcs,htake⟩
  ·
   rw[hll]at hl0;have hn0:n=0:=AA
   have hl:l=[]:=Gt hl0;have hge:gCopy l m=l:=by rw[hgc,hn0];simp
   rw[hge]
   have hset:es.set k (.arr e size (List.map enc l))=es:=by
    apply jg;intro j;by_cases hj:k=j
    ·subst hj;have hkl:=(FV.1 hk).1;rw[List.getElem?_set_self hkl,hk]
    rw[WY hj]
   rw[hset];refine⟨goInt n,w,ok,H,.inl ?_,.refl _ _,.refl _,hm,.junk _⟩;have e0:Nat.min m.length 0=n:=by rw[hn0];simp
   have hf0:(Builtin.firstCells size 0 (a.eval y)).run P w=.ok #[] w:=by rw[hn0]at z;simpa using z
   simp[execOp,ho,resolve,invoke,builtin,Builtin.copy_,hxv,hv,hu,Y,hsz,hf0,hn0]
  ·rw[hll]at hv hncap htake;have hlt:g<w.heap.size:=(Fq.1 hg).1
   have hfit:n*size≤J.size:=by
    exact Ej (Ja _ AA) hcs
   have hst:=aNP (P:=P) g 0 e (f.take (n*size)) 0 J w hg (by rw[s];omega) hone;have azj:∀y∈(gCopy l m).map enc,y.cells.length=size:=O _
   obtain⟨h3,h4⟩:=hm.upd (e:=.arr e size (List.map enc (gCopy l m))) (w':=w.setRow g (J.toList.take (0+0)++f.take (n*size)++J.toList.drop (0+0+(f.take (n*size)).length)).toArray) hk rfl hh (by rw[hv];rfl) rfl rfl rfl aOI (fun c hc=>aIu _ _ _ _ hc) (fun hg'=>by
    refine⟨h1,azj,f.take (n*size)++ys.drop (n*size),?_,?_⟩
    ·refine⟨?_,.inr ⟨g,cap,_,by rw[D6,I];exact hv,EY _,xY w g J _ e (0,0) hg,by rw[D6,I];exact hncap,hcm,?_,?_⟩⟩
     ·simp only[EL,s,L6,S.1,D6,I];have :n*size≤l.length*size:=Ja _ hn2;omega
     ·simp only[OE,aB0,IE,J4,s];simp only[iW,EL,s,L6,Ry];rw[show n*size+(J.size-n*size)=J.size by omega];exact hcs
     simp only[OE,aB0,IE,J4,s,aBG];rw[D6,I,←htake];rw[aKR,s,PW (by rw[s];exact Ja _ hn2)];congr 1;rw[List.drop_take]
    have ha:=aED.mono hg' (Names.refl H);have hb:=hrs.mono hg' (Names.refl H);have aEE:=RS (O l);have aEF:=RS (O m);have aCI:=RS azj;have aFu:n*size≤l.length*size:=Ja _ hn2;have aFv:n*size≤m.length*size:=Ja _ hn1;refine⟨by simp only[aCI,EL,s,L6,S.1,D6,I];omega,fun j hj=>?_⟩;rw[aCI,D6,I]at hj;have hpos:=hE.pos;have e0:j=j/size*size+j % size:=by rw[TV];exact(yT j size).symm
    have hq:j/size<l.length:=wo (by rwa [TV]at hj);have hr:j % size<size:=kD _ hpos;have hg3:=flat_get azj (j/size) (j % size) (by rw[D6,I];exact hq) hr;rw[←e0]at hg3;by_cases hjn:j<n*size
    ·have hqn:j/size<n:=wo (by rwa [TV]at hjn);have hg2:=flat_get (O m) (j/size) (j % size) (by rw[U];omega) hr;rw[←e0]at hg2
     have L:((gCopy l m).map enc).getD (j/size) Dp=(m.map enc).getD (j/size) Dp:=by
      rw[hgc];simp only[List.getD,Jo];rw[GH Dy,YI,NI hqn]
     rw[hg3,L,←hg2]
     have e5:(f.take (n*size)++ys.drop (n*size)).getD j undef=f.getD j undef:=by
      simp only[List.getD];rw[GH (by rw[s];exact hjn),NI hjn]
     rw[e5];exact ha.2 j (by rw[aEF,U];omega)
    have hqn:n≤j/size:=(Nat.le_div_iff_mul_le hpos).2 AA;have hg1:=flat_get (O l) (j/size) (j % size) (by rw[hll];exact hq) hr;rw[←e0]at hg1
    have L:((gCopy l m).map enc).getD (j/size) Dp=(l.map enc).getD (j/size) Dp:=by
     rw[hgc];have hlt':(m.take n).length=n:=Dy
     simp only[List.getD,Jo];rw[Jd (by rw[D6,hlt'];exact hqn),D6,hlt',Yt,Oh];congr 2;omega
    rw[hg3,L,←hg1]
    have e5:(f.take (n*size)++ys.drop (n*size)).getD j undef=ys.getD j undef:=by
     simp only[List.getD];rw[Jd (by rw[s];omega),s,Oh];congr 2;omega
    rw[e5]
    exact hb.2 j (by rw[aEE,hll];omega))
   refine⟨goInt n,_,ok,H,.inl ?_,h4,.refl _,h3,.junk _⟩;have e0:Nat.min m.length l.length=n:=rfl;simp[execOp,ho,resolve,invoke,builtin,Builtin.copy_,hxv,hv,hu,Y,hsz,e0,z];rw[hst];simp
end
def Bv (s:ByteArray):List Int:=s.data.toList.map fun c=>(c.toNat:Int)
def Gx (s:ByteArray):(Bv s).length=s.size:=by unfold Bv;rw[D6,Ry];rfl
section
variable {P : Program} {o : Oper} {es : List BQ} {α : Type}
def aG8 :∀(l:List Int),flat (l.map D8)=l.map fun n=>.d (D8 n)
 | []=>rfl
 |n::l=>by rw[Ko,V4,aG8 l];rfl
def ajO {w:World} {t u ty e:TypeId} {i:TypeInfo} (U:P.underlying t=some (.slice e)) (Y:P.underlying u=some .string) (hi:P.info? e=some i) (hz:i.zero=some (.int .u8 0)) (f:i.size=1) (O:i.bytes=1)
 {v:Value} {n:Nat} {xs:List Value} (j:nD w e 1 v n xs) (s:ByteArray) (J:n+s.size≤maxLen) (z:n+s.size≤140737488355328):
 ∃v' w',(Builtin.append_ #[t,u] ty #[v,.string s]).run P w=.ok v' w'∧nD w' e 1 v' (n+s.size) (xs++Lib.strCells s)∧w.grownBy w' v.ownBlock∧(∀M,DX v'=some M→DX v=some M∨w.heap.size≤M):=by
 have I:xs.length=n:=by simpa using j.1
 have hlen:(xs++Lib.strCells s).length=(n+s.size)*1:=by rw[EL,I,aJS,Yd]
 rcases j.2 with⟨rfl,rfl⟩|⟨g,cap,S,rfl,_,hg,hnc,L,Z,m⟩
 ·have hx:xs=[]:=Gt I;subst hx;obtain⟨v',w',q1,q2,q3,q4⟩:=Lib.run_append_own_string (P:=P) w w.heap.size t u ty e i U Y hi hz f O _ 0 [] (aE2 w w.heap.size e 1) s J z (E9 _);refine⟨v',w',q1,.of q2,q3,fun M h=>.inr ?_⟩;rcases q2.2 with⟨rfl,_⟩|⟨g2,_,_,rfl,hle,_⟩
  ·simp[DX]at h
  simp[DX]at h;subst h;exact hle
 rw[Yd]at Z m;by_cases q:n+s.size≤cap
 ·have hr:=Lib.run_append_room_string (P:=P) w t u ty e i U Y hi f g n cap S hg s q AA;refine⟨_,_,hr,⟨hlen,.inr ⟨g,cap,_,rfl,EY _,xY w g S _ e _ hg,q,L,?_,?_⟩⟩,⟨rfl,rfl,rfl,BU,fun k _ hk=>setRow_other w g k _ (fun e=>hk (by simp[Value.ownBlock,e]))⟩,fun M h=>.inl h⟩
  ·simp only[iW,EL,Fa,L6,Ry,aJS];omega
  rw[m,←hlen];exact aH1
 have hr:=Lib.run_append_grow_string (P:=P) w t u ty e i (.int .u8 0) U Y hi hz ⟨g,0,none⟩ n cap xs (by rw[f];simpa using I) (j.cells (g:=g) rfl) s AA (by unfold maxLen at J;omega) (by rw[O];exact growslice_fits AA AA);have hge:=grownCap_ge w (n+s.size) cap e;have L:grownCap w (n+s.size) cap e≤maxLen:=grownCap_le_maxLen w (n+s.size) cap e J;refine⟨_,_,hr,⟨hlen,.inr ⟨w.heap.size,_,_,rfl,EY _,WU w.drew _,hge,L,Yf ?_,?_⟩⟩,⟨rfl,rfl,rfl,BU,fun k hk _=>JY w.drew _ k hk⟩,fun M h=>.inr (by simp[DX]at h;omega)⟩
 ·have hz1:(Value.int IntKind.u8 0).cells.size=1:=rfl;simp only[Array.size_append,iW,size_zeroCells,hz1,I,aJS];omega
 simp only[Array.toList_append,H7];rw[←H7,←hlen];exact aH1
def amV {s x:Operand} {t u e:TypeId} {k:Nat} {l r:List Int} {f:ByteArray} (h:CZ 1 l (Bv f)=some r) (hE:Fl P t e 1 1) (hz:(P.info? e).bind (·.zero)=some (.int .u8 0)) (hu:P.underlying u=some .string) (hk:es[k]? =some (.arr e 1 (List.map D8 l)))
 (ho:o.op=.call { callee:=.builtin .append,args:= #[s,x],argTypes:= #[t,u] }):Bq P o [(s,.aO k),(x,.d (Ci f))] es (.aO es.length) (es.set k .dead++[.arr e 1 (List.map D8 r)]):=
 .eff fun C ok H a w Y hn=>by
  obtain⟨rfl,hlen⟩:=nU h;rw[Gx,Yd]at hlen;have hs:=(Ee hn).1;have hx:=(Ee hn).2.lit;simp only at hs hx;obtain⟨hd,hh,Z⟩:=G7 Y.ent Y.hlen hk;have hsv:=P9 hs hh;obtain⟨h1,h2,ys,m,hrs⟩:=Z;obtain⟨i,z',hi,hz',hs1,hby,_⟩:=hE.info;have hz2:i.zero=some (.int .u8 0):=by rw[hi]at hz;simpa using hz
  have I:(l.map D8).length=l.length:=BU
  have J:(l.map D8).length+f.size≤maxLen:=by rw[I];unfold maxLen;omega
  obtain⟨v',w',hr,z,L,M⟩:=ajO (P:=P) (ty:=o.type) hE.und hu hi hz2 hs1 hby m f J (by rw[I];exact hlen)
  obtain⟨h3,h4⟩:=Y.turn (h':=⟨v',1⟩) (e:=.arr e 1 (List.map D8 (l++Bv f))) hk rfl hh L.os L.tape L.output L.size (fun c hc hne=>L.block c hc (by rw[aJX m];exact fun e=>hne e.symm)) (fun g O=>⟨rP z O,M g O⟩) (fun hgr=>by
   refine⟨rfl,fun y hy=>by obtain⟨q,_,rfl⟩:=Fh.1 hy;rfl,ys++Lib.strCells f,?_,?_⟩
   ·have e:(List.map D8 (l++Bv f)).length=(l.map D8).length+f.size:=by simp[Gx]
    rw[e];exact z
   have S:=hrs.mono hgr (Names.push H [⟨v',1⟩]);have hfl:(flat (l.map D8)).length=l.length:=by rw[aG8];simp
   have hcl:(Lib.strCells f)=(Bv f).map (.int .u8):=by unfold Lib.strCells Bv;rw[su];rfl
   rw[Jo,lF,aG8 (Bv f),hcl];refine⟨by rw[EL,EL,S.1,D6,D6],fun i hi=>?_⟩;by_cases j:i<(flat (l.map D8)).length
   ·have e1:(flat (l.map D8)++(Bv f).map fun n=>Ag.d (D8 n)).getD i .junk=(flat (l.map D8)).getD i .junk:=by simp[List.getD,GH j]
    have e2:(ys++(Bv f).map (Value.int .u8)).getD i undef=ys.getD i undef:=by simp[List.getD,GH (by rw[S.1];exact j:i<ys.length)]
    rw[e1,e2];exact S.2 i j
   have U:i-(flat (l.map D8)).length<(Bv f).length:=by rw[EL,D6]at hi;omega
   have e1:(flat (l.map D8)++(Bv f).map fun n=>Ag.d (D8 n)).getD i .junk=.d (D8 (Bv f)[i-(flat (l.map D8)).length]):=by simp[List.getD,Jd (Tq j),U]
   have e2:(ys++(Bv f).map (Value.int .u8)).getD i undef=.int .u8 (Bv f)[i-(flat (l.map D8)).length]:=by simp[List.getD,Jd (by rw[S.1];omega:ys.length≤i),S.1,U]
   rw[e1,e2]
   exact⟨rfl,.d _ _ (.lit _)⟩)
  have hH:(H++[(⟨v',1⟩:Bo)])[es.length]? =some ⟨v',1⟩:=by rw[←Y.hlen];simp
  refine⟨v',w',ok,_,.inl ?_,h4,Names.push _ _,h3,?_⟩
  ·simp[execOp,ho,resolve,invoke,builtin,hx,hsv,hr]
  rcases z.2 with⟨rfl,_⟩|⟨g',c',_,rfl,_⟩
  ·exact .aO _ _ _ _ 1 hH
  exact .aO _ _ _ _ 1 hH
def ajz {x:Operand} {n q e:TypeId} {s:ByteArray} (J:P.underlying n=some .string) (hd:P.underlying q=some (.slice e)) (L:P.underlying e=some (.int .u8)) (M:o.op=.convert n q x):Bq P o [(x,.d (Ci s))] es (.d (Au D8 (Bv s))) es:=
 .eff fun C ok H a w O S=>by
  have I:=(Ju S).lit;simp only at I;have U:=run_bytes_of_string (P:=P) w n q e s J hd L;obtain⟨Y,Z⟩:=O.drew;obtain⟨h3,h4⟩:=Y.fresh (.cells (bytesRow s (grownCap w s.size 0 e)) e ((bytesRow s (grownCap w s.size 0 e)).size,(bytesRow s (grownCap w s.size 0 e)).size+1));refine⟨.slice (some ⟨w.heap.size,0,none⟩) s.size (grownCap w s.size 0 e),_,_,H,.inl ?_,Z.trans h4,.refl _,h3,.d _ _ ?_⟩
  ·simp only[execOp,M,I,F7,U,FI,Fr]
  have f:((Bv s).map D8).length=s.size:=by simp[Gx]
  have h:∀i,i<s.size→(w.drew.alloc (.cells (bytesRow s (grownCap w s.size 0 e)) e ((bytesRow s (grownCap w s.size 0 e)).size,(bytesRow s (grownCap w s.size 0 e)).size+1))).cell? ⟨w.heap.size,0+(i*1+0),none⟩=some (.int .u8 ((s.data.toList.getD i 0).toNat)):=by
   intro i hi;have hb:(w.drew.alloc (.cells (bytesRow s (grownCap w s.size 0 e)) e ((bytesRow s (grownCap w s.size 0 e)).size,(bytesRow s (grownCap w s.size 0 e)).size+1))).heap[w.heap.size]? =some (.cells (bytesRow s (grownCap w s.size 0 e)) e ((bytesRow s (grownCap w s.size 0 e)).size,(bytesRow s (grownCap w s.size 0 e)).size+1)):=WU w.drew _;rw[J4,Yd,OE];have m:i<s.data.size:=hi
   have hg:(bytesRow s (grownCap w s.size 0 e))[i]? =some (.int .u8 ((s.data.toList.getD i 0).toNat)):=by
    unfold bytesRow;rw[Xi Zn];simp[lG m,List.getD]
   unfold World.cell?;simp only[hb];simpa using hg
  have z:∀i,i<s.size→((Bv s).map D8).getD i Dp=D8 ((s.data.toList.getD i 0).toNat):=by
   intro i hi;have m:i<s.data.size:=hi;simp[Bv,List.getD,lG m]
  have z0:∀j,j<1→j=0:=fun j u=>AA
  have :=Du.sl (ok:=fun b=>ok b∨b=w.drew.heap.size) (w:=w.drew.alloc (.cells (bytesRow s (grownCap w s.size 0 e)) e ((bytesRow s (grownCap w s.size 0 e)).size,(bytesRow s (grownCap w s.size 0 e)).size+1))) ((Bv s).map D8) w.heap.size 0 (grownCap w s.size 0 e) 1 (by rw[f];exact grownCap_ge w s.size 0 e) (fun _ _=>.inr rfl)
   (fun i hi=>by rw[f]at hi;rw[z i hi];rfl)
   (fun i hi j u=>by rw[f]at hi;rw[z0 j u,z i hi];rfl)
   (fun i hi j u=>by rw[f]at hi;rw[z0 j u,h i hi];rfl)
   (fun i hi j u=>by rw[f]at hi;rw[z0 j u];unfold cellAt;rw[h i hi,z i hi];exact .lit _)
  rw[f]at this;exact this
def EP (op:BinOp) (k:IntKind) (x y:Int):Int:=
 match op with
 | .and=>k.wrap ((BitVec.ofInt k.bits x&&& BitVec.ofInt k.bits y).toNat)
 | .or=>k.wrap ((BitVec.ofInt k.bits x|||BitVec.ofInt k.bits y).toNat)
 | .xor=>k.wrap ((BitVec.ofInt k.bits x^^^BitVec.ofInt k.bits y).toNat)
 |_=>k.wrap ((BitVec.ofInt k.bits x&&& ~~~(BitVec.ofInt k.bits y)).toNat)
def QO {t t':TypeId} {x y:Operand} {k:IntKind} {u v:Int} (f:o.op=.binOp .and t x y t'):Bq P o [(x,.d (.lit (.int k u))),(y,.d (.lit (.int k v)))] es (.d (.lit (.int k (EP .and k u v)))) es:=
 Gg f (fun w=>aDu) ⟨rfl,rfl⟩
def WA {t t':TypeId} {x y:Operand} {k:IntKind} {u v:Int} (f:o.op=.binOp .or t x y t'):Bq P o [(x,.d (.lit (.int k u))),(y,.d (.lit (.int k v)))] es (.d (.lit (.int k (EP .or k u v)))) es:=
 Gg f (fun w=>aDu) ⟨rfl,rfl⟩
def aST {t t':TypeId} {x y:Operand} {k:IntKind} {u v:Int} (f:o.op=.binOp .xor t x y t'):Bq P o [(x,.d (.lit (.int k u))),(y,.d (.lit (.int k v)))] es (.d (.lit (.int k (EP .xor k u v)))) es:=
 Gg f (fun w=>aDu) ⟨rfl,rfl⟩
def alM {t t':TypeId} {x y:Operand} {k:IntKind} {u v:Int} (f:o.op=.binOp .andNot t x y t'):Bq P o [(x,.d (.lit (.int k u))),(y,.d (.lit (.int k v)))] es (.d (.lit (.int k (EP .andNot k u v)))) es:=
 Gg f (fun w=>aDu) ⟨rfl,rfl⟩
def Yo (k:IntKind) (x:Int):Int:=EP .xor k (if k.signed then -1 else k.max) x
def adS {t:TypeId} {x:Operand} {k:IntKind} {u:Int} (f:o.op=.unOp .xor t x):Bq P o [(x,.d (.lit (.int k u)))] es (.d (.lit (.int k (Yo k u)))) es:=
 aKE f (fun w=>by simp[Op.unary,Op.intBits,Yo,EP])
def OX (op:BinOp) (k:IntKind) (x y:Int):Option Int:=
 if y<0 then none else some (match op with | .shl=>k.wrap (x*2^(min y.toNat k.bits))|_=>x.fdiv (2^(min y.toNat k.bits)))
def aBL {t t':TypeId} {x y:Operand} {k k':IntKind} {u v r:Int} (h:OX .shl k u v=some r) (f:o.op=.binOp .shl t x y t'):Bq P o [(x,.d (.lit (.int k u))),(y,.d (.lit (.int k' v)))] es (.d (.lit (.int k r))) es:=by
 unfold OX at h;split at h
 ·cases h
 rename_i j;obtain rfl:=Cm h;exact Gg f (fun w=>by simp[binOp,Op.shift,j]) ⟨rfl,rfl⟩
def abW {t t':TypeId} {x y:Operand} {k k':IntKind} {u v r:Int} (h:OX .shr k u v=some r) (f:o.op=.binOp .shr t x y t'):Bq P o [(x,.d (.lit (.int k u))),(y,.d (.lit (.int k' v)))] es (.d (.lit (.int k r))) es:=by
 unfold OX at h;split at h
 ·cases h
 rename_i j;obtain rfl:=Cm h;exact Gg f (fun w=>by simp[binOp,Op.shift,j]) ⟨rfl,rfl⟩
def sB (k:IntKind) (a b:Int):Option Int:=if b=0 then none else some (k.wrap (a.tdiv b))
def Vj (a b:Int):Option Int:=if b=0 then none else some (a.tmod b)
def ajb {t t':TypeId} {x y:Operand} {k:IntKind} {u v r:Int} (h:sB k u v=some r) (f:o.op=.binOp .quo t x y t'):Bq P o [(x,.d (.lit (.int k u))),(y,.d (.lit (.int k v)))] es (.d (.lit (.int k r))) es:=by
 unfold sB at h;split at h
 ·cases h
 rename_i j;obtain rfl:=Cm h;exact Gg f (fun w=>by simp[binOp,Op.intDiv,j]) ⟨rfl,rfl⟩
def aI1 {t t':TypeId} {x y:Operand} {k:IntKind} {u v r:Int} (h:Vj u v=some r) (f:o.op=.binOp .rem t x y t'):Bq P o [(x,.d (.lit (.int k u))),(y,.d (.lit (.int k v)))] es (.d (.lit (.int k r))) es:=by
 unfold Vj at h;split at h
 ·cases h
 rename_i j;obtain rfl:=Cm h;exact Gg f (fun w=>by simp[binOp,Op.intDiv,j]) ⟨rfl,rfl⟩
end
section
variable {P : Program} {o : Oper} {es : List BQ} {α : Type}
def aR8 {ok:Nat→Prop} {w:World} {H:List Bo} {h:Bo} {e size k i off:Nat} {xs:List D} {v:Value} (M:H[k]? =some h) (q:Em ok w H h (.arr e size xs)) (hi:i<xs.length) (O:R ok w H (.lK k i off) v):
 ∃g cap f ys,h.v=.slice (some ⟨g,0,none⟩) xs.length cap∧w.heap[g]? =some (.cells f e (0,0))∧xs.length≤cap∧cap≤maxLen∧xs.length*size≤f.size∧cap*size≤f.size∧f.toList.take (xs.length*size)=ys∧ys.length=xs.length*size∧FZ ok w H (flat xs) ys∧(∀x∈xs,x.cells.length=size)∧v=.pointer (some ⟨g,i*size+off,none⟩):=by
 obtain⟨I,S,ys,⟨U,Y⟩,Z⟩:=q;rcases Y with⟨m,h7⟩|⟨g,cap,f,m,h7,h8,J,u,j,z⟩
 ·omega
 refine⟨g,cap,f,ys,m,h8,J,u,Ej (Ja _ J) j,j,z,U,Z,S,?_⟩;cases O with
 |lK _ _ _ b n c s L=>
  rw[M]at L;obtain rfl:=Cm L;simp only[iU,LJ,Addr.mk.injEq]at m;simp only at I;rw[m.1.1,I]
def acu {size n i j:Nat} (hi:i<n) (f:j<size):i*size+j<n*size:=
 calc i*size+j<i*size+size:=AA
  _=(i+1)*size:=by rw[Ty]
  _≤n*size:=Ja _ hi
def J7 {x:Operand} {t:TypeId} {agg:Bool} {k n i off e size:Nat} {y:D} (enc:α→D) {l:List α} {a:α} (hy:y=Ot agg (enc a).cells off n) (hk:es[k]? =some (.arr e size (List.map enc l))) (ha:l[i]? =some a) (hT:EC P t agg n) (hn:off+n≤(enc a).cells.length) (h1:agg=false→n=1)
 (ho:o.op=.load t x):Bq P o [(x,.lK k i off)] es (.d y) es:=
 .pure fun ok H ac w J hl O=>by
  have hx:=Ju O;simp only at hx;subst hy;obtain⟨h,hh,S⟩:=G7 J hl hk;obtain⟨u,L⟩:=FV.1 ha;have f:i<(List.map enc l).length:=Rh
  obtain⟨g,cap,m,ys,e1,e2,e3,e4,e5,e5',e6,e7,e8,U,Y⟩:=aR8 hh S f hx;have z:(List.map enc l).getD i Dp=enc a:=by simp[List.getD,u,L]
  have hsz:(enc a).cells.length=size:=by
   refine U _ ?_;exact Fh.2 ⟨a,by rw[←L];exact ET u,rfl⟩
  have Z:=RS U
  have q:∀j,j<size→w.cell? ⟨g,i*size+j,none⟩=some (ys.getD (i*size+j) undef):=by
   intro j I;have s:=acu f I;have hcur:(List.map enc l).length*size≤m.size:=e5;have h15:i*size+j<m.size:=AA
   have e11:ys.getD (i*size+j) undef=m[i*size+j]'(h15):=by
    rw[←e6];have h14:i*size+j<l.length*size:=P6
    simp[List.getD,NI h14,show i*size+j<m.size by omega]
   rw[e11];simp[World.cell?,e2,show i*size+j<m.size by omega]
  have M:∀j,j<size→((enc a).cells.getD j Dp).leaf=true∧Du ok w ((enc a).cells.getD j Dp) (ys.getD (i*size+j) undef):=by
   intro j I;have s:=e8.2 (i*size+j) (by rw[Z];exact acu f I);rw[flat_get U i j f I,z]at s;refine⟨s.1,?_⟩;cases s.2 with |d _ _ h=>exact h
  obtain⟨v,hr,hD⟩:=aE7 (ok:=ok) (w:=w) (b:=g) (p:=i*size) (cs:=(enc a).cells) hT hn h1 (fun j I=>(M j AA).1) (fun j I=>by rw[q j AA];rfl) (fun j I=>by unfold cellAt;rw[q j AA];exact(M j AA).2);exact⟨v,by simp only[execOp,ho,Y,F7,hr,FI,Fr],.d _ _ hD⟩
def Y6 {t:TypeId} {x y:Operand} {k i off n e size:Nat} (enc:α→D) {l:List α} {a a':α} {v:Ag} (hk:es[k]? =some (.arr e size (List.map enc l))) (ha:l[i]? =some a) (hl:v.cells.all Ag.leaf=true) (hs:∀w,(sizeOf t).run P w=.ok n w) (hn:v.cells.length=n)
 (hle:off+n≤(enc a).cells.length) (hset:(enc a').cells.map Ag.d=setAt ((enc a).cells.map Ag.d) off v.cells) (hc:∀b,(enc b).cells.length=size) (ho:o.op=.store t x y):
 Bq P o [(x,.lK k i off),(y,v)] es .junk (es.set k (.arr e size (List.map enc (l.set i a')))):=
 .eff fun C ok H s w hm hn'=>by
  have h1:=(Ee hn').1;have h2:=(Ee hn').2;simp only at h1 h2;obtain⟨h,hh,hok⟩:=G7 hm.ent hm.hlen hk;obtain⟨M,hia⟩:=FV.1 ha;have aEG:i<(List.map enc l).length:=by simpa using M
  have hok1:=hok.1;obtain⟨g,cap,f,ys,e1,e2,e3,e4,e5,e5',e6,e7,e8,e9,e10⟩:=aR8 hh hok aEG h1;have m:=h2.ajj hl;have hll:(List.map enc l).length=l.length:=BU
  rw[hll]at e1 e3 e6 e7;have hea:(enc a).cells.length=size:=hc a;have O:(s.eval y).cells.toList.length=n:=by rw[m.1,hn]
  have hsz:(s.eval y).cells.size=n:=aBO
  have hcur:l.length*size≤f.size:=by simpa using e5
  have hend:i*size+off+n≤l.length*size:=by
   have :(i+1)*size≤l.length*size:=Ja _ M;rw[Ty]at this;omega
  have hst:=aNP (P:=P) g (i*size+off) e (s.eval y).cells.toList 0 f w e2 (by rw[O];omega) (fun u hu=>by
   obtain⟨j,z,rfl⟩:=Ii hu;have h5:=m.2 j (by rw[←m.1];exact z);have :=h5.2.leaf h5.1
   rwa [aDD z]at this)
  simp only[OE]at hst;have J:∀(q:List α),∀y∈q.map enc,y.cells.length=size:=fun q y hy=>aOS
  obtain⟨h3,h4⟩:=hm.upd (e:=.arr e size (List.map enc (l.set i a'))) (w':=w.setRow g (f.toList.take (i*size+off)++(s.eval y).cells.toList++f.toList.drop (i*size+off+(s.eval y).cells.toList.length)).toArray) hk rfl hh (by rw[e1];rfl) rfl rfl rfl aOI (fun c hc=>aIu _ _ _ _ hc) (fun hg'=>by
   have esz:(setAt f.toList (i*size+off) (s.eval y).cells.toList).length=f.toList.length:=Rs (by have :=f.length_toList;omega);refine⟨hok1,J _,setAt ys (i*size+off) (s.eval y).cells.toList,⟨?_,.inr ⟨g,cap,_,by simp;exact e1,EY _,xY w g f _ e (0,0) e2,by simpa using e3,e4,?_,?_⟩⟩,?_⟩
   ·rw[Rs AA];simpa using e7
   ·have h9:(setAt f.toList (i*size+off) (s.eval y).cells.toList).toArray.size=f.size:=by rw[iW,esz];simp
    show _≤(setAt f.toList (i*size+off) (s.eval y).cells.toList).toArray.size;rw[h9];exact e5'
   ·rw[aBG];show(setAt f.toList (i*size+off) (s.eval y).cells.toList).take _=_;rw[←e6];have Z:(List.map enc (l.set i a')).length=l.length:=BU
    rw[Z];apply jg;intro j;have hcl:=f.length_toList;by_cases z:j<l.length*size
    ·have a1:((setAt f.toList (i*size+off) (s.eval y).cells.toList).take (l.length*size))[j]? =some ((setAt f.toList (i*size+off) (s.eval y).cells.toList).getD j undef):=by
      rw[NI z];simp[List.getD,show j<(setAt f.toList (i*size+off) (s.eval y).cells.toList).length by rw[esz];omega]
     have tl:(f.toList.take (l.length*size)).length=l.length*size:=Dy
     have sl:(setAt (f.toList.take (l.length*size)) (i*size+off) (s.eval y).cells.toList).length=l.length*size:=by rw[Rs AA,tl]
     have a2:(setAt (f.toList.take (l.length*size)) (i*size+off) (s.eval y).cells.toList)[j]? =some ((setAt (f.toList.take (l.length*size)) (i*size+off) (s.eval y).cells.toList).getD j undef):=by
      simp[List.getD,show j<(setAt (f.toList.take (l.length*size)) (i*size+off) (s.eval y).cells.toList).length by omega]
     rw[a1,a2,XP AA,XP AA];congr 1;split
     ·rfl
     simp[List.getD,NI z]
    have tl:(f.toList.take (l.length*size)).length=l.length*size:=Dy
    have sl:(setAt (f.toList.take (l.length*size)) (i*size+off) (s.eval y).cells.toList).length=l.length*size:=by rw[Rs AA,tl]
    rw[II Dy,II AA]
   have hb:=e8.mono hg' (Names.refl H);have hcr:=m.mono hg' (Names.refl H);have hfl:=RS (J l);have S:=RS (J (l.set i a'));refine⟨by rw[Rs AA,e7,S];simp,fun j z=>?_⟩;rw[S]at z;simp only[D6,iJ]at z
   have U:0<size:=by
    rcases YD size with h0|h0
    ·rw[h0,Nat.mul_zero]at z;omega
    exact h0
   have e0:j=j/size*size+j % size:=by rw[TV];exact(yT j size).symm
   have hq:j/size<l.length:=wo (by rwa [TV]at z);have hr:j % size<size:=kD _ U
   have Y:j/size=i↔i*size≤j∧j<i*size+size:=by
    rw[Nat.div_eq_iff U,TV];omega
   rw[O]at hb hcr;generalize j/size=qd at e0 hq Y;generalize j % size=I at e0 hr;have hg3:=flat_get (J (l.set i a')) qd I (by simpa using hq) hr;rw[←e0]at hg3;have hg1:=flat_get (J l) qd I (by simpa using hq) hr;rw[←e0]at hg1;rw[hg3,XP AA,O];by_cases L:qd=i
   ·have hnew:(List.map enc (l.set i a')).getD (qd) Dp=enc a':=by rw[L];simp[List.getD,M]
    have hold:(List.map enc l).getD (qd) Dp=enc a:=by rw[L];simp[List.getD,M,hia]
    rw[hnew];have aFw:(enc a').cells.length=size:=hc a'
    have e11:Ag.d ((enc a').cells.getD (I) Dp)=(setAt ((enc a).cells.map Ag.d) off v.cells).getD (I) .junk:=by
     rw[←hset];simp[List.getD,show I<(enc a').cells.length by omega]
    rw[e11,XP (by rw[D6,hn];exact hle),hn];have hji:j=i*size+I:=by rw[←L];exact e0
    by_cases hin:off≤I∧I<off+n
    ·rw[D7 hin,D7 AA];have :j-(i*size+off)=I-off:=AA
     rw[this];exact hcr.2 _ AA
    rw[DF hin,DF AA];have e12:((enc a).cells.map Ag.d).getD (I) .junk=.d ((enc a).cells.getD (I) Dp):=by simp[List.getD,show I<(enc a).cells.length by omega]
    rw[e12,←hold,←hg1];exact hb.2 j (by rw[hfl];simpa using z)
   have hsame:(List.map enc (l.set i a')).getD (qd) Dp=(List.map enc l).getD (qd) Dp:=by
    simp[List.getD,WY (Ne.symm L)]
   have hnot:¬(i*size+off≤j∧j<i*size+off+n):=by
    rintro⟨ha1,ha2⟩;exact L (Y.2 ⟨AA,AA⟩)
   rw[DF hnot,hsame,←hg1]
   exact hb.2 j (by rw[hfl];simpa using z))
  refine⟨undef,_,ok,H,.inr ⟨rfl,?_⟩,h4,.refl _,h3,.junk _⟩;simp only[execOp,ho,e10,Instr.storeAt,Instr.sureAddr,storeVar,F7,Fr,FI,hs,hsz,ne_eq,not_true_eq_false,Jg,hst]
end
def Ag.Ui (k:Nat) (cs:List D):Ag→Ag
 | .ptr j off=>if j=k then .d (.ref cs off)else .ptr j off
 |x=>x
def BL.Ui (σ:BL) (k:Nat) (cs:List D):BL:=⟨σ.slots.map (Ag.Ui k cs),σ.ents.set k .dead,σ.base⟩
def U4 {σ:BL} (k:Nat) {cs:List Ag} (Z:σ.ents[k]? =some (.box cs)) (hd:cs.all Ag.Ah=true):∀C ok H a w,Holds C ok H σ a w→∃ok',Holds C ok' H (σ.Ui k (Iq cs)) a w:=by
 intro C ok H a w f;obtain⟨h,J,hok⟩:=G7 f.mem.ent f.mem.hlen Z;have q:k<σ.ents.length:=(FV.1 Z).1;obtain⟨b0,L,hf,hx,hc⟩:=aNS hok hd
 let ok':Nat→Prop:=fun b=>ok b∨DX h.v=some b
 have I:=fun b m=>f.mem.blk k _ h b Z rfl J m;have hg:EO ok w ok' w:=fun b m=>⟨.inl m,rfl⟩
 refine⟨ok',⟨f.mem.fr,fun b m=>.inl (f.mem.yA b m),?_,?_,f.mem.names,by simp[BL.Ui,f.mem.hlen],?_,?_,?_⟩,by simp[BL.Ui,f.size],f.defers.mono hg,f.base,?_⟩
 ·rintro b (m|m)
  ·exact f.mem.yB b m
  exact .inr (I b m).2.2
 ·rintro b (m|m)
  ·exact f.mem.kL b m
  exact(I b m).2.1
 ·intro j e' h' he u;rcases Ls q he with⟨rfl,rfl⟩|⟨_,z⟩
  ·trivial
  exact(f.mem.ent j e' h' z u).mono hg (.refl _) (fun _ _ _=>rfl)
 ·intro j e' h' b he hl u m;rcases Ls q he with⟨rfl,rfl⟩|⟨hne,z⟩
  ·cases hl
  have h3:=f.mem.blk j e' h' b z hl u m;refine⟨fun n=>?_,h3.2⟩;rcases n with n|n
  ·exact h3.1 n
  exact hne (f.mem.EJ j k e' _ h' h b z Z hl rfl u J m n)
 ·intro i j e1 e2 h1 h2 b he1 he2 M O hh1 hh2 hb1 hb2;rcases Ls q he1 with⟨rfl,rfl⟩|⟨_,S⟩
  ·cases M
  rcases Ls q he2 with⟨rfl,rfl⟩|⟨_,U⟩
  ·cases O
  exact f.mem.EJ i j e1 e2 h1 h2 b S U M O hh1 hh2 hb1 hb2
 intro t ht;simp only[BL.Ui,D6]at ht
 have e1:(σ.Ui k (Iq cs)).slots.getD t .junk=(σ.slots.getD t .junk).Ui k (Iq cs):=by
  simp only[BL.Ui];exact UJ _ _ _ ht
 rw[e1];have Y:=(f.slot t ht).mono hg (Names.refl H);generalize σ.slots.getD t .junk=x at Y ⊢;generalize a.tmps.getD t undef=v at Y ⊢;cases x with
 |ptr j off=>
  simp only[Ag.Ui];split
  ·rename_i hj;subst hj;cases Y with
   |ptr _ _ b s hH=>
    rw[J]at hH;obtain rfl:=Cm hH;simp at L;subst L;have :=Du.ref (ok:=ok') (w:=w) (Iq cs) off b 0 (fun _=>.inr rfl) hf hx (fun j hj=>(hc j hj).mono hg);rw[J4]at this;exact .d _ _ this
  exact Y
 |_=>exact Y
section
variable {P : Program} {o : Oper} {es : List BQ} {α β γ : Type}
def vW {ok:Nat→Prop} {w:World} {H:List Bo} {a:Act}:∀{xs:List Operand} {vs:List Ag},xs.length=vs.length→(∀n∈F5 xs vs,R ok w H n.2 (a.eval n.1))→∀i,i<vs.length→R ok w H (vs.getD i .junk) ((xs.map a.eval).getD i undef)
 | [],[],_,_,i,hi=>Ns
 | [],_::_,h,_,_,_=>Hl
 |_::_,[],h,_,_,_=>Hl
 |x::xs,v::vs,h,f,0,_=>by simpa using f (x,v) (by simp[F5])
 |x::xs,v::vs,h,f,i+1,hi=>by
  have :=vW JB (fun n j=>f n (by simp[F5,j])) i Fj;simpa using this
def Vh {fn:Fn} {f:Array Operand} (j:List D) (m:f.toList.length=j.length) (s:o.op=.makeFunc fn #[] f):Bq P o (F5 f.toList (j.map .d)) es (.d (.fn fn [] j)) es:=
 .pure fun ok H a w _ _ u=>by
  refine⟨.func fn #[] (f.map a.eval),by simp[execOp,s,Instr.makeFunc],.d _ _ (.fn fn [] j #[] _ rfl Zn (fun i hi=>Ns) (fun i hi=>?_))⟩;have q:=vW (xs:=f.toList) (vs:=j.map .d) Zn u i Fj;have z:(j.map Ag.d).getD i .junk=.d (j.getD i Dp):=Le
  have n:i<f.size:=by have :f.size=j.length:=Zn
                      omega
  have I:(f.toList.map a.eval).getD i undef=(f.map a.eval).getD i undef:=by simp[List.getD,Array.getD,n]
  rw[z,I]at q;cases q with |d _ _ h=>exact h
def aeI {f:FuncId} {C:EI} {ok:Nat→Prop} {H:List Bo} {w:World} (I:D5 C ok H es w) {q:List D} {n:Ag} (S:Ap P f (q.map .d) [] n []) (m:Array Value) (U:m.size=q.length) (L:∀i,i<q.length→Du ok w (q.getD i Dp) (m.getD i undef)) (u:n.up [] es.length=n):
 Calls P f m w fun e w'=>∃v ok' H',e=.returned v∧EO ok w ok' w'∧Names H H'∧D5 C ok' H' es w'∧R ok' w' H' n v:=by
 have M:D5 ⟨w,ok,[],[]⟩ ok [] [] w:=
  ⟨.refl _ _,fun _ h=>h,fun _ h=>.inl h,I.kL,.refl _,rfl,fun k e h s _=>mW,fun k e h b s=>mW,fun k k' e e' h h' b s=>mW⟩
 refine(S ok [] [] w m M oM (fun i hi=>?_)).mono ?_
 ·have z:i<q.length:=Fj
  have Y:(q.map Ag.d).getD i .junk=.d (q.getD i Dp):=by simp[List.getD,z]
  rw[Y];exact .d _ _ (L i z)
 rintro e w' ⟨v,ok',H',rfl,j,Z⟩;have O:H'=[]:=Gt j.hlen
 obtain⟨h1,h2⟩:=I.change (ok':=ok') (H':=H) (es':=es) (w':=w') (fun _=>False) j.fr.os j.fr.tape j.fr.output j.fr.size (fun b J _=>j.fr.block b J BU) (fun _ h=>h.elim) j.yA (fun b J=>by
  rcases j.yB b J with h|h|h
  ·exact .inl h
  ·exact .inr ⟨h,j.kL b J⟩
  simp at h) (.refl _) I.hlen (fun k e h s hh=>.inl ⟨s,hh,fun _ _ _ h=>h⟩)
 refine⟨v,ok',H,rfl,h2,.refl _,h1,?_⟩;have :=adz (srcs:=[]) (H:=H) (Hc:=[]) (H':=H') rfl (fun i k h=>Hl) (fun k v L=>by simp at L) Z;rw[I.hlen,u,O]at this;simpa using this
def adW {f:FuncId} {x:Operand} {ops:Array Operand} {ats:Array TypeId} (j cs:List D) {m:Ag} (hr:Ap P f ((j++cs).map .d) [] m []) (hf:Dt P f=true) (Z:ops.toList.length=j.length) (z:m.up [] es.length=m)
 (ho:o.op=.call { callee:=.value x,args:=ops,argTypes:=ats }):Bq P o ((x,.d (.fn (.func f) [] cs))::F5 ops.toList (j.map .d)) es m es:=by
 intro C ok H a w Q hm hn;have L:=hn (x,.d (.fn (.func f) [] cs)) BU;simp only at L;have s:=vW (xs:=ops.toList) (vs:=j.map .d) kG (fun n M=>hn n (Hr _ M));generalize hv:a.eval x=v at L;cases L with
 |d _ _ h=>
  cases h with
  |fn _ _ _ vs us O S h1 h2=>
   have U:vs= #[]:=Zf aBO;subst U;unfold Oper.wp
   have he:(execOp a.eval o).run P w=.ok (.enter f ((ops.map a.eval)++us)) w:=by
    have :=TP hf (ops.map a.eval++us) w;simp[execOp,ho,resolve,hv,Deferred.ofValue,invoke,this]
   rw[he,Zm];have I:(ops.map a.eval).size=j.length:=kG
   refine(aeI hm hr _ (by simp[I,S]) (fun i hi=>?_) z).mono ?_
   ·by_cases q:i<j.length
    ·have J:=s i TY;have e1:(j.map Ag.d).getD i .junk=.d (j.getD i Dp):=aD1
     have u:i<ops.size:=aT9
     have e2:(ops.toList.map a.eval).getD i undef=(ops.map a.eval++us).getD i undef:=by
      simp[List.getD,Gu,Xi,u]
     have Y:(j++cs).getD i Dp=j.getD i Dp:=by simp[List.getD,GH q]
     rw[e1,e2]at J;rw[Y];cases J with |d _ _ h=>exact h
    have u:i-j.length<cs.length:=aMz
    have Y:(j++cs).getD i Dp=cs.getD (i-j.length) Dp:=by simp[List.getD,Jd (Tq q)]
    have e4:(ops.map a.eval++us).getD i undef=us.getD (i-j.length) undef:=by
     simp only[Gu];rw[aHi AA,I]
    rw[Y,e4];exact h2 _ u
   rintro e w' ⟨v,ok',H',rfl,J,h4,h5,h6⟩;exact⟨v,ok',H',rfl,J,h4,h5,h6⟩
def TS (P:Program) (h:α→D) (j:β→D) (d:D) (g:α→Option β):Prop:=∃f cs,d=.fn (.func f) [] cs∧Dt P f=true∧∀a b,g a=some b→Ap P f (([h a]++cs).map .d) [] (.d (j b)) []
def XG (P:Program) (h:α→D) (j:β→D) (m:γ→D) (d:D) (g:α→β→Option γ):Prop:=∃f cs,d=.fn (.func f) [] cs∧Dt P f=true∧∀a b c,g a b=some c→Ap P f (([h a,j b]++cs).map .d) [] (.d (m c)) []
def wZ {x y:Operand} {ats:Array TypeId} {j:α→D} {m:β→D} {d:D} {g:α→Option β} {a:α} {b:β} (hd:TS P j m d g) (h:g a=some b) (n:o.op=.call { callee:=.value x,args:= #[y],argTypes:=ats }):
 Bq P o [(x,.d d),(y,.d (j a))] es (.d (m b)) es:=by
 obtain⟨f,cs,rfl,q,s⟩:=hd;exact adW [j a] cs (s a b h) q rfl rfl n
def aG {x y z:Operand} {ats:Array TypeId} {j:α→D} {m:β→D} {n:γ→D} {d:D} {g:α→β→Option γ} {a:α} {b:β} {c:γ} (hd:XG P j m n d g) (h:g a b=some c) (q:o.op=.call { callee:=.value x,args:= #[y,z],argTypes:=ats }):
 Bq P o [(x,.d d),(y,.d (j a)),(z,.d (m b))] es (.d (n c)) es:=by
 obtain⟨f,cs,rfl,s,u⟩:=hd;exact adW [j a,m b] cs (u a b c h) s rfl rfl q
end
end Go.Proofs.YtolgdkhlelfpoaaGreat
end
