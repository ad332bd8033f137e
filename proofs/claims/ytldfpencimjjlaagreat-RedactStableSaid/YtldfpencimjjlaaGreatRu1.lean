/- Part 1 of what the laws' proofs lean on: states of the walk, typed functions of the program and their laws (short forms written by wip/shrink.py; no condition). -/
import Derived.Test.YtldfpencimjjlaaGreatRows
import Derived.WalkKit
import Derived.WalkSpells
import Derived.WalkLawsBesides
import Derived.Lib.Hide
import Derived.Laws.AppendOwnNone
import Derived.Laws.CopyOwn
import Derived.Lib.AppendStr
import Derived.Laws.IdiomStrings
import Derived.Laws.BitsAllLaws
import Derived.OrdersIn
import Derived.ControlIn
import Derived.TacticsIn
import Derived.ArgAppend
import Derived.RangeFuncLeaves
import Derived.RangeFuncRecord
import Derived.Laws.StructEq
import Derived.Laws.BytesString
import Derived.Lib.OwnBridge
import Derived.Sort.OwnSortedInts
import Derived.Lib.SliceRun
import Derived.ProofKit
import Derived.Deep.Slices
import Derived.Lib.SlicesCompact
import Derived.Test.YtldfpencimjjlaaGreatProg
import Derived.Shelf.Small.Bits
import Derived.Shelf.Small.Strs
import Derived.Shelf.Small.Wraps
import Derived.Shelf.Strconv.Itoa0
import Derived.Shelf.Strings.Search1
import Derived.Shelf.Strings.Search2
import Derived.Shelf.Strings.Cut
import Derived.Shelf.LaysM
import Derived.Shelf.Strings.Shaped
import Derived.Shelf.Sort.Plain
import Derived.Shelf.Slices.Turned
import Derived.Ground.Names2Prog
import Derived.Shelf.Slices.Clone
import Derived.Shelf.Slices.CompactI
import Derived.Shelf.Slices.SearchI
import Derived.Shelf.Slices.Cells
import Derived.Shelf.Slices.In.SortNone
import Derived.Shelf.Slices.Empties
import Derived.Ground.SlgnProg
import Derived.Shelf.SlicesE.Clone
import Derived.RangeFuncIn
import Derived.Scope
import Derived.Tactics
import Derived.Tactics2
import Derived.Defers
import Derived.Recover
import Derived.Laws.Pointers
import Derived.Shelf.SlLaysF0
import Derived.Shelf.SlSortCmp.NoneTotal
import Derived.Laws.IdiomRangeMap
import Derived.Laws.Small
import Derived.Laws.IdiomCopy
import Derived.Lib.Overlaps
import Derived.Lib.AppendZerosOnto
import Derived.Shelf.Spec.SlicesInsertGrow
import Derived.Laws.Bits64
import Derived.Lib.Bytealg
set_option linter.defProp false
set_option linter.unnecessarySimpa false
set_option linter.unusedVariables false
set_option linter.unusedSimpArgs false
namespace Go.Proofs.YtldfpencimjjlaaGreat
open Go.RowKit
def AQ:=@Option.bind_some
def Aj:=@cond_false
def Au:=@cond_true
def D9:=@List.getElem?_eq_getElem
def CM:=@List.length_map
def EG:=@List.length_append
def CO:=@Option.some.inj
def CW:=@Bool.and_eq_true
def BI:=@congrArg
def Nq:=@List.length_singleton
def DT:=@List.all_eq_true
def Df:=@List.getElem_mem
def Fb:=@List.getElem?_eq_some_iff
def Gg:=@List.eq_nil_of_length_eq_zero
def EF:=@Go.Proofs.Tryz.underlying3
def G6:=@Array.getElem?_eq_some_iff
def Gj:=@List.getElem?_append_left
def Dz:=@Bool.not_true
def Ep:=@List.mem_cons_self
def H8:=@Array.getD_eq_getD_getElem?
def FW:=@List.mem_cons_of_mem
def EY:=@List.mem_filter
def Ee:=@List.mem_map
def FY:=@List.length_take
def Dk:=@Nat.le_refl
def Ez:=@List.not_mem_nil
def GV:=@Nat.le_of_ble_eq_true
def Et:=@List.foldl_cons
def FU:=@Go.Result.andThen_ok
def Fa:=@List.length_cons
def FX:=@Go.Proofs.Tryz.underlying35
def Ei:=@List.mem_cons
def GI:=@List.take_length
def GZ:=@List.getElem_of_mem
def CV:=@if_pos
def I7:=@List.getElem?_eq_none
def KD:=@Array.getElem?_setIfInBounds_ne
def Eh:=@Nat.le_trans
def G8:=@decide_eq_true_eq
def O9:=@Nat.add_assoc
def EZ:=@Nat.zero_le
def Ic:=@List.length_filter_le
def Fv:=@List.any_eq_true
def Cc:=@if_neg
def Jd:=@List.getElem?_append_right
def Gu:=@List.mem_singleton
def Qm:=@Nat.add_comm
def Jq:=@List.pairwise_iff_getElem
def Hr:=@List.append_assoc
def FD:=@Go.Sem.run_bind
def GU:=@List.mem_append
def Fe:=@Bool.true_and
def H9:=@Go.Proofs.Tryz.underlying9
def II:=@Go.Proofs.Tryz.underlying29
def LG:=@List.drop_eq_getElem_cons
def IV:=@List.nil_append
def Ot:=@List.take_succ_eq_append_getElem
def Ik:=@Go.Proofs.Tryz.underlying31
def IC:=@decide_eq_false
def GK:=@Go.Sem.run_pure
def Js:=@Nat.mul_le_mul_right
def IW:=@Option.map_some
def Md:=@List.length_nil
def QW:=@Array.all_eq_true_iff_forall_mem
def Jg:=@of_decide_eq_false
def JC:=@List.getElem?_map
def Na:=@List.getElem?_take_of_lt
def IU:=@Bool.not_false
def IJ:=@decide_eq_true
def JU:=@List.map_append
def Jk:=@Go.RowKit.Below.heap_alloc
def KE:=@beq_self_eq_true
def Ig:=@List.map_cons
abbrev Ag:=IntKind.i64.wrap
def aA (n:Int):Ag n=(n+9223372036854775808)%18446744073709551616-9223372036854775808:=Go.IntKind.wrap_i64 n
def Ll:=@Option.some.injEq
def KX:=@Bool.not_eq_true
def Kw:=@List.length_drop
def Jy:=@List.nodup_cons
def Ol:=@Array.getElem?_modify
def KG:=@Bool.eq_iff_iff
def PS:=@Go.MapKept.run_getObj_map
def Ln:=@bne_self_eq_false
def SV:=@List.mem_of_find?_eq_some
def NJ:=@List.flatMap_cons
def JI:=@Nat.zero_add
def MW:=@List.getElem_map
def QN:=@List.take_of_length_le
def OV:=@List.filterMap_cons
def NP:=@Option.getD_some
def OU:=@List.pairwise_cons
def QB:=@List.filter_sublist
def TY:=@Option.isSome_iff_exists
def Kr:=@Bool.or_false
def Pj:=@List.filter_append
def Pq:=@List.getElem?_drop
def KP:=@Bool.or_true
def Om:=@List.drop_length
def Ou:=@Go.Proofs.Tryz.underlying4
def ML:=@Bool.false_or
def QL:=@Option.toList_some
def Vq:=@Classical.byContradiction
def P6:=@List.append_nil
def QE:=@of_decide_eq_true
def Ux:=@Option.map_eq_some_iff
def Rh:=@Bool.false_eq_true
def dG:=@Array.eq_empty_of_size_eq_zero
def TM:=@Array.length_toList
def Ny:=@Bool.and_true
def Sl:=@Bool.not_eq_true'
def YJ:=@List.getElem?_set_ne
def U5:=@List.mem_filterMap
def WI:=@Go.World.putObj_heap_same
def JE:=@if_false
def SA:=@List.filter_cons
def Tm:=@List.findIdx_cons
def Tc:=@List.take_add_one
def XR:=@Go.World.putObj_heap_other
def XC:=@decide_eq_false_iff_not
def Qh:=@Go.Oper.wpIn_mono
def dc:=@Array.getElem?_append_left
def WL:=@List.mem_of_getElem?
def SB:=@List.find?_cons
def TW:=@List.mem_flatMap
def WM:=@List.map_congr_left
def V7:=@List.foldl_append
def Xx:=@List.take_append_drop
def PG:=@Nat.add_zero
def WG:=@Nat.lt_of_lt_of_le
def JZ:=@if_true
def Uk:=@Nat.le_of_not_lt
def UJ:=@List.foldlM_cons
def Ru:=@Prod.mk.injEq
def rO:=@List.takeWhile_append_dropWhile
def Zb:=@List.filter_eq_nil_iff
def X4:=@Go.Proofs.Tryz.underlying22
def Ve:=@Go.Proofs.Tryz.underlying68
def Vf:=@Go.Proofs.Tryz.underlying97
def X3:=@Go.Proofs.Tryz.underlying33
def Xb:=@beq_eq_false_iff_ne
def bG:=@List.filterMap_append
def YB:=@Nat.eq_zero_or_pos
def X5:=@List.cons_append
def Q5:=@beq_iff_eq
def aS:=@List.pairwise_append
def Po:=@Go.wpS_region
def jE:=@Option.bind_eq_some_iff
def Z5:=@Go.Proofs.Tryz.underlying24
def Z9:=@Int.toNat_natCast
def WW:=@Go.run_equalIn_int
def uU:=@List.getD_eq_getElem?_getD
def YE:=@Nat.lt_succ_self
def lJ:=@Array.toArray_toList
def XT:=@Bool.or_eq_true
def UK:=@Nat.succ_mul
def UZ:=@Nat.mul_comm
def ig:=@List.mem_of_mem_take
def gV:=@Go.World.alloc_heap_new
def iM:=@Bool.or_eq_false_iff
def kC:=@List.mem_append_left
def ZB:=@List.ext_getElem?
def bn:=@List.filter_congr
def YV:=@List.nodup_nil
def uG:=@List.findIdx_lt_length
def sK:=@Array.getElem?_toList
def bW:=@Go.Oper.upon_enter
def ZK:=@Go.Proofs.Tryz.zeroValue3
def Ym:=@List.map_take
def Yn:=@List.any_cons
def aDR:=@List.nodup_iff_pairwise_ne
def kS:=@Go.Value.slice.injEq
def kD:=@List.size_toArray
def l9:=@Function.comp_def
def lK:=@List.nodup_append
def iQ:=@Go.Proofs.Tryz.underlying23
def jA:=@Go.Proofs.Tryz.underlying25
def nS:=@Nat.div_lt_of_lt_mul
def aA2:=@Array.getElem?_eq_getElem
def aJK:=@List.set_eq_take_append_cons_drop
def dA:=@Go.heap_alloc_new
def PW:=@Go.wpS_seq
def bI:=@Go.wp_region_list
def jR:=@List.ext_getElem
def iW:=@Go.IntKind.wrap_u64
def xY:=@List.length_pos_iff
def ug:=@List.filter_eq_self
def zQ:=@List.getElem?_cons_succ
def cG:=@List.map_drop
def oZ:=@List.getElem?_take
def eS:=@List.length_set
def Uc:=@Go.wpIn_mono
def kE:=@Go.Proofs.Tryz.zeroValue4
def nU:=@Array.ext_getElem?
def jP:=@beq_false_of_ne
def dn:=@List.find?_some
def iq:=@Go.IntKind.wrap_u8
def Xn:=@Nat.add_mul
def aBm:=@List.drop_of_length_le
def aG8:=@List.findIdx_le_length
def yQ:=@Nat.lt_trichotomy
def vZ:=@List.getElem_take
def oM:=@List.find?_append
def aT:=@Nat.le_of_eq
def aI:=@List.map_map
def aj:=@Go.Proofs.Tryz.sizeOf3
def aPT:=@Array.getElem?_setIfInBounds
def ak:=@Nat.lt_or_ge
def aBg:=@List.mem_append_right
def aHy:=@Array.getElem?_append_right
def rH:=@Go.Proofs.Tryz.underlying5
def oL:=@decide_eq_decide
def aP1:=@Array.toList_setIfInBounds
def iC:=@Go.Oper.semAt_eq
def Zy:=@Go.Proofs.Tryz.isAgg3
def aBY:=@List.toList_toArray
def aOD:=@Array.mapM_eq_mapM_toList
def yL:=@Nat.min_eq_left
def sV:=@Go.Proofs.Tryz.zeroValue5
def vw:=@Go.Proofs.Tryz.zeroValue9
def oD:=@List.take_left'
def aN4:=@Go.returnsInHanded_of_change
def aKm:=@List.getElem_append_left
def kR:=@Go.Proofs.Tryz.sizeOf4
def aCP:=@Go.Proofs.Tryz.underlying118
def aDL:=@Go.Proofs.Tryz.underlying144
def kY:=@Go.Addr.add_lit
def aB9:=@List.find?_eq_none
def sS:=@List.mem_range
def vg:=@List.drop_zero
def aPR:=@Nat.exists_eq_add_of_le
def aNg:=@List.getElem?_replicate
def aIE:=@List.getElem?_cons_zero
def aNx:=@List.pairwise_singleton
def aOE:=@Go.OpenClaim.holds_of_wide
def aCN:=@Go.World.ownsRow_nil
def aCr:=@Go.Proofs.Tryz.zeroValue118
def aCk:=@Go.Proofs.Tryz.zeroValue144
def acH:=@List.findIdx?_eq_some_iff_getElem
def kF:=@Nat.mul_one
def aI2:=@List.dropWhile_sublist
def gY:=@Go.Proofs.Tryz.isAgg4
def aJw:=@ByteArray.size_extract
def aJC:=@List.length_pos_of_mem
def oC:=@List.all_cons
def aBs:=@List.perm_middle
def aGN:=@List.getElem_zip
def ZI:=@Array.ext
def aMK:=@Nat.eq_of_beq_eq_true
def aI1:=@Go.Lib.wpList_append_run
def aJ2:=@Bool.and_eq_false_iff
def aEp:=@Go.wpIn_region_any
def aGY:=@Nat.div_add_mod
def iT:=@Nat.mod_lt
def aNy:=@Array.ext'
def og:=@getElem!_pos
def uK:=@Go.Proofs.Tryz.sizeOf5
def oq:=@Go.Proofs.Tryz.sizeOf9
def aDS:=@List.cons.injEq
def aQZ:=@List.Nodup.length_le_of_subset
def aOv:=@List.mem_of_mem_drop
def aPV:=@List.findIdx_getElem
def xg:=@Bool.not_not
def aNo:=@Go.callsIn_of_wp_marks
def aMH:=@Go.Lib.strCells_length
def aJj:=@Array.getElem?_push
def aJ7:=@List.reverse_append
def aNH:=@Go.ChangeSpec.witness6
def aDu:=@Go.run_underlying
def aAn:=@List.take_zero
def aGH:=@Go.Proofs.Tryz.sizeOf118
def aEq:=@Go.Proofs.Tryz.sizeOf144
def aCJ:=@Nat.mul_le_mul
def oH:=@Go.setRow_heap
def sF:=@Go.Sem.run_map
def uD:=@Go.Proofs.Tryz.isAgg5
def nK:=@Go.Proofs.Tryz.isAgg9
def aQp:=@Nat.min_def
def aKA:=@Go.run_loadCells_list
def aKO:=@Int.natCast_nonneg
def aJf:=@Go.MapKept.heap_alloc
def aN3:=@Go.run_equalIn_string
def aNh:=@Nat.eq_or_lt_of_le
def aar:=@List.dropWhile_cons_of_pos
def aez:=@List.dropWhile_cons_of_neg
def aGT:=@Go.callsD_of_wpS
def aSP:=@Int.fdiv_eq_ediv_of_nonneg
def aRN:=@Int.tmod_eq_emod_of_nonneg
def aKP:=@Bool.not_eq_false
def aN0:=@Go.run_storeCells_at
def aGx:=@List.getElem?_set
def aIK:=@List.pairwise_map
def aI8:=@List.any_eq_false
def aUx:=@List.getElem_append_right
def abz:=@List.mem_take_iff_getElem
def aaZ:=@List.getElem?_zip_eq_some
def aT1:=@List.filterMap_eq_nil_iff
def aKX:=@Go.wpIn_region_list
def aGt:=@List.take_append
def kV:=@or_false
def aOp:=@Go.World.size_alloc
def zB:=@List.map_set
def kH:=@Go.wpS_cond
def aKB:=@List.map_reverse
def aLU:=@Nat.min_le_left
def aHW:=@List.any_append
def aCY:=@Nat.one_mul
def aOK:=@Int.le_refl
def aN8:=@List.take_left
def aPb:=@List.drop_drop
def aOW:=@List.take_take
end Go.Proofs.YtldfpencimjjlaaGreat
namespace Go.Proofs.YtldfpencimjjlaaGreat
open Go.RowKit
abbrev Bq:=Value.int .i64
end Go.Proofs.YtldfpencimjjlaaGreat
namespace Go.Proofs.YtldfpencimjjlaaGreat
open Go.RowKit
def A8 {p:Prop} (h:p:=by kernel_rfl):p:=h
def AA {p:Prop} (h:p:=by omega):p:=h
def Cj {p:Prop} (h:p:=by cases h;exact .ret (F5 [])):p:=h
def Ap {p:Prop} (h:p:=by simp):p:=h
def BJ {p:Prop} (h:p:=by decide):p:=h
def Dx {p:Prop} (h:p:=by cases h;kernel_rfl):p:=h
def FM {p:Prop} (h:p:=by simp only[Nq];omega):p:=h
def DU {p:Prop} (h:p:=by simp;omega):p:=h
def MR {p:Prop} (h:p:=by simpa using u):p:=h
def Fp {p:Prop} (h:p:=by simpa using hi):p:=h
def V8 {p:Prop} (h:p:=by have :=L (k+1) y (by simpa using u);simpa[O9,Qm 1 k]using this):p:=h
def Zr {p:Prop} (h:p:=by cases h;exact .ret (F5 [(0,true)])):p:=h
def Yd {p:Prop} (h:p:=by rw[←Cx h];exact⟨[],[(0,true)],trivial,by kernel_rfl,by kernel_rfl,by kernel_rfl⟩):p:=h
def Oc {p:Prop} (h:p:=by cases h;exact .ret (F5 [(2,true)])):p:=h
def Yv {p:Prop} (h:p:=by cases h;exact .ret (F5 [(0,true),(1,true),(2,true),(3,true)])):p:=h
def Nu {p:Prop} (h:p:=by decide+kernel):p:=h
def MG {p:Prop} (h:p:=by simp[List.getD,hi]):p:=h
def GL {p:Prop} (h:p:=by cases h):p:=h
def I8 {p:Prop} (h:p:=by simp at h):p:=h
def V5 {p:Prop} (h:p:=by cases h;exact .ret (F5 [(1,true)])):p:=h
def Jw {p:Prop} (h:p:=by rw[EG];omega):p:=h
def Jz {p:Prop} (h:p:=by simpa using h):p:=h
def aM2 {p:Prop} (h:p:=by unfold Func.isWrapper;first|(rw[CV (by decide+kernel)];kernel_rfl)|(rw[Cc (by decide+kernel)];exact⟨rfl,rfl⟩)):p:=h
def rZ {p:Prop} (h:p:=by have :=J (k+1) y (by simpa using u);simpa[O9,Qm 1 k]using this):p:=h
def qX {p:Prop} (h:p:=by have :=Y (k+1) y (by simpa using u);simpa[O9,Qm 1 k]using this):p:=h
def nN {p:Prop} (h:p:=by have :=hl (k+1) (by simpa using hk);simpa[O9,Qm 1 k]using this):p:=h
def nZ {p:Prop} (h:p:=by have :=M (k+1) y (by simpa using u);simpa[O9,Qm 1 k]using this):p:=h
def yT {p:Prop} (h:p:=by have :=Z (k+1) y (by simpa using u);simpa[O9,Qm 1 k]using this):p:=h
def MH {p:Prop} (h:p:=by simpa using hl):p:=h
def Uo {p:Prop} (h:p:=by simp only[EG,Nq];omega):p:=h
def TQ {p:Prop} (h:p:=by simp only[Md];omega):p:=h
def jQ {p:Prop} (h:p:=by have :Af=9223372036854775808:=rfl;omega):p:=h
def Me {p:Prop} (h:p:=by rw[hl];rfl):p:=h
def O7 {p:Prop} (h:p:=by simpa using j):p:=h
def Nz {p:Prop} (h:p:=by simpa using q):p:=h
def XJ {p:Prop} (h:p:=by obtain⟨a,_,rfl⟩:=Ee.1 hx;rfl):p:=h
def Sm {p:Prop} (h:p:=by intro hh;cases hh):p:=h
def pJ {p:Prop} (h:p:=by have :=hl (k+1);simpa[O9,Qm 1 k]using this):p:=h
def Yj {p:Prop} (h:p:=by first|exact q|kernel_rfl):p:=h
def aRd {p:Prop} (h:p:=by rw[←Cx h];exact⟨[],[(0,true),(1,true),(2,true),(3,true)],trivial,by kernel_rfl,by kernel_rfl,by kernel_rfl⟩):p:=h
def Td {p:Prop} (h:p:=by simp at I;omega):p:=h
def Qq {p:Prop} (h:p:=by simpa using I):p:=h
def mW {p:Prop} (h:p:=by simp[Act.eval,Array.replicate]):p:=h
def OE {p:Prop} (h:p:=by simp at hi):p:=h
def QX {p:Prop} (h:p:=by rw[aA];omega):p:=h
def RZ {p:Prop} (h:p:=by simpa using e):p:=h
def U2 {p:Prop} (h:p:=by rw[CM];omega):p:=h
def VW {p:Prop} (h:p:=by rw[IK]at h;exact h):p:=h
def Y1 {p:Prop} (h:p:=by rw[IK];exact aM6 hs):p:=h
def Pz {p:Prop} (h:p:=by rw[an0];rfl):p:=h
def U3 {p:Prop} (h:p:=by simpa using z):p:=h
def aDj {p:Prop} (h:p:=by have :=hinj j j' o o' t u ho' q hd';omega):p:=h
def s0 {p:Prop} (h:p:=by simpa using(hl 0 (by simp)).symm):p:=h
def Uu {p:Prop} (h:p:=by simpa using J):p:=h
def aDG {p:Prop} (h:p:=by simp[Array.getD,hil]at hf ⊢;exact hf):p:=h
def oP {p:Prop} (h:p:=by obtain⟨a,_,rfl⟩:=Ee.1 j;rfl):p:=h
def aQ4 {p:Prop} (h:p:=by rw[show((j+1:Nat):Int)-1=(j:Int) by omega];exact P8 (by omega) (by omega)):p:=h
def Qp {p:Prop} (h:p:=by simp[hi]):p:=h
def aKh {p:Prop} (h:p:=by rw[alloc_eq_grow,alloc_eq_grow,grow_grow];rfl):p:=h
def Tn {p:Prop} (h:p:=by simp[flat]):p:=h
def aJ5 {p:Prop} (h:p:=by by_cases h:(s.size:Int)>32<;>simp[h]<;>omega):p:=h
def aJ1 {p:Prop} (h:p:=by by_cases h:(s.size:Int)<1<;>simp[h]<;>omega):p:=h
def kX {p:Prop} (h:p:=by rw[ha,CM,FY];omega):p:=h
def Y0 {p:Prop} (h:p:=by simpa using m):p:=h
def aUE {p:Prop} (h:p:=by simpa using hk):p:=h
def aFB {p:Prop} (h:p:=by simp only[aQp];split<;>omega):p:=h
def kZ {p:Prop} (h:p:=by simp[Af];omega):p:=h
def oU {p:Prop} (h:p:=by simpa using(hl 0).symm):p:=h
def aFz {p:Prop} (h:p:=by rw[EG];simp only[Nq];omega):p:=h
def mP {p:Prop} (h:p:=by rw[aMO j J];simp):p:=h
def aD4 {p:Prop} (h:p:=by simpa using J 0 x (by simp)):p:=h
def VI {p:Prop} (h:p:=by simp at q):p:=h
def aAf {p:Prop} (h:p:=by simpa using L 0 x (by simp)):p:=h
def aHu {p:Prop} (h:p:=by obtain⟨b,_,rfl⟩:=Ee.1 hy;exact hc b):p:=h
def aHU {p:Prop} (h:p:=by obtain⟨a,_,rfl⟩:=Ee.1 hy;exact hc a):p:=h
def ZP {p:Prop} (h:p:=by simpa using U):p:=h
def aQR {p:Prop} (h:p:=by show Cb C ok H (U ops.size).ents w;rw[hE];exact hmem):p:=h
def aAO {p:Prop} (h:p:=by simp[binOp,Op.intBits,EO]):p:=h
def aFb {p:Prop} (h:p:=by simp only[Fa];simp;omega):p:=h
def aJQ {p:Prop} (h:p:=by rw[M rfl b (by rw[q];rfl)];exact u):p:=h
def aPU {p:Prop} (h:p:=by cases h;exact .ret (F5 [(4,true)])):p:=h
def ad4 {p:Prop} (h:p:=by rw[CM]at hi;rw[Uy _ _ _ hi];exact VJ m j q (h i hi)):p:=h
def aTU {p:Prop} (h:p:=by subst e;have h:=i;exact Ch.aW<|by cases h;kernel_rfl):p:=h
def kK {p:Prop} (h:p:=by simpa using q2):p:=h
def aBE {p:Prop} (h:p:=by simp[Act.eval,Act.put]):p:=h
def aBe {p:Prop} (h:p:=by rw[FY];omega):p:=h
def aM5 {p:Prop} (h:p:=by simpa using L 0 σ.ents (by simp)):p:=h
def aMz {p:Prop} (h:p:=by simpa using M 0 σ.ents (by simp)):p:=h
def eK {p:Prop} (h:p:=by simpa using L):p:=h
def aS7 {p:Prop} (h:p:=by rw[CM]at hi;rw[Uy _ _ _ hi];exact(h i hi).uO π):p:=h
def afD {p:Prop} (h:p:=by rw[M]at ho';obtain rfl:=CO ho';exact(O m hm).1):p:=h
def yg {p:Prop} (h:p:=by rw[j]at h;exact h):p:=h
def qG {p:Prop} (h:p:=by intro m;cases m):p:=h
def aA0 {p:Prop} (h:p:=by simp[Op.bytesLess]at h):p:=h
def abZ {p:Prop} (h:p:=by unfold Il;rw[CV ⟨aOK _,by omega,by omega⟩];rfl):p:=h
def aRA {p:Prop} (h:p:=by simp only[aBH,dec_lt h,Au,Ba h,AQ,KE,Dz,Aj]):p:=h
def o7 {p:Prop} (h:p:=by intro h;cases h):p:=h
def aaU {p:Prop} (h:p:=by simpa using(by omega:i<(ops.map a.eval).size)):p:=h
def aC8 {p:Prop} (h:p:=by rw[World.cell?,j];rfl):p:=h
def aCC {p:Prop} (h:p:=by constructor<;>omega):p:=h
def abr {p:Prop} (h:p:=by rw[ha];exact Eh (Ic _ _) (by rw[FY];omega)):p:=h
def tq {p:Prop} (h:p:=by simpa using he):p:=h
def qR {p:Prop} (h:p:=by simpa using hs):p:=h
def aeb {p:Prop} (h:p:=by cases h;exact .ret (F5 [(0,false),(1,true)])):p:=h
def aEY {p:Prop} (h:p:=by unfold maxLen;omega):p:=h
def aRU {p:Prop} (h:p:=by cases h;exact .ret (F5 [(0,true),(1,true)])):p:=h
def aCm {p:Prop} (h:p:=by rw[map_take hi,ha]):p:=h
def aMx {p:Prop} (h:p:=by simp[sizeOf,typeInfo,hi,hs]):p:=h
def ady {p:Prop} (h:p:=by have :=lR s ⟨k,key,0⟩;unfold Ej at *;omega):p:=h
def lg {p:Prop} (h:p:=by rw[ha,GI]):p:=h
def YH {p:Prop} (h:p:=by rw[q,←z]):p:=h
def aFr {p:Prop} (h:p:=by simp[underlying,ht]):p:=h
def aBO {p:Prop} (h:p:=by simp[underlying,hu]):p:=h
def aLw {p:Prop} (h:p:=by rw[ank];exact hdf.mono hgr):p:=h
def rY {p:Prop} (h:p:=by simpa using h2):p:=h
def aNe {p:Prop} (h:p:=by first|exact L|kernel_rfl):p:=h
def aaF {p:Prop} (h:p:=by simp[Value.cells,List.getD,Array.getD,u]):p:=h
def cV {p:Prop} (h:p:=by simp[hl]):p:=h
def aNf {p:Prop} (h:p:=by have :=eq_of_beq h;omega):p:=h
def aGS {p:Prop} (h:p:=by rw[←q.hlen];simp):p:=h
def aAB {p:Prop} (h:p:=by rw[←m.hlen];simp):p:=h
def aP2 {p:Prop} (h:p:=by rw[hb1];exact(Fb.1 L).1):p:=h
def aKn {p:Prop} (h:p:=by rw[Ar.adH]at I;exact I):p:=h
def aAP {p:Prop} (h:p:=by simp[List.getD,j]):p:=h
def aAv {p:Prop} (h:p:=by simp[List.getD,m]):p:=h
def aCe {p:Prop} (h:p:=by intro z;cases z):p:=h
def aCv {p:Prop} (h:p:=by intro q;cases q):p:=h
def aT3 {p:Prop} (h:p:=by unfold Jr at j;rw[D9 hl]at j;exact j):p:=h
def aLr {p:Prop} (h:p:=by simp[Array.getD,h1,hi']):p:=h
def aJa {p:Prop} (h:p:=by simp[underlying,hE.und]):p:=h
def dH {p:Prop} (h:p:=by cases h'):p:=h
def aC4 {p:Prop} (h:p:=by simp[Array.getD]):p:=h
def aLb {p:Prop} (h:p:=by rw[size_put];exact hsz):p:=h
def aQ2 {p:Prop} (h:p:=by simp[stepG,stepG.exec,Frame.atR]):p:=h
def aRj {p:Prop} (h:p:=by rw[pO];exact fuel_lt (by decide)):p:=h
def aLe {p:Prop} (h:p:=by simp[List.getD,YJ e]):p:=h
def aCG {p:Prop} (h:p:=by simpa using M):p:=h
def aL1 {p:Prop} (h:p:=by simp[ev,List.getD,hy]):p:=h
def aEW {p:Prop} (h:p:=by simpa using hi1):p:=h
def aGV {p:Prop} (h:p:=by simp[flat]at hi):p:=h
def aMp {p:Prop} (h:p:=by simp[List.getD,Gj e]):p:=h
def aMs {p:Prop} (h:p:=by simpa[D8]using u.symm):p:=h
def aES {p:Prop} (h:p:=by rw[IV];omega):p:=h
def acu {p:Prop} (h:p:=by rw[q];rfl):p:=h
def aIf {p:Prop} (h:p:=by simp[r,List.getD,hy]):p:=h
def aIZ {p:Prop} (h:p:=by rw[hev];exact hmem):p:=h
def aLZ {p:Prop} (h:p:=by rw[aFC];exact hh.base):p:=h
def aPJ {p:Prop} (h:p:=by simp[World.setRow]):p:=h
def aL5 {p:Prop} (h:p:=by simp only[aBH,CX,Aj]):p:=h
def aDw {p:Prop} (h:p:=by apply aNy;simp):p:=h
def qo {p:Prop} (h:p:=by rw[e];rfl):p:=h
def o9 {p:Prop} (h:p:=by rw[u];rfl):p:=h
def aAU {p:Prop} (h:p:=by simp[go_sem]):p:=h
def aC7 {p:Prop} (h:p:=by rw[IK];exact h):p:=h
def aIk {p:Prop} (h:p:=by rw[EG];simp;omega):p:=h
def iY {p:Prop} (h:p:=by simp[j]):p:=h
def aDZ {p:Prop} (h:p:=by simpa using Y):p:=h
def uI {p:Prop} (h:p:=by rw[j];rfl):p:=h
def aLN {p:Prop} (h:p:=by rw[←h.len];exact hi):p:=h
def aJD {p:Prop} (h:p:=by simp[execOp,j];rfl):p:=h
def aOz {p:Prop} (h:p:=by simp[underlying,m]):p:=h
def aIM {p:Prop} (h:p:=by rw[EG]at hi;omega):p:=h
def aOc {p:Prop} (h:p:=by rw[aA];simp;omega):p:=h
def aLS {p:Prop} (h:p:=by simp[List.getD,q]):p:=h
def aI4 {p:Prop} (h:p:=by rw[←hm.hlen];simp):p:=h
def aIW {p:Prop} (h:p:=by simpa using this):p:=h
def aNJ {p:Prop} (h:p:=by rw[CM];exact hi):p:=h
def aJd {p:Prop} (h:p:=by simpa using hee):p:=h
def zs {p:Prop} (h:p:=by simp[xU,e]):p:=h
def nI {p:Prop} (h:p:=by simp at j):p:=h
def qP {p:Prop} (h:p:=by simp at M):p:=h
def aLX {p:Prop} (h:p:=by rw[z]at m;omega):p:=h
end Go.Proofs.YtldfpencimjjlaaGreat
namespace Go.Proofs.YtldfpencimjjlaaGreat
open Go.RowKit
def CP {p:Prop} (h:p:=by exact fun h=>AZ<|Cj):p:=h
def Gf {p:Prop} (h:p:=by exact AP.exit<|AZ<|Cj):p:=h
def Xr {p:Prop} (h:p:=by exact LU A8<|LU A8<|LU A8<|LU A8<|trivial):p:=h
def Ry {p:Prop} (h:p:=by exact AP.exit<|AZ<|Zr):p:=h
def aFa {p:Prop} (h:p:=by exact .nil<|Or.inl ⟨(),(Cx h).symm,(⟨[],[],trivial,A8,A8,A8⟩)⟩):p:=h
def adl {p:Prop} (h:p:=by exact fun h=>AP.ret<|⟨.inr rfl,(YQ z).slots,(.ready,none),.normal,A8,rfl,(K3 _ ⟨m,q,Ad 16 32 [(2,true),(6,true)],h⟩)⟩):p:=h
def aTc {p:Prop} (h:p:=by exact AP.ret<|⟨.inr rfl,(Vb sZ j).slots,(.ready,none),.normal,A8,rfl,(K3 _ ⟨v7,v8,Ad 21 80 [(0,true),(1,true)],h⟩)⟩):p:=h
def aCQ {p:Prop} (h:p:=by exact .nil<|m _ _ _ (Ad 16 449 [(0,true)]) h):p:=h
def iP {p:Prop} (h:p:=by exact AZ<|AZ<|Cj):p:=h
def aPj {p:Prop} (h:p:=by exact fun h=>AP.exit<|K4 _ ⟨Ad 18 2 [],h⟩):p:=h
def aPY {p:Prop} (h:p:=by exact .nil<|j _ _ (Ad 26 35 []) h):p:=h
def Qw {p:Prop} (h:p:=by exact BM h CP fun h=>AZ<|Cj):p:=h
end Go.Proofs.YtldfpencimjjlaaGreat
section
namespace Go.Proofs.YtldfpencimjjlaaGreat
open Go.RowKit
def addr_add (b o j:Nat):(⟨b,o,none⟩:Addr).add j=⟨b,o+j,none⟩:=by
 unfold Addr.add;split<;>simp_all
section
variable {P : Program} {ops : Array Oper} {rest : List Oper} {o : Oper} {a : Act} {w : World} {Q : Exit → Act → World → Prop}
def ais (w:World) (ty:TypeId) (b off:Nat) (cs:Array Value) (u:(isAgg ty).run P w=.ok true w) (z:(sizeOf ty).run P w=.ok cs.size w)
 (I:∀j,j<cs.size→w.cell? ⟨b,off+j,none⟩=some (cs.getD j undef)):(loadVar ty ⟨b,off,none⟩).run P w=.ok (.agg cs) w:=by
 have hl:(loadCells ⟨b,off,none⟩ cs.toList.length).run P w=.ok cs.toList.toArray w:=
  aKA (P:=P) w ⟨b,off,none⟩ cs.toList (fun j v m=>by
   rw[addr_add]
   have q:j<cs.size:=by
    have :=(Fb.1 m).1;simpa using this
   rw[I j q];simp only[sK]at m;simp[Array.getD,q]at m ⊢
   exact m)
 simp only[TM,lJ]at hl;simp only[loadVar,FD,u,z,FU,JZ,hl,GK]
end
inductive D where
 |lit (v:Value)
 |agg (cs:List D)
 |sl (es:List D)
 |ref (cs:List D) (off:Nat)
 |fn (f:Fn) (first cap:List D)
 |PU (t:TypeId) (x:D)
def D.cells:D→List D
 | .agg cs=>cs
 |x=>[x]
def D.leaf:D→Bool
 | .lit v=>v.oneCell'
 | .agg _=>false
 |_=>true
abbrev DK :D:=.lit undef
abbrev cellAt (w:World) (b o:Nat):Value:=(w.cell? ⟨b,o,none⟩).getD undef
inductive DV (ok:Nat→Prop) (w:World):D→Value→Prop
 |lit (v:Value):DV ok w (.lit v) v
 |agg (cs:List D) (vs:Array Value) (hl:vs.size=cs.length) (hf:∀i,i<cs.length→(cs.getD i DK).leaf=true)
  (h:∀i,i<cs.length→DV ok w (cs.getD i DK) (vs.getD i undef)):DV ok w (.agg cs) (.agg vs)
 |sl0 (ad:Option Addr) (cap:Nat):DV ok w (.sl []) (.slice ad 0 cap)
 |sl (es:List D) (b off cap size:Nat) (hcap:es.length≤cap) (hok:0<es.length→0<size→ok b) (hs:∀i,i<es.length→(es.getD i DK).cells.length=size)
  (hf:∀i,i<es.length→∀j,j<size→((es.getD i DK).cells.getD j DK).leaf=true)
  (hx:∀i,i<es.length→∀j,j<size→(w.cell? ⟨b,off+(i*size+j),none⟩).isSome=true)
  (hc:∀i,i<es.length→∀j,j<size→DV ok w ((es.getD i DK).cells.getD j DK) (cellAt w b (off+(i*size+j)))):
  DV ok w (.sl es) (.slice (some ⟨b,off,none⟩) es.length cap)
 |ref (cs:List D) (off b o:Nat) (hok:0<cs.length→ok b) (hf:∀i,i<cs.length→(cs.getD i DK).leaf=true)
  (hx:∀j,j<cs.length→(w.cell? ⟨b,o+j,none⟩).isSome=true)
  (hc:∀j,j<cs.length→DV ok w (cs.getD j DK) (cellAt w b (o+j))):DV ok w (.ref cs off) (.pointer (some ⟨b,o+off,none⟩))
 |fn (f:Fn) (first cap:List D) (vs us:Array Value) (hl:vs.size=first.length) (hm:us.size=cap.length)
  (h:∀i,i<first.length→DV ok w (first.getD i DK) (vs.getD i undef)) (h':∀i,i<cap.length→DV ok w (cap.getD i DK) (us.getD i undef)):
  DV ok w (.fn f first cap) (.func f vs us)
 |PU (t:TypeId) (x:D) (v:Value) (h:DV ok w x v):DV ok w (.PU t x) (.iface t v)
def ES (ok:Nat→Prop) (w:World) (ok':Nat→Prop) (w':World):Prop:=∀b,ok b→ok' b∧w'.heap[b]? =w.heap[b]?
def ES.refl (ok:Nat→Prop) (w:World):ES ok w ok w:=fun _ h=>⟨h,rfl⟩
def ES.trans {ok j m:Nat→Prop} {w u z:World} (h:ES ok w j u) (k:ES j u m z):ES ok w m z:=
 fun b q=>⟨(k b (h b q).1).1,((k b (h b q).1).2).trans (h b q).2⟩
def ES.cell {ok ok':Nat→Prop} {w w':World} (h:ES ok w ok' w') {b o:Nat} (j:ok b):w'.cell? ⟨b,o,none⟩=w.cell? ⟨b,o,none⟩:=
 World.cell?_of_block (w:=w) (a:=⟨b,o,none⟩) (h b j).2
def DV.mono {ok ok':Nat→Prop} {w w':World} (z:ES ok w ok' w') {x:D} {v:Value} (h:DV ok w x v):DV ok' w' x v:=by
 induction h with
 |lit v=>exact .lit v
 |agg cs vs hl I _ u=>exact .agg cs vs hl I u
 |sl0 ad cap=>exact .sl0 ad cap
 |sl es b off cap size J m hs I L _ u=>
  have U:∀i j,i<es.length→j<size→ok b:=fun i j hi q=>m AA AA;refine .sl es b off cap size J (fun M Y=>(z b (m M Y)).1) hs I (fun i hi j q=>?_) (fun i hi j q=>?_)
  ·rw[z.cell (U i j hi q)];exact L i hi j q
  unfold cellAt;rw[z.cell (U i j hi q)];exact u i hi j q
 |ref cs off b o m I L _ u=>
  refine .ref cs off b o (fun M=>(z b (m M)).1) I (fun j q=>?_) (fun j q=>?_)
  ·rw[z.cell (m AA)];exact L j q
  unfold cellAt;rw[z.cell (m AA)];exact u j q
 |fn f first cap vs us hl Z _ _ u O=>exact .fn f first cap vs us hl Z u O
 |PU t x v _ u=>exact .PU t x v u
def DV.shrink {ok ok':Nat→Prop} {w:World} (hs:∀b o,ok b→(w.cell? ⟨b,o,none⟩).isSome=true→ok' b) {x:D} {v:Value} (h:DV ok w x v):DV ok' w x v:=by
 induction h with
 |lit v=>exact .lit v
 |agg cs vs hl q _ j=>exact .agg cs vs hl q j
 |sl0 ad cap=>exact .sl0 ad cap
 |sl es b off cap size u m J q z _ j=>exact .sl es b off cap size u (fun I M=>hs b _ (m I M) (z 0 I 0 M)) J q z j
 |ref cs off b o m q z _ j=>exact .ref cs off b o (fun I=>hs b _ (m I) (z 0 I)) q z j
 |fn f first cap vs us hl O _ _ j L=>exact .fn f first cap vs us hl O j L
 |PU t x v _ j=>exact .PU t x v j
def DV.leaf {ok:Nat→Prop} {w:World} {x:D} {v:Value} (h:DV ok w x v) (hl:x.leaf=true):v.oneCell'=true:=by
 cases h<;>first|rfl|exact hl|(simp[D.leaf]at hl)
inductive AY where
 |d (x:D)
 |ptr (k off:Nat)
 |aZ (k:Nat)
 |lX (k i off:Nat)
 |fn (f:Fn) (first cap:List AY)
 |mp (k:Nat)
 |clip (xs:List D)
 |xC (k:Nat)
 |fB (vs:List AY)
 |ag (vs:List AY)
 |junk
def AY.leaf:AY→Bool
 | .d x=>x.leaf
 | .fB _| .ag _| .junk=>false
 |_=>true
def AY.cells:AY→List AY
 | .d x=>x.cells.map .d
 | .ag xs=>xs
 |x=>[x]
inductive Ar where
 |dead
 |box (cs:List AY)
 |arr (e:TypeId) (size:Nat) (es:List D)
 |map (es:List (Value×D))
 |eY (es:List (Value×D))
 |iter (es:List (Value×D)) (vis:List Nat)
 |loop (tm:Array Value) (slots:List AY) (rc:Array Tmp×Code×Code) (st:LoopState) (pe:Option Code)
def Ar.live:Ar→Bool
 | .dead=>false
 |_=>true
structure BO where
 v:Value
 size:Nat:=0
inductive R (ok:Nat→Prop) (w:World) (H:List BO):AY→Value→Prop
 |d (x:D) (v:Value) (h:DV ok w x v):R ok w H (.d x) v
 |ptr (k off b s:Nat) (h:H[k]? =some ⟨.pointer (some ⟨b,0,none⟩),s⟩):R ok w H (.ptr k off) (.pointer (some ⟨b,off,none⟩))
 |aZ (k:Nat) (ad:Option Addr) (n cap s:Nat) (h:H[k]? =some ⟨.slice ad n cap,s⟩):R ok w H (.aZ k) (.slice ad n cap)
 |lX (k i off b n cap s:Nat) (h:H[k]? =some ⟨.slice (some ⟨b,0,none⟩) n cap,s⟩):R ok w H (.lX k i off) (.pointer (some ⟨b,i*s+off,none⟩))
 |fn (f:Fn) (first cap:List AY) (vs us:Array Value) (hl:vs.size=first.length) (hm:us.size=cap.length) (h:∀i,i<first.length→R ok w H (first.getD i .junk) (vs.getD i undef))
  (h':∀i,i<cap.length→R ok w H (cap.getD i .junk) (us.getD i undef)):R ok w H (.fn f first cap) (.func f vs us)
 |mp (k:Nat) (v:Value) (s:Nat) (hl:v.oneCell'=true) (h:H[k]? =some ⟨v,s⟩):R ok w H (.mp k) v
 |clip (xs:List D) (ad:Option Addr) (h:DV ok w (.sl xs) (.slice ad xs.length xs.length)):R ok w H (.clip xs) (.slice ad xs.length xs.length)
 |xC (k:Nat) (ad:Option Addr) (n cap s:Nat) (h:H[k]? =some ⟨.slice ad n cap,s⟩):R ok w H (.xC k) (.slice ad n n)
 |fB (xs:List AY) (vs:Array Value) (hl:vs.size=xs.length) (h:∀i,i<xs.length→R ok w H (xs.getD i .junk) (vs.getD i undef)):R ok w H (.fB xs) (.tuple vs)
 |ag (xs:List AY) (vs:Array Value) (hl:vs.size=xs.length) (hf:∀i,i<xs.length→(xs.getD i .junk).leaf=true) (h:∀i,i<xs.length→R ok w H (xs.getD i .junk) (vs.getD i undef)):R ok w H (.ag xs) (.agg vs)
 |junk (v:Value):R ok w H .junk v
def Names (H H':List BO):Prop:=∀(k:Nat) (v:BO),H[k]? =some v→H'[k]? =some v
def Names.refl (H:List BO):Names H H:=fun _ _ h=>h
def Names.trans {H H1 H2:List BO} (h:Names H H1) (k:Names H1 H2):Names H H2:=fun i v j=>k i v (h i v j)
def Names.push (H H':List BO):Names H (H++H'):=fun k v h=>by
 rw[Gj (Fb.1 h).1];exact h
def R.mono {ok ok':Nat→Prop} {w w':World} {H H':List BO} (u:ES ok w ok' w') (j:Names H H') {x:AY} {v:Value} (h:R ok w H x v):R ok' w' H' x v:=by
 induction h with
 |d x v h=>exact .d x v (h.mono u)
 |ptr k off b s h=>exact .ptr k off b s (j _ _ h)
 |aZ k ad n cap s h=>exact .aZ k ad n cap s (j _ _ h)
 |lX k i off b n cap s h=>exact .lX k i off b n cap s (j _ _ h)
 |fn f first cap vs us hl z _ _ m q=>exact .fn f first cap vs us hl z m q
 |mp k v s hl h=>exact .mp k v s hl (j _ _ h)
 |clip xs ad h=>exact .clip xs ad (h.mono u)
 |xC k ad n cap s h=>exact .xC k ad n cap s (j _ _ h)
 |fB xs vs hl _ m=>exact .fB xs vs hl m
 |ag xs vs hl I _ m=>exact .ag xs vs hl I m
 |junk v=>exact .junk v
def R.shrink {ok ok':Nat→Prop} {w:World} (hs:∀b o,ok b→(w.cell? ⟨b,o,none⟩).isSome=true→ok' b) {H:List BO} {x:AY} {v:Value} (h:R ok w H x v):R ok' w H x v:=by
 induction h with
 |d x v h=>exact .d x v (h.shrink hs)
 |ptr k off b s h=>exact .ptr k off b s h
 |aZ k ad n cap s h=>exact .aZ k ad n cap s h
 |lX k i off b n cap s h=>exact .lX k i off b n cap s h
 |fn f first cap vs us hl q _ _ j m=>exact .fn f first cap vs us hl q j m
 |mp k v s hl h=>exact .mp k v s hl h
 |clip xs ad h=>exact .clip xs ad (h.shrink hs)
 |xC k ad n cap s h=>exact .xC k ad n cap s h
 |fB xs vs hl _ j=>exact .fB xs vs hl j
 |ag xs vs hl u _ j=>exact .ag xs vs hl u j
 |junk v=>exact .junk v
def R.leaf {ok:Nat→Prop} {w:World} {H:List BO} {x:AY} {v:Value} (h:R ok w H x v) (hl:x.leaf=true):v.oneCell'=true:=by
 cases h with
 |d x v h=>exact h.leaf hl
 |fB=>simp[AY.leaf]at hl
 |ag=>simp[AY.leaf]at hl
 |junk=>simp[AY.leaf]at hl
 |mp k v s hl h=>exact hl
 |_=>rfl
def Fg (ok:Nat→Prop) (w:World) (H:List BO) (xs:List AY) (vs:List Value):Prop:=
 vs.length=xs.length∧∀i,i<xs.length→(xs.getD i .junk).leaf=true∧R ok w H (xs.getD i .junk) (vs.getD i undef)
def Fg.mono {ok ok':Nat→Prop} {w w':World} {H H':List BO} (j:ES ok w ok' w') (m:Names H H') {xs:List AY} {vs:List Value} (h:Fg ok w H xs vs):Fg ok' w' H' xs vs:=
 ⟨h.1,fun i hi=>⟨(h.2 i hi).1,(h.2 i hi).2.mono j m⟩⟩
def Fg.shrink {ok ok':Nat→Prop} {w:World} (hs:∀b o,ok b→(w.cell? ⟨b,o,none⟩).isSome=true→ok' b) {H:List BO} {xs:List AY} {vs:List Value} (h:Fg ok w H xs vs):Fg ok' w H xs vs:=
 ⟨h.1,fun i hi=>⟨(h.2 i hi).1,(h.2 i hi).2.shrink hs⟩⟩
def flat (es:List D):List AY:=es.flatMap fun x=>x.cells.map .d
def nG (w:World) (e:TypeId) (size:Nat) (v:Value) (n:Nat) (xs:List Value):Prop:=
 xs.length=n*size∧
 ((v=.slice none 0 0∧n=0)∨
  ∃g cap j,v=.slice (some ⟨g,0,none⟩) n cap∧0≤g∧w.heap[g]? =some (.cells j e (0,0))∧n≤cap∧cap≤maxLen∧cap*size≤j.size∧j.toList.take (n*size)=xs)
def nG.of {w:World} {base:Nat} {e:TypeId} {size:Nat} {v:Value} {n:Nat} {xs:List Value} (h:w.ownsRow base e size v n xs):nG w e size v n xs:=by
 refine⟨h.1,?_⟩;rcases h.2 with j|⟨g,cap,m,j,L,q,u,z,I,J⟩
 ·exact .inl j
 exact .inr ⟨g,cap,m,j,EZ _,q,u,z,aT I.symm,J⟩
def nG.cells {w:World} {e:TypeId} {size:Nat} {v:Value} {n:Nat} {xs:List Value} (h:nG w e size v n xs) {g:Nat} (I:v.ownBlock=some g):∀j u,xs[j]? =some u→w.cell? ((⟨g,0,none⟩:Addr).add j)=some u:=by
 intro j u z;rcases h.2 with⟨rfl,_⟩|⟨J,cap,L,rfl,_,M,_,_,_,m⟩
 ·simp[Value.ownBlock]at I
 simp[Value.ownBlock]at I;subst I;have q:(⟨J,0,none⟩:Addr).add j=⟨J,j,none⟩:=by unfold Addr.add;split<;>simp_all
 rw[q,cell_of_row w J j L e (0,0) M];rw[←m,oZ]at z;split at z
 ·simpa using z
 cases z
structure JA (ok:Nat→Prop) (w:World) (es:List (Value×D)) (ms:Array MapEntry) (clock:Nat):Prop where
 len:ms.size=es.length
 ent:∀(i:Nat) (e:Value×D) (m:MapEntry),es[i]? =some e→ms[i]? =some m→m.key=e.1∧DV ok w e.2 m.val∧m.born<clock
 inc:∀(i j:Nat) (m n:MapEntry),i<j→ms[i]? =some m→ms[j]? =some n→m.born<n.born
def SI (ms:Array MapEntry) (clock:Nat):Prop:=clock=ms.size∧∀(i:Nat) (e:MapEntry),ms[i]? =some e→e.born=i
def Em (ok:Nat→Prop) (w:World) (H:List BO) (h:BO):Ar→Prop
 | .dead=>True
 | .box cs=>∃b vs T,h.v=.pointer (some ⟨b,0,none⟩)∧w.heap[b]? =some (.cells vs T (0,0))∧Fg ok w H cs vs.toList
 | .arr e size es=>h.size=size∧(∀x∈es,x.cells.length=size)∧∃xs,nG w e size h.v es.length xs∧Fg ok w H (flat es) xs
 | .map es=>∃b ms clock,h.v=.map (some b)∧w.heap[b]? =some (.map ms clock)∧JA ok w es ms clock
 | .eY es=>∃b ms clock,h.v=.map (some b)∧w.heap[b]? =some (.map ms clock)∧JA ok w es ms clock∧SI ms clock
 | .iter es vis=>∃bi m ms clock seen,h.v=.pointer (some ⟨bi,0,none⟩)∧w.heap[bi]? =some (.mapIter (some m) clock seen clock)∧ok m∧w.heap[m]? =some (.map ms clock)∧JA ok w es ms clock∧
  seen.size=vis.length∧∀(j i:Nat),vis[j]? =some i→∃e,ms[i]? =some e∧seen[j]? =some e.born
 | .loop tm slots rc st q=>∃l fn D,h.v=.func (.yield l) #[] #[]∧w.heap[l]? =some (.loop { state:=st,pending:=q,fn,tmps:=tm,params:=rc.1,assign:=rc.2.1,body:=rc.2.2,defers:=D })∧tm.size=slots.length∧∀t,t<slots.length→R ok w H (slots.getD t .junk) (tm.getD t undef)
def D8 :Value→Option Nat
 | .pointer (some a)=>some a.block
 | .slice (some a) _ _=>some a.block
 | .map (some b)=>some b
 | .func (.yield l) _ _=>some l
 |_=>none
structure uM (w0:World) (X:List Nat) (w:World):Prop where
 os:w.os=w0.os
 tape:w.tape=w0.tape
 output:w.output=w0.output
 size:w0.heap.size≤w.heap.size
 block:∀k,k<w0.heap.size→k∉X→w.heap[k]? =w0.heap[k]?
def uM.refl (w:World) (X:List Nat):uM w X w:=⟨rfl,rfl,rfl,Dk _,fun _ _ _=>rfl⟩
def uM.below {w0 w:World} (h:uM w0 [] w):Below w0.heap.size w0 w:=⟨h.os,h.tape,h.output,h.size,fun k j=>h.block k j Ap⟩
structure EN where
 w0:World
 ok0:Nat→Prop
 X:List Nat
 H0:List BO
structure Cb (C:EN) (ok:Nat→Prop) (H:List BO) (es:List Ar) (w:World):Prop where
 fr:uM C.w0 C.X w
 yR:∀b,C.ok0 b→ok b
 yS:∀b,ok b→C.ok0 b∨C.w0.heap.size≤b∨b∈C.X
 kL:∀b,ok b→b<w.heap.size
 names:Names C.H0 H
 hlen:H.length=es.length
 ent:∀(k:Nat) (e:Ar) (h:BO),es[k]? =some e→H[k]? =some h→Em ok w H h e
 blk:∀(k:Nat) (e:Ar) (h:BO) (b:Nat),es[k]? =some e→e.live=true→H[k]? =some h→D8 h.v=some b→¬ok b∧b<w.heap.size∧(C.w0.heap.size≤b∨b∈C.X)
 E5:∀(k k':Nat) (e e':Ar) (h h':BO) (b:Nat),es[k]? =some e→es[k']? =some e'→e.live=true→e'.live=true→H[k]? =some h→H[k']? =some h'→D8 h.v=some b→D8 h'.v=some b→k=k'
def Em.mono {ok ok':Nat→Prop} {w w':World} {H H':List BO} {h:BO} {e:Ar} (J:ES ok w ok' w') (Y:Names H H') (M:e.live=true→∀b,D8 h.v=some b→w'.heap[b]? =w.heap[b]?) (O:Em ok w H h e):Em ok' w' H' h e:=by
 cases e with
 |dead=>trivial
 |box cs=>
  obtain⟨b,vs,T,q,u,j⟩:=O;exact⟨b,vs,T,q,aJQ,j.mono J Y⟩
 |arr e s es=>
  obtain⟨q,u,xs,⟨j,I⟩,L⟩:=O;refine⟨q,u,xs,⟨j,?_⟩,L.mono J Y⟩;rcases I with I|⟨g,cap,Z,U,h7,h8,h9⟩
  ·exact .inl I
  exact .inr ⟨g,cap,Z,U,h7,by rw[M rfl g (by rw[U];rfl)];exact h8,h9⟩
 |map es=>
  obtain⟨b,ms,clock,q,u,j⟩:=O;exact⟨b,ms,clock,q,aJQ,j.len,fun i e m hi z=>⟨(j.ent i e m hi z).1,(j.ent i e m hi z).2.1.mono J,(j.ent i e m hi z).2.2⟩,j.inc⟩
 |eY es=>
  obtain⟨b,ms,clock,q,u,j,I⟩:=O;exact⟨b,ms,clock,q,aJQ,⟨j.len,fun i e m hi z=>⟨(j.ent i e m hi z).1,(j.ent i e m hi z).2.1.mono J,(j.ent i e m hi z).2.2⟩,j.inc⟩,I⟩
 |iter es vis=>
  obtain⟨bi,bm,ms,clock,seen,q,u,j,I,L,U,h7⟩:=O;exact⟨bi,bm,ms,clock,seen,q,by rw[M rfl bi acu];exact u,(J bm j).1,by rw[(J bm j).2];exact I,⟨L.len,fun i e m hi z=>⟨(L.ent i e m hi z).1,(L.ent i e m hi z).2.1.mono J,(L.ent i e m hi z).2.2⟩,L.inc⟩,U,h7⟩
 |loop tm slots rc st pe=>
  obtain⟨l,fn,D,q,u,j,I⟩:=O;exact⟨l,fn,D,q,by rw[M rfl l acu];exact u,j,fun t ht=>(I t ht).mono J Y⟩
def Em.shrink {ok ok':Nat→Prop} {w:World} (hs:∀b o,ok b→(w.cell? ⟨b,o,none⟩).isSome=true→ok' b) (M:∀(b:Nat) (ms:Array MapEntry) (c:Nat),ok b→w.heap[b]? =some (.map ms c)→ok' b) {H:List BO} {h:BO} {e:Ar} (J:Em ok w H h e):Em ok' w H h e:=by
 cases e with
 |dead=>trivial
 |box cs=>
  obtain⟨b,vs,T,q,u,j⟩:=J;exact⟨b,vs,T,q,u,j.shrink hs⟩
 |arr e s es=>
  obtain⟨q,u,xs,j,I⟩:=J;exact⟨q,u,xs,j,I.shrink hs⟩
 |map es=>
  obtain⟨b,ms,clock,q,u,j⟩:=J;exact⟨b,ms,clock,q,u,j.len,fun i e m hi z=>⟨(j.ent i e m hi z).1,(j.ent i e m hi z).2.1.shrink hs,(j.ent i e m hi z).2.2⟩,j.inc⟩
 |eY es=>
  obtain⟨b,ms,clock,q,u,j,L⟩:=J;exact⟨b,ms,clock,q,u,⟨j.len,fun i e m hi z=>⟨(j.ent i e m hi z).1,(j.ent i e m hi z).2.1.shrink hs,(j.ent i e m hi z).2.2⟩,j.inc⟩,L⟩
 |iter es vis=>
  obtain⟨bi,O,ms,clock,seen,q,u,j,L,I,U,Y⟩:=J;exact⟨bi,O,ms,clock,seen,q,u,M O ms clock j L,L,⟨I.len,fun i e m hi z=>⟨(I.ent i e m hi z).1,(I.ent i e m hi z).2.1.shrink hs,(I.ent i e m hi z).2.2⟩,I.inc⟩,U,Y⟩
 |loop tm slots rc st pe=>
  obtain⟨l,fn,D,q,u,j,L⟩:=J;exact⟨l,fn,D,q,u,j,fun t Z=>(L t Z).shrink hs⟩
def Em.drew {ok:Nat→Prop} {w:World} {H:List BO} {h:BO} {e:Ar} {n:Nat} (j:Em ok w H h e):Em ok { w with drawn:=n } H h e:=
 Em.mono (w:=w) (ok:=ok) (fun _ m=>⟨m,rfl⟩) (.refl _) (fun _ _ _=>rfl) j
def BU (P:Program) (o:Oper) (ns:List (Operand×AY)) (es:List Ar) (x:AY) (es':List Ar):Prop:=
 ∀(C:EN) (ok:Nat→Prop) (H:List BO) (a:Act) (w:World) (Q:Exit→Act→World→Prop),
  Cb C ok H es w→(∀n∈ns,R ok w H n.2 (a.eval n.1))→
  o.wp P a w (fun a' w'=>∃v ok' H',a'=a.put o.dst v∧ES ok w ok' w'∧Names H H'∧Cb C ok' H' es' w'∧R ok' w' H' x v) Q
def BU.pure {P:Program} {o:Oper} {ns:List (Operand×AY)} {es:List Ar} {x:AY}
 (h:∀(ok:Nat→Prop) (H:List BO) (a:Act) (w:World),(∀(k:Nat) (e:Ar) (h:BO),es[k]? =some e→H[k]? =some h→Em ok w H h e)→H.length=es.length→(∀n∈ns,R ok w H n.2 (a.eval n.1))→∃v,(execOp a.eval o).run P w=.ok (.value v) w∧R ok w H x v):BU P o ns es x es:=by
 intro C ok H a w Q j m;obtain⟨v,q,u⟩:=h ok H a w j.ent j.hlen m;unfold Oper.wp;rw[q];exact⟨v,ok,H,rfl,.refl _ _,.refl _,j,u⟩
structure Ak where
 slots:List AY
 ents:List Ar
 base:Nat:=0
def Ak.get (σ:Ak):Operand→AY
 | .tmp t=>σ.slots.getD t .junk
 | .const v=>.d (.lit v)
 | .global g=>.d (.lit (.pointer (some ⟨g,0,none⟩)))
 | .func f=>.d (.fn (.func f) [] [])
def Ak.put (σ:Ak) (d:Option Tmp) (x:AY) (es:List Ar):Ak:=
 ⟨match d with |some t=>σ.slots.set t x|none=>σ.slots,es,σ.base⟩
def Ak.rW (σ:Ak) (d:Option Tmp) (x:AY):Ak:=
 ⟨match d with |some t=>σ.slots.set t x|none=>σ.slots,σ.ents,σ.base⟩
def Ak.Yz (σ:Ak) (d:Option Tmp) (x:AY):σ.rW d x=σ.put d x σ.ents:=rfl
def Marks (C:EN) (ok:Nat→Prop) (w:World) (j:List Deferred):Prop:=
 ∃Ds:List Nat,j=Ds.map (fun D=>{ target:=.collected D,args:= #[] })∧Ds.Nodup∧∀D∈Ds,ok D∧C.w0.heap.size≤D∧w.heap[D]? =some (.deferred (some []))
def Marks.nil (C:EN) (ok:Nat→Prop) (w:World):Marks C ok w []:=⟨[],rfl,YV,fun _ h=>GL⟩
def Marks.mono {C:EN} {ok ok':Nat→Prop} {w w':World} {q:List Deferred} (h:Marks C ok w q) (u:ES ok w ok' w'):Marks C ok' w' q:=by
 obtain⟨Ds,z,I,j⟩:=h;exact⟨Ds,z,I,fun D m=>⟨(u D (j D m).1).1,(j D m).2.1,((u D (j D m).1).2).trans (j D m).2.2⟩⟩
structure Holds (C:EN) (ok:Nat→Prop) (H:List BO) (σ:Ak) (a:Act) (w:World):Prop where
 mem:Cb C ok H σ.ents w
 size:a.tmps.size=σ.slots.length
 defers:Marks C ok w a.defers
 base:C.H0.length=σ.base
 slot:∀t,t<σ.slots.length→R ok w H (σ.slots.getD t .junk) (a.tmps.getD t undef)
def dw {l:List AY} {t:Nat} (h:¬t<l.length):l.getD t .junk=.junk:=by
 simp[List.getD,I7 (Uk h)]
def Holds.get {C:EN} {ok:Nat→Prop} {H:List BO} {σ:Ak} {a:Act} {w:World} (h:Holds C ok H σ a w) (x:Operand):R ok w H (σ.get x) (a.eval x):=by
 cases x with
 |tmp t=>
  show R ok w H (σ.slots.getD t .junk) (a.tmps.getD t undef);by_cases j:t<σ.slots.length
  ·exact h.slot t j
  rw[dw j];exact .junk _
 |const v=>exact .d _ _ (.lit v)
 |global g=>exact .d _ _ (.lit _)
 |func f=>exact .d _ _ (.fn (.func f) [] [] #[] #[] rfl rfl (fun i hi=>OE) (fun i hi=>OE))
def Holds.put {C:EN} {ok ok':Nat→Prop} {H H':List BO} {σ:Ak} {a:Act} {w w':World} (h:Holds C ok H σ a w) (d:Option Tmp) {x:AY} {v:Value} {es':List Ar}
 (m:ES ok w ok' w') (z:Names H H') (I:Cb C ok' H' es' w') (J:R ok' w' H' x v):Holds C ok' H' (σ.put d x es') (a.put d v) w':=by
 cases d with
 |none=>exact⟨I,h.size,h.defers.mono m,h.base,fun t j=>(h.slot t j).mono m z⟩
 |some d=>
  refine⟨I,by simp[Ak.put,Act.put,h.size],h.defers.mono m,h.base,fun t j=>?_⟩;simp only[Ak.put,eS]at j;simp only[Ak.put,Act.put];by_cases e:d=t
  ·subst e;have q:(σ.slots.set d x).getD d .junk=x:=aAP
   have u:(a.tmps.setIfInBounds d v).getD d undef=v:=by simp[Array.getD,h.size,j]
   rw[q,u];exact J
  have q:(σ.slots.set d x).getD t .junk=σ.slots.getD t .junk:=aLe
  have u:(a.tmps.setIfInBounds d v).getD t undef=a.tmps.getD t undef:=by simp[H8,KD e]
  rw[q,u];exact(h.slot t j).mono m z
def AY.uO (π:List (Nat×Bool)):AY→AY
 | .d x=>.d x
 | .ptr k off=>match π.idxOf? (k,true)with |some j=>.ptr j off|none=>.junk
 | .aZ k=>match π.idxOf? (k,true)with |some j=>.aZ j|none=>.junk
 | .lX k i off=>match π.idxOf? (k,true)with |some j=>.lX j i off|none=>.junk
 | .mp k=>match π.idxOf? (k,true)with |some j=>.mp j|none=>.junk
 | .xC k=>match π.idxOf? (k,true)with |some j=>.xC j|none=>.junk
 | .clip xs=>.clip xs
 |_=>.junk
def AY.back (π:List (Nat×Bool)):AY→AY
 | .fn f first cap=>.fn f (first.map (AY.uO π)) (cap.map (AY.uO π))
 | .fB vs=>.fB (vs.map (AY.uO π))
 |x=>x.uO π
def Ar.back (π:List (Nat×Bool)):Ar→Ar
 | .dead=>.dead
 | .box cs=>.box (cs.map (AY.uO π))
 | .arr e s es=>.arr e s es
 | .map es=>.map es
 | .eY es=>.eY es
 | .iter es vis=>.iter es vis
 | .loop tm slots rc st j=>.loop tm (slots.map (AY.back π)) rc st j
def oI {π:List (Nat×Bool)} {H:List BO} {k j:Nat} {h:BO} (q:π.idxOf? (k,true)=some j) (u:H[k]? =some h):(π.map fun p=>H.getD p.1 ⟨undef,0⟩)[j]? =some h:=by
 rw[List.idxOf?,acH]at q;obtain⟨m,z, -⟩:=q;have e:π[j]=(k,true):=U3
 simp[m,e,List.getD,u]
def R.uO {ok:Nat→Prop} {w:World} {H:List BO} (π:List (Nat×Bool)) {x:AY} {v:Value} (h:R ok w H x v):R ok w (π.map fun p=>H.getD p.1 ⟨undef,0⟩) (x.uO π) v:=by
 cases h with
 |d x v h=>exact .d x v h
 |ptr k off b s h=>
  simp only[AY.uO];split<;>rename_i j m
  ·exact .ptr _ off b s (oI m h)
  exact .junk _
 |aZ k ad n cap s h=>
  simp only[AY.uO];split<;>rename_i j m
  ·exact .aZ _ ad n cap s (oI m h)
  exact .junk _
 |lX k i off b n cap s h=>
  simp only[AY.uO];split<;>rename_i j m
  ·exact .lX _ i off b n cap s (oI m h)
  exact .junk _
 |mp k v s hl h=>
  simp only[AY.uO];split<;>rename_i j m
  ·exact .mp _ v s hl (oI m h)
  exact .junk _
 |clip xs ad h=>exact .clip xs ad h
 |xC k ad n cap s h=>
  simp only[AY.uO];split<;>rename_i j m
  ·exact .xC _ ad n cap s (oI m h)
  exact .junk _
 |fn f first cap vs us hl q h h'=>exact .junk _
 |fB xs vs hl h=>exact .junk _
 |ag xs vs hl u h=>exact .junk _
 |junk v=>exact .junk _
def Uy (f:AY→AY) (l:List AY) (i:Nat) (h:i<l.length):(l.map f).getD i .junk=f (l.getD i .junk):=by
 simp[List.getD,h]
def R.back {ok:Nat→Prop} {w:World} {H:List BO} (π:List (Nat×Bool)) {x:AY} {v:Value} (h:R ok w H x v):R ok w (π.map fun p=>H.getD p.1 ⟨undef,0⟩) (x.back π) v:=by
 cases h with
 |fn f first cap vs us hl j h h'=>
  exact .fn f _ _ vs us cV iY (fun i hi=>aS7) (fun i hi=>by rw[CM]at hi;rw[Uy _ _ _ hi];exact(h' i hi).uO π)
 |fB xs vs hl h=>exact .fB _ vs cV (fun i hi=>aS7)
 |ag xs vs hl m h=>exact .junk _
 |d x v h=>exact(R.d x v h).uO π
 |ptr k off b s h=>exact(R.ptr k off b s h).uO π
 |aZ k ad n cap s h=>exact(R.aZ k ad n cap s h).uO π
 |lX k i off b n cap s h=>exact(R.lX k i off b n cap s h).uO π
 |mp k v s hl h=>exact(R.mp k v s hl h).uO π
 |clip xs ad h=>exact(R.clip xs ad h).uO π
 |xC k ad n cap s h=>exact(R.xC k ad n cap s h).uO π
 |junk v=>exact .junk _
def Ar.backOk (π:List (Nat×Bool)):Ar→Bool
 | .box cs=>cs.all fun x=>(x.uO π).leaf
 |_=>true
def Us (base:Nat) (es:List Ar) (π:List (Nat×Bool)):Bool:=
 π.all (fun p=>decide (p.1<es.length))&&decide ((π.filterMap fun p=>if p.2 then some p.1 else none).Nodup)&&((π.take base).map (·.1)==List.range base)&&π.all fun p=>(es.getD p.1 .dead).backOk π
def Rs (es:List Ar) (π:List (Nat×Bool)):List Ar:=π.map fun p=>if p.2 then(es.getD p.1 .dead).back π else .dead
def abJ :∀{π:List (Nat×Bool)},(π.filterMap fun p=>if p.2 then some p.1 else none).Nodup→∀(i j k:Nat),π[i]? =some (k,true)→π[j]? =some (k,true)→i=j
 | [],_,i,j,k,h,_=>I8
 |p::π,m,i,j,k,hi,u=>by
  have q:∀(n:Nat),π[n]? =some (k,true)→k∈π.filterMap fun p=>if p.2 then some p.1 else none:=fun n h=>by
   rw[U5];exact⟨_,WL h,rfl⟩
  have z:(π.filterMap fun p=>if p.2 then some p.1 else none).Nodup:=by
   rw[OV]at m;split at m
   ·exact m
   exact(Jy.1 m).2
  match i,j with
  |0,0=>rfl
  |0,j+1=>
   simp at hi u;subst hi;simp only[OV,JZ]at m;exact absurd (q j u) (Jy.1 m).1
  |i+1,0=>
   simp at hi u;subst u;simp only[OV,JZ]at m;exact absurd (q i hi) (Jy.1 m).1
  |i+1,j+1=>rw[abJ z i j k Fp MR]
def Em.back {ok:Nat→Prop} {w:World} {H:List BO} {h:BO} {e:Ar} (π:List (Nat×Bool)) (M:e.backOk π=true) (j:Em ok w H h e):Em ok w (π.map fun p=>H.getD p.1 ⟨undef,0⟩) h (e.back π):=by
 cases e with
 |dead=>trivial
 |box cs=>
  obtain⟨b,vs,T,m,q,u,z⟩:=j;refine⟨b,vs,T,m,q,MR,fun i hi=>?_⟩;rw[CM]at hi;rw[Uy _ _ _ hi];refine⟨?_,(z i hi).2.uO π⟩;simp only[Ar.backOk,DT]at M;exact M _ MG
 |arr e s es=>
  obtain⟨m,q,xs,u,z,O⟩:=j;refine⟨m,q,xs,u,z,fun i hi=>⟨(O i hi).1,?_⟩⟩;have I:=(O i hi).2;have J:(flat es).getD i .junk∈flat es:=MG
  unfold flat at J ⊢;simp only[TW,Ee]at J;obtain⟨x,_,y,_,U⟩:=J;unfold flat at I;rw[←U]at I ⊢;cases I with |d _ _ h=>exact .d _ _ h
 |map es=>exact j
 |eY es=>exact j
 |iter es vis=>exact j
 |loop tm slots rc st Y=>
  obtain⟨l,fn,D,m,q,u,z⟩:=j;refine⟨l,fn,D,m,q,MR,fun t L=>?_⟩;rw[CM]at L;rw[Uy _ _ _ L];exact(z t L).back π
def aal {π:List (Nat×Bool)} {e:Ar}:(e.back π).live=e.live:=by cases e<;>rfl
def Cb.norm {C:EN} {ok:Nat→Prop} {H:List BO} {es:List Ar} {w:World} (M:Cb C ok H es w) (π:List (Nat×Bool)) (Y:Us C.H0.length es π=true):
 Cb C ok (π.map fun p=>H.getD p.1 ⟨undef,0⟩) (Rs es π) w:=by
 unfold Us at Y;simp only[CW,G8,Q5,DT]at Y;obtain⟨⟨⟨hlt,hnd⟩,hpre⟩,hbk⟩:=Y
 have u:∀(j:Nat) (h:BO),(π.map fun p=>H.getD p.1 ⟨undef,0⟩)[j]? =some h→∃p,π[j]? =some p∧p.1<es.length∧H[p.1]? =some h:=by
  intro j h m;rw[JC]at m;cases q:π[j]? with
  |none=>rw[q]at m;simp at m
  |some p=>
   rw[q]at m;have z:p.1<es.length:=hlt p (WL q);refine⟨p,rfl,z,?_⟩;have hkH:p.1<H.length:=by rw[M.hlen];exact z
   simp[List.getD,hkH]at m ⊢;exact m
 have I:∀(j:Nat) (p:Nat×Bool) (e:Ar),(Rs es π)[j]? =some e→π[j]? =some p→p.1<es.length→(p.2=false∧e=.dead)∨(p.2=true∧∃O,es[p.1]? =some O∧e=O.back π∧p∈π):=by
  intro j p e m q z;unfold Rs at m;rw[JC,q]at m;cases hb:p.2 with
  |false=>simp[hb]at m;exact .inl ⟨rfl,m.symm⟩
  |true=>
   simp[hb,List.getD,z]at m;exact .inr ⟨rfl,es[p.1],by simp[z],m.symm,WL q⟩
 refine⟨M.fr,M.yR,M.yS,M.kL,?_,by simp[Rs],?_,?_,?_⟩
 ·intro k v hv;have z:k<C.H0.length:=(Fb.1 hv).1;have h1:((π.take C.H0.length).map (·.1))[k]? =some k:=by rw[hpre];simp[z]
  rw[JC,Na z]at h1;have h2:=M.names k v hv;cases q:π[k]? with
  |none=>rw[q]at h1;simp at h1
  |some p=>
   rw[q]at h1;have hpk:p.1=k:=by simpa using h1
   rw[JC,q];simp[List.getD,hpk,h2]
 ·intro j e h m hh;obtain⟨p,q,z,hH⟩:=u j h hh;rcases I j p e m q z with⟨_,rfl⟩|⟨_,O,J,rfl,L⟩
  ·trivial
  refine(M.ent p.1 O h J hH).back π ?_;have :=hbk p L;simpa[List.getD,J]using this
 ·intro j e h b m hl hh hb;obtain⟨p,q,z,hH⟩:=u j h hh;rcases I j p e m q z with⟨_,rfl⟩|⟨_,O,J,rfl,L⟩
  ·cases hl
  rw[aal]at hl;exact M.blk p.1 O h b J hl hH hb
 intro j j' e e' h h' b m hj' hl Z hh hh' hb hb';obtain⟨p,q,z,hH⟩:=u j h hh;obtain⟨p',hp',hk',hH'⟩:=u j' h' hh';rcases I j p e m q z with⟨_,rfl⟩|⟨hpt,O,J,rfl,L⟩
 ·cases hl
 rcases I j' p' e' hj' hp' hk' with⟨_,rfl⟩|⟨U,e0',aFc,rfl,hmem'⟩
 ·cases Z
 rw[aal]at hl Z;have hkk:=M.E5 p.1 p'.1 O e0' h h' b J aFc hl Z hH hH' hb hb';obtain⟨k,bb⟩:=p;obtain⟨k',bb'⟩:=p';simp only at hkk hpt U;subst hkk;subst hpt;subst U;exact abJ hnd j j' k q hp'
def Kv (π:List (Nat×Bool)):List Bool→List AY→List AY
 |_,[]=>[]
 |true::m,x::xs=>x.back π::Kv π m xs
 |false::m,_::xs=>.junk::Kv π m xs
 | [],_::xs=>.junk::Kv π [] xs
def aAk (π:List (Nat×Bool)):∀(m:List Bool) (l:List AY),(Kv π m l).length=l.length
 |_,[]=>by unfold Kv;rfl
 |true::m,x::xs=>by simp[Kv,aAk π m xs]
 |false::m,x::xs=>by simp[Kv,aAk π m xs]
 | [],x::xs=>by simp[Kv,aAk π [] xs]
def aGJ (π:List (Nat×Bool)):∀(m:List Bool) (l:List AY) (t:Nat),(Kv π m l).getD t .junk=(l.getD t .junk).back π∨(Kv π m l).getD t .junk=.junk
 |_,[],t=>by unfold Kv;right;simp
 |true::m,x::xs,0=>by left;simp[Kv]
 |false::m,x::xs,0=>by right;simp[Kv]
 | [],x::xs,0=>by right;simp[Kv]
 |true::m,x::xs,t+1=>by simpa[Kv]using aGJ π m xs t
 |false::m,x::xs,t+1=>by simpa[Kv]using aGJ π m xs t
 | [],x::xs,t+1=>by simpa[Kv]using aGJ π [] xs t
def aEm (σ S:Ak):Prop:=∃(m:List Bool) (π:List (Nat×Bool)),Us σ.base σ.ents π=true∧S=⟨Kv π m σ.slots,Rs σ.ents π,σ.base⟩
def Holds.aFd {C:EN} {ok:Nat→Prop} {H:List BO} {σ S:Ak} {a:Act} {w:World} (h:Holds C ok H σ a w) (hs:aEm σ S):∃H',Holds C ok H' S a w:=by
 obtain⟨m,π,j,rfl⟩:=hs;refine⟨π.map fun p=>H.getD p.1 ⟨undef,0⟩,h.mem.norm π (h.base▸j),by simp[aAk,h.size],h.defers,h.base,fun t q=>?_⟩;rcases aGJ π m σ.slots t with e|e
 ·simp only[e];exact(h.get (.tmp t)).back π
 simp only[e];exact .junk _
def CS (σ S:Ak):Prop:=∀(C:EN) (ok:Nat→Prop) (H:List BO) (a:Act) (w:World),Holds C ok H σ a w→∃ok' H',Holds C ok' H' S a w
def aEm.sub {σ S:Ak} (h:aEm σ S):CS σ S:=fun _ ok _ _ _ j=>let⟨H',h'⟩:=j.aFd h;⟨ok,H',h'⟩
def ark {σ S:Ak} (j:Ak) (h:∀C ok H a w,Holds C ok H σ a w→∃ok',Holds C ok' H j a w) (k:CS j S):CS σ S:=fun C _ H a w m=>let⟨ok',h'⟩:=h C _ H a w m;k C ok' H a w h'
section
variable {P : Program} {ops : Array Oper} {Q : Exit → Act → World → Prop}
def toCome (j:Array Bool):Nat:=(j.toList.filter (!·)).length
def toCome_set {j:Array Bool} {i:Nat} (hi:i<j.size) (h:j.getD i true=false):toCome (j.setIfInBounds i true)+1=toCome j:=by
 unfold toCome;have hl:j.toList[i]' Fp=false:=by simpa[Array.getD,hi]using h
 have e:j.toList=j.toList.take i++false::j.toList.drop (i+1):=by
  rw[←hl,List.getElem_cons_drop,Xx]
 have m:(j.setIfInBounds i true).toList=j.toList.take i++true::j.toList.drop (i+1):=by
  rw[aP1,aJK,CV Fp]
 rw[m]
 conv=>rhs;rw[e]
 simp[Pj];omega
def written (ops:Array Oper):List Tmp:=ops.toList.filterMap (·.dst)
def VX (ops:Array Oper):Bool:=(List.range ops.size).all fun i=>(List.range ops.size).all fun j=>i==j||match(ops[i]?).bind (·.dst),(ops[j]?).bind (·.dst)with
 |some d,some m=>d != m
 |_,_=>true
def V9 (ops:Array Oper) (n:Nat):Bool:=(written ops).all fun d=>decide (d<n)
def aKN (h:VX ops=true):∀(i j:Nat) (o m:Oper) (d:Tmp),ops[i]? =some o→ops[j]? =some m→o.dst=some d→m.dst=some d→i=j:=by
 intro i j o m d q u z I;unfold VX at h;rw[DT]at h;have hi:i<ops.size:=(G6.1 q).1;have J:j<ops.size:=(G6.1 u).1;have :=h i Fp;rw[DT]at this;have :=this j Uu;rw[q,u]at this;simp[z,I]at this;exact this
def aKJ {i:Nat} {o:Oper} {d:Tmp} (h:ops[i]? =some o) (hd:o.dst=some d):d∈written ops:=by
 unfold written;rw[U5]
 exact⟨o,by
  have⟨hi,j⟩:=G6.1 h
  rw[←j];exact Array.getElem_mem_toList hi,hd⟩
def aKs {a:Act} {d:Tmp} {v:Value} (h:d<a.tmps.size):(a.put (some d) v).tmps.getD d undef=v:=by
 simp[Act.put,Array.getD,h]
def aMb {a:Act} {d t:Tmp} {v:Value} (h:d≠t):(a.put (some d) v).tmps.getD t undef=a.tmps.getD t undef:=by
 simp[Act.put,H8,KD h]
def size_put {a:Act} {d:Option Tmp} {v:Value}:(a.put d v).tmps.size=a.tmps.size:=by cases d<;>simp[Act.put]
def ank {a:Act} {d:Option Tmp} {v:Value}:(a.put d v).defers=a.defers:=by cases d<;>rfl
end
def VK (ops:Array Oper) (σ:Ak) (g:Option (Nat×Bool)):Prop:=g=none∨
 ∃j m d b,g=some (j,m)∧(ops[j]?).bind (·.dst)=some d∧σ.slots.getD d .junk=.d (.lit (.bool b))∧b=m
def YG (ops:Array Oper) (σ:Ak) (g:Option (Nat×Bool)):Prop:=
 ∃j m d v,g=some (j,m)∧(ops[j]?).bind (·.dst)=some d∧σ.slots.getD d .junk=.d (.lit v)∧(v=.bool (!m)∨v=undef)
def aoR {ops:Array Oper} {σ:Ak} {g:Option (Nat×Bool)} (j:Nat) (m:Bool) (d:Nat) (b:Bool) (q:g=some (j,m)) (hd:(ops[j]?).bind (·.dst)=some d) (hs:σ.slots.getD d .junk=.d (.lit (.bool b))) (u:b= !m):YG ops σ g:=⟨j,m,d,_,q,hd,hs,.inl (by rw[u])⟩
def akP {ops:Array Oper} {σ:Ak} {g:Option (Nat×Bool)} (j:Nat) (m:Bool) (d:Nat) (q:g=some (j,m)) (hd:(ops[j]?).bind (·.dst)=some d) (hs:σ.slots.getD d .junk=.d (.lit undef)):YG ops σ g:=⟨j,m,d,_,q,hd,hs,.inr rfl⟩
def R.bool {ok:Nat→Prop} {w:World} {H:List BO} {u v:Value} (h:R ok w H (.d (.lit u)) v):v=u:=by
 cases h with |d _ _ h=>cases h;rfl
def aiG {C:EN} {ok:Nat→Prop} {H:List BO} {σ:Ak} {a:Act} {w:World} (h:Holds C ok H σ a w) {ops:Array Oper} {j d:Nat} {v:Value}
 (u:(ops[j]?).bind (·.dst)=some d) (m:σ.slots.getD d .junk=.d (.lit v)):yielded ops a.tmps j=(match v with | .bool b=>some b|_=>none):=by
 have hd:d<σ.slots.length:=by
  apply Vq;intro z;rw[dw z]at m;cases m
 have q:=(m▸h.slot d hd).bool
 have hs:a.tmps[d]? =some v:=by
  have :d<a.tmps.size:=by rw[h.size];exact hd
  simp[Array.getD,this]at q;simp[this,q]
 unfold yielded;rw[u];simp only[AQ,hs];cases v<;>rfl
def atB {C:EN} {ok:Nat→Prop} {H:List BO} {σ:Ak} {a:Act} {w:World} (h:Holds C ok H σ a w) {ops:Array Oper} {j d:Nat} {b:Bool}
 (u:(ops[j]?).bind (·.dst)=some d) (m:σ.slots.getD d .junk=.d (.lit (.bool b))):yielded ops a.tmps j=some b:=by
 have hd:d<σ.slots.length:=by
  apply Vq;intro z;rw[dw z]at m;cases m
 have q:=(m▸h.slot d hd).bool
 have hs:a.tmps[d]? =some (.bool b):=by
  have :d<a.tmps.size:=by rw[h.size];exact hd
  simp[Array.getD,this]at q;simp[this,q]
 unfold yielded;rw[u];simp only[AQ,hs]
def PZ {C:EN} {ok:Nat→Prop} {H:List BO} {σ:Ak} {a:Act} {w:World} (h:Holds C ok H σ a w) {ops:Array Oper} {o:Oper} (m:VK ops σ o.guard):Region.wanted o (yielded ops a.tmps)=true:=by
 unfold Region.wanted;rcases m with m|⟨j,q,d,b,m,u,z,rfl⟩
 ·rw[m]
 rw[m];show(yielded ops a.tmps j==some b)=true;rw[atB h u z];simp
def aMO {C:EN} {ok:Nat→Prop} {H:List BO} {σ:Ak} {a:Act} {w:World} (h:Holds C ok H σ a w) {ops:Array Oper} {o:Oper} (q:YG ops σ o.guard):Region.wanted o (yielded ops a.tmps)=false:=by
 unfold Region.wanted;obtain⟨j,m,d,v,q,u,z,I⟩:=q;rw[q];show(yielded ops a.tmps j==some m)=false;rw[aiG h u z];rcases I with rfl|rfl
 ·simp
 rfl
def needs (σ:Ak):List (Operand×AY)→Prop
 | []=>True
 |n::ns=>σ.get n.1=n.2∧needs σ ns
def PK {σ:Ak}:∀{ns:List (Operand×AY)},needs σ ns→∀n∈ns,σ.get n.1=n.2
 | [],_,n,h=>I8
 |m::ns,j,n,h=>by
  rcases Ei.1 h with rfl|h
  ·exact j.1
  exact PK j.2 n h
def tmpsOf (o:Oper):List Tmp:=o.op.operands.toList.filterMap fun | .tmp t=>some t|_=>none
def Lh (ns:List (Operand×AY)):List Tmp:=ns.filterMap fun n=>match n.1 with | .tmp t=>some t|_=>none
def Si (P:Program) (ops:Array Oper) (σ:Ak) (x:AY) (E:List Ar) (bar:Bool) (o:Oper):Prop:=
 ((∃ns,BU P o ns σ.ents x E∧needs σ ns∧(Lh ns).all (tmpsOf o).contains=true∧VK ops σ o.guard)∨(x=.d (.lit undef)∧E=σ.ents∧YG ops σ o.guard))∧(bar=false→E=σ.ents)
def aQr {P:Program} {ops:Array Oper} {σ:Ak} {x:AY} {o:Oper} {ns:List (Operand×AY)} (h:BU P o ns σ.ents x σ.ents) (j:needs σ ns) (m:VK ops σ o.guard) (q:(Lh ns).all (tmpsOf o).contains=true):Si P ops σ x σ.ents false o:=
 ⟨.inl ⟨ns,h,j,q,m⟩,fun _=>rfl⟩
def Iz (ro:Option Nat):Fence:={ fn:=fun _=>True,depth:=none,alive:=false,round:=ro }
def aA3 {ro:Option Nat} {n:Nat} {P:Program} {f:FuncId} {args:Array Value} {w:World} {R:Ending→World→Prop}:CallsIn (Iz ro) n P f args w R↔Calls P f args w R:=
 callsIn_wide (n:=n)
def aq5 {ro:Option Nat} {n:Nat} {P:Program} {j:String} {args:Array Value} {w:World} {R:Value→World→Prop} (h:Rows P j args w R):RowsIn (Iz ro) n P j args w R:=
 fun c cs _=>let⟨v,w',r,s⟩:=h c cs;⟨v,w',r,(stepsIn_wide (P:=P)).2 s⟩
def BU.aBG {P:Program} {o:Oper} {ns:List (Operand×AY)} {es es':List Ar} {x:AY} (h:BU P o ns es x es') {C:EN} {ok:Nat→Prop} {H:List BO} {a:Act} {w:World} (q:Cb C ok H es w) (u:∀n∈ns,R ok w H n.2 (a.eval n.1)):∀c,o.op≠ .defer c:=by
 intro c z;have j:=h C ok H a w (fun _ _ _=>False) q u;unfold Oper.wp execOp at j;rw[z]at j;simp only[FD]at j;cases m:(resolve a.eval c o.type).run P w with
 |ok d w'=>
  rw[m]at j;simp only[Result.andThen]at j;obtain⟨v,_,_,I,_⟩:=j;have :=BI (fun a=>a.defers.length) I;cases J:o.dst<;>simp[Act.put,J]at this
 |halt x w'=>
  rw[m]at j;cases x<;>exact j
def BU.inR {P:Program} {o:Oper} {ns:List (Operand×AY)} {es es':List Ar} {x:AY} (h:BU P o ns es x es') (ro:Option Nat) (C:EN) (ok:Nat→Prop) (H:List BO) (a:Act) (w:World) (Q:Exit→Act→World→Prop)
 (m:Cb C ok H es w) (q:∀n∈ns,R ok w H n.2 (a.eval n.1)):
 o.wpIn (Iz ro) 0 P a w (fun a' w'=>∃v ok' H',a'=a.put o.dst v∧ES ok w ok' w'∧Names H H'∧Cb C ok' H' es' w'∧R ok' w' H' x v) Q:=by
 have j:=h C ok H a w Q m q;refine⟨fun _ _=>trivial,?_⟩;rw[iC _ _ _ (h.aBG m q)];unfold Oper.wp at j;generalize(execOp a.eval o).run P w=r at j;cases r with
 |ok n w'=>
  cases n<;>first
   |exact j
   |exact j.elim
   |exact⟨fun h=>GL,aA3.2 j⟩
   |exact⟨fun h=>GL,aq5 j⟩
 |halt x w'=>cases x<;>exact j
inductive Chain (P:Program) (ops:Array Oper):List Oper→Ak→Ak→Prop
 |nil (σ:Ak):Chain P ops [] σ σ
 |op {o:Oper} {rest:List Oper} {σ σ':Ak} {ns:List (Operand×AY)} {x:AY} (d:Option Tmp) (h:BU P o ns σ.ents x σ.ents) (hn:needs σ ns) (hg:VK ops σ o.guard) (hd:o.dst=d)
  (k:Chain P ops rest (σ.rW d x) σ'):Chain P ops (o::rest) σ σ'
 |oe {o:Oper} {rest:List Oper} {σ σ':Ak} {ns:List (Operand×AY)} {x:AY} {es':List Ar} (d:Option Tmp) (E:List Ar) (h:BU P o ns σ.ents x es') (he:es'=E) (hn:needs σ ns) (hg:VK ops σ o.guard) (hd:o.dst=d)
  (k:Chain P ops rest (σ.put d x E) σ'):Chain P ops (o::rest) σ σ'
 |skip {o:Oper} {rest:List Oper} {σ σ':Ak} (d:Option Tmp) (hg:YG ops σ o.guard) (hd:o.dst=d) (k:Chain P ops rest (σ.rW d (.d (.lit undef))) σ'):Chain P ops (o::rest) σ σ'
 |any {o:Oper} {rest:List Oper} {σ σ':Ak} {x:AY} (d:Option Tmp) (h:Si P ops σ x σ.ents false o) (hd:o.dst=d) (k:Chain P ops rest (σ.rW d x) σ'):Chain P ops (o::rest) σ σ'
 |aeR {o:Oper} {rest:List Oper} {σ σ':Ak} {x:AY} {E:List Ar} {bar:Bool} (d:Option Tmp) (h:Si P ops σ x E bar o) (hd:o.dst=d) (k:Chain P ops rest (σ.put d x E) σ'):Chain P ops (o::rest) σ σ'
 |conv {rest:List Oper} {σ σ':Ak} (σ2:Ak) (h:∀C ok H a w,Holds C ok H σ a w→∃ok',Holds C ok' H σ2 a w) (k:Chain P ops rest σ2 σ'):Chain P ops rest σ σ'
def Chain.sound {P:Program} {ops:Array Oper} {l:List Oper} {σ σ':Ak} (h:Chain P ops l σ σ') {ro:Option Nat} {C:EN} {H0:List BO} {Q:Exit→Act→World→Prop}:
 ∀{ok:Nat→Prop} {H:List BO} {a:Act} {w:World},Holds C ok H σ a w→Names H0 H→(∀ok' H' a' w',Holds C ok' H' σ' a' w'→Names H0 H'→Q .normal a' w')→wpListIn (Iz ro) 0 P ops Q l a w:=by
 induction h with
 |nil σ=>intro ok H a w j M u;exact u ok H a w j M
 | @op o rest σ σ' ns x d O M J hd k L=>
   intro ok H a w j m u;subst hd;unfold wpListIn;rw[CV (PZ j J)];refine Qh ?_ (O.inR ro C ok H a w Q j.mem (fun n z=>PK M n z▸j.get n.1));rintro a' w' ⟨v,ok',H',rfl,I,q,U,Y⟩;exact L (j.put o.dst I q U Y) (m.trans q) u
 | @oe o rest σ σ' ns x es' d E O he M J hd k L=>
   intro ok H a w j m u;subst hd;subst he;unfold wpListIn;rw[CV (PZ j J)];refine Qh ?_ (O.inR ro C ok H a w Q j.mem (fun n z=>PK M n z▸j.get n.1));rintro a' w' ⟨v,ok',H',rfl,I,q,U,Y⟩;exact L (j.put o.dst I q U Y) (m.trans q) u
 | @skip o rest σ σ' d J hd k L=>
   intro ok H a w j m u;subst hd;unfold wpListIn;rw[Cc mP];exact⟨fun _ _=>trivial,L (j.put o.dst (.refl _ _) (.refl _) j.mem (.d _ _ (.lit _))) m u⟩
 | @any o rest σ σ' x d hs hd k L=>
   intro ok H a w j m u;subst hd;unfold wpListIn;rcases hs.1 with⟨ns,O,M,_,J⟩|⟨rfl,_,J⟩
   ·rw[CV (PZ j J)];refine Qh ?_ (O.inR ro C ok H a w Q j.mem (fun n z=>PK M n z▸j.get n.1));rintro a' w' ⟨v,ok',H',rfl,I,q,U,Y⟩;exact L (j.put o.dst I q U Y) (m.trans q) u
   rw[Cc mP];exact⟨fun _ _=>trivial,L (j.put o.dst (.refl _ _) (.refl _) j.mem (.d _ _ (.lit _))) m u⟩
 | @aeR o rest σ σ' x E bar d hs hd k L=>
   intro ok H a w j m u;subst hd;unfold wpListIn;rcases hs.1 with⟨ns,O,M,_,J⟩|⟨rfl,rfl,J⟩
   ·rw[CV (PZ j J)];refine Qh ?_ (O.inR ro C ok H a w Q j.mem (fun n z=>PK M n z▸j.get n.1));rintro a' w' ⟨v,ok',H',rfl,I,q,U,Y⟩;exact L (j.put o.dst I q U Y) (m.trans q) u
   rw[Cc mP];exact⟨fun _ _=>trivial,L (j.put o.dst (.refl _ _) (.refl _) j.mem (.d _ _ (.lit _))) m u⟩
 |conv σ2 hc k L=>
  intro ok H a w j m u;obtain⟨ok',Z⟩:=hc C ok H a w j;exact L Z m u
def PN :Code→Bool
 | .seq a b=>PN a&&PN b
 | .cond _ a b=>PN a&&PN b
 | .block _ a=>PN a
 | .loop a=>PN a
 | .scope a=>PN a
 | .rangeFunc .. =>false
 |_=>true
def xw (ro:Option Nat) (c:Code):Prop:=ro=none∨PN c=true
def xw.two {ro:Option Nat} {c x y:Code} (h:xw ro c) (e:PN c=(PN x&&PN y)):xw ro x∧xw ro y:=by
 rcases h with h|h
 ·exact⟨.inl h,.inl h⟩
 rw[e,CW]at h;exact⟨.inr h.1,.inr h.2⟩
def afm (P:Program) (c:Code) (σ:Ak) (Q:Exit→Ak→Prop):Prop:=
 ∀(ro:Option Nat),xw ro c→∀(C:EN) (ok:Nat→Prop) (H:List BO) (a:Act) (w:World),Holds C ok H σ a w→c.wpIn (Iz ro) 0 P (fun e a' w'=>∃ok' H' σ',Holds C ok' H' σ' a' w'∧Q e σ') a w
structure AP (P:Program) (c:Code) (σ:Ak) (Q:Exit→Ak→Prop):Prop where
 run:afm P c σ Q
section
variable {P : Program} {σ σ' : Ak} {Q : Exit → Ak → Prop}
def AP.mono {c:Code} {Q':Exit→Ak→Prop} (h:AP P c σ Q) (j:∀e σ,Q e σ→Q' e σ):AP P c σ Q':=
 ⟨fun ro m C ok H a w q=>Uc (h.run ro m C ok H a w q) fun _ _ _ ⟨ok',H',σ',u,z⟩=>⟨ok',H',σ',u,j _ _ z⟩⟩
def AP.region {id:Nat} {ops:Array Oper} (h:Chain P ops ops.toList σ σ') (j:Q .normal σ'):AP P (.region id ops false) σ Q:=⟨fun ro _ C ok H a w m=>
 aKX (h.sound m (.refl H) fun ok' H' a' w' q _=>⟨ok',H',σ',q,j⟩)⟩
def AP.skip (h:Q .normal σ):AP P .skip σ Q:=⟨fun _ _ _ ok H a w j=>wpIn_skip ⟨ok,H,σ,j,h⟩⟩
def AP.label {l:Nat} (h:Q .normal σ):AP P (.label l) σ Q:=⟨fun _ _ _ ok H a w j=>wpIn_label ⟨ok,H,σ,j,h⟩⟩
def AP.exit {i:Nat} (h:Q (.exit i) σ):AP P (.exit i) σ Q:=⟨fun _ _ _ ok H a w j=>wpIn_exit ⟨ok,H,σ,j,h⟩⟩
def AP.ret (h:Q .ret σ):AP P .ret σ Q:=⟨fun _ _ _ ok H a w j=>wpIn_ret ⟨ok,H,σ,j,h⟩⟩
def Ko (K:Ak→Prop) (Q:Exit→Ak→Prop):Exit→Ak→Prop
 | .normal,σ=>K σ
 |e,σ=>Q e σ
def AP.seq {x y:Code} (K:Ak→Prop) (u:AP P x σ (Ko K Q)) (z:∀σ',K σ'→AP P y σ' Q):AP P (.seq x y) σ Q:=⟨fun ro j C ok H a w I=>
 wpIn_seq (Uc (u.run ro (j.two rfl).1 C ok H a w I) (by
  rintro e a' w' ⟨ok',H',σ',m,q⟩;cases e with
  |normal=>exact(z σ' q).run ro (j.two rfl).2 C ok' H' a' w' m
  |_=>exact⟨ok',H',σ',m,q⟩))⟩
def AP.seq1 {x y:Code} (j:Ak) (m:AP P x σ (Ko (fun σ'=>σ'=j) Q)) (q:AP P y j Q):AP P (.seq x y) σ Q:=AP.seq _ m (fun _ e=>e▸q)
def AP.cond {c:Operand} {x y:Code} (b:Bool) (q:σ.get c=.d (.lit (.bool b))) (u:b=true→AP P x σ Q) (z:b=false→AP P y σ Q):AP P (.cond c x y) σ Q:=by
 refine⟨fun ro m C ok H a w j=>?_⟩;have e:=(q▸j.get c).bool;exact wpIn_cond_split e (fun h=>(u h).run ro (m.two rfl).1 C ok H a w j) (fun h=>(z h).run ro (m.two rfl).2 C ok H a w j)
def aUL (i:Nat) (Q:Exit→Ak→Prop):Exit→Ak→Prop
 | .exit j,σ=>if j=i then Q .normal σ else Q (.exit j) σ
 |e,σ=>Q e σ
def AP.block {i:Nat} {c:Code} (h:AP P c σ (aUL i Q)):AP P (.block i c) σ Q:=⟨fun ro z C ok H a w I=>
 wpIn_block (Uc (h.run ro z C ok H a w I) (by
  rintro e a' w' ⟨ok',H',σ',q,m⟩;cases e with
  |exit j=>
   show if j=i then _ else _
   simp only[aUL]at m;split<;>rename_i u
   ·rw[CV u]at m;exact⟨ok',H',σ',q,m⟩
   rw[Cc u]at m;exact⟨ok',H',σ',q,m⟩
  |_=>exact⟨ok',H',σ',q,m⟩))⟩
def atP {ro:Option Nat} {P:Program} {Q:Exit→Act→World→Prop} {c:Code} (I:Nat→Act→World→Prop)
 (round:∀n a w,I n a w→c.wpIn (Iz ro) 0 P (Exit.then (fun a' w'=>∃m,m<n∧I m a' w') Q) a w):∀n a w,I n a w→(Code.loop c).wpIn (Iz ro) 0 P Q a w:=by
 intro n a w Z b k cs J L M
 have key:∀n a w,I n a w→∃e a' w',Q e a' w'∧ArrivesIn (Machine.fenced P (Iz ro)) P (lone (b.atR a (.code c::.inLoop c::k)) cs w) b k cs e a' w':=by
  intro n
  induction n using Nat.strongRecOn with
  |_ n ih=>
   intro a w hI;obtain⟨e,u,z,j,harr⟩:=round n a w hI b (.inLoop c::k) cs J L M;cases e with
   |normal=>
    obtain⟨m,O,U⟩:=j;obtain⟨e₂,a₂,w₂,Y,q⟩:=ih m O u z U;exact⟨e₂,a₂,w₂,Y,.of_steps (StepsIn.trans harr (.one (fenced_calm L M rfl) stepR_inLoop)) q⟩
   |exit id=>exact⟨_,u,z,j,.pass (x:=.inLoop c) rfl (fun _ _=>.inl Ap) harr⟩
   |goto l=>exact⟨_,u,z,j,.pass (x:=.inLoop c) rfl (fun _ _=>.inl Ap) harr⟩
   |ret=>exact⟨_,u,z,j,.pass (x:=.inLoop c) rfl (fun _ _=>.inl Ap) harr⟩
   |panic ch=>exact⟨_,u,z,j,.pass (x:=.inLoop c) rfl (fun _ _=>.inl Ap) harr⟩
   |outgrown=>exact⟨_,u,z,j,.pass (x:=.inLoop c) rfl (fun _ _=>.inl Ap) harr⟩
 obtain⟨e,a',w',j,harr⟩:=key n a w Z;exact⟨e,a',w',j,.of_steps (.one (fenced_calm L M rfl) stepR_loop) harr⟩
def AP.loop {c:Code} (I:Nat→Ak→Prop) (n:Nat) (h:I n σ) (round:∀n σ,I n σ→AP P c σ (Ko (fun σ'=>∃m,m<n∧I m σ') Q)):AP P (.loop c) σ Q:=by
 refine⟨fun ro J C ok H a w j=>?_⟩;refine atP (fun n a w=>∃ok H σ,Holds C ok H σ a w∧I n σ) ?_ n a w ⟨ok,H,σ,j,h⟩;rintro n a w ⟨ok,H,σ,j,L⟩;refine Uc ((round n σ L).run ro J C ok H a w j) ?_;rintro e a' w' ⟨ok',H',σ',u,z⟩;cases e with
 |normal=>obtain⟨m,M,q⟩:=z;exact⟨m,M,ok',H',σ',u,q⟩
 |_=>exact⟨ok',H',σ',u,z⟩
end
def Cm {P:Program} {σ S:Ak} {Q:Exit→Ak→Prop} {c:Code} (hs:CS σ S) (h:AP P c S Q):AP P c σ Q:=⟨fun ro j C ok H a w m=>by
 obtain⟨ok',H',h'⟩:=hs C ok H a w m
 exact h.run ro j C ok' H' a w h'⟩
section
variable {P : Program} {ops : Array Oper} {Q : Exit → Act → World → Prop}
def Opn {F:Fence} {n:Nat} (I:Array Bool→Act→World→Prop) (j:∀l a w,I l a w→l.size=ops.size)
 (u:∀l a w,I l a w→∀i,i∈Region.ready .any ops l→wpOpIn F n P ops Q i (fun a' w'=>I (l.setIfInBounds i true) a' w') a w)
 (q:∀l a w,I l a w→Region.ready .any ops l=[]→Q .normal a w):
 ∀(Af:Nat) l a w,toCome l≤Af→I l a w→wpAnyIn F n P .any ops Q Af l a w:=by
 intro Af
 induction Af with
 |zero=>
  intro l a w M J
  have O:Region.ready .any ops l=[]:=by
   unfold Region.ready;rw[Zb];intro i hi;have z:i<l.size:=by rw[j l a w J];simpa using hi
   have U:l.toList.filter (!·)=[]:=Gg (by unfold toCome at M;omega);rw[Zb]at U;have :=U (l[i]) Ap;have L:l[i]=true:=aIW
   simp[Array.getD,z,L]
  exact⟨O,q l a w J O⟩
 |succ Af Y=>
  intro l a w M J;refine⟨q l a w J,fun i hi=>?_⟩;have m:=hi;unfold Region.ready at m;rw[EY]at m;have z:i<l.size:=by rw[j l a w J];simpa using m.1
  have Z:l.getD i true=false:=by
   have :=m.2;simp only[CW,Sl]at this;exact this.1
  have hs:=toCome_set z Z;exact wpOpIn_mono (fun a' w' h=>Y _ a' w' AA h) (u l a w J i hi)
end
def GR (o:Oper) (j:Nat):Bool:=o.after.toList.any fun e=>decide (e.on=j)&&Region.binds .any e
def X9 (ops:Array Oper):Bool:=(List.range ops.size).all fun i=>match ops[i]? with
 |some o=>((List.range ops.size).all fun j=>match(ops[j]?).bind (·.dst)with
  |some d=> !(tmpsOf o).contains d||GR o j||(match ops[j]? with |some m=>GR m i|none=>false)
  |none=>true)&&(match o.guard with |some (j,_)=>GR o j|none=>true)
 |none=>true
inductive Ew (P:Program) (ops:Array Oper):List Oper→Ak→List AY→List (List Ar)→List Bool→Ak→Prop
 |nil (σ:Ak):Ew P ops [] σ [] [] [] σ
 |op {o:Oper} {rest:List Oper} {σ σ':Ak} {ns:List (Operand×AY)} {x:AY} {rs:List AY} {ess:List (List Ar)} {bs:List Bool} (d:Option Tmp) (h:BU P o ns σ.ents x σ.ents) (hn:needs σ ns)
  (hg:VK ops σ o.guard) (hd:o.dst=d) (ht:(Lh ns).all (tmpsOf o).contains=true) (k:Ew P ops rest (σ.rW d x) rs ess bs σ'):Ew P ops (o::rest) σ (x::rs) (σ.ents::ess) (false::bs) σ'
 |oe {o:Oper} {rest:List Oper} {σ σ':Ak} {ns:List (Operand×AY)} {x:AY} {es':List Ar} {rs:List AY} {ess:List (List Ar)} {bs:List Bool} (d:Option Tmp) (E:List Ar) (h:BU P o ns σ.ents x es') (he:es'=E) (hn:needs σ ns)
  (hg:VK ops σ o.guard) (hd:o.dst=d) (ht:(Lh ns).all (tmpsOf o).contains=true) (k:Ew P ops rest (σ.put d x E) rs ess bs σ'):Ew P ops (o::rest) σ (x::rs) (E::ess) (true::bs) σ'
 |any {o:Oper} {rest:List Oper} {σ σ':Ak} {x:AY} {rs:List AY} {ess:List (List Ar)} {bs:List Bool} (d:Option Tmp) (h:Si P ops σ x σ.ents false o) (hd:o.dst=d) (k:Ew P ops rest (σ.rW d x) rs ess bs σ'):Ew P ops (o::rest) σ (x::rs) (σ.ents::ess) (false::bs) σ'
 |aeR {o:Oper} {rest:List Oper} {σ σ':Ak} {x:AY} {E:List Ar} {bar:Bool} {rs:List AY} {ess:List (List Ar)} {bs:List Bool} (d:Option Tmp) (h:Si P ops σ x E bar o) (hd:o.dst=d) (k:Ew P ops rest (σ.put d x E) rs ess bs σ'):Ew P ops (o::rest) σ (x::rs) (E::ess) (bar::bs) σ'
 |skip {o:Oper} {rest:List Oper} {σ σ':Ak} {rs:List AY} {ess:List (List Ar)} {bs:List Bool} (d:Option Tmp) (hg:YG ops σ o.guard) (hd:o.dst=d) (k:Ew P ops rest (σ.rW d (.d (.lit undef))) rs ess bs σ'):Ew P ops (o::rest) σ (.d (.lit undef)::rs) (σ.ents::ess) (false::bs) σ'
section
variable {P : Program} {ops : Array Oper} {es : List Ar}
def Ec (ops:Array Oper) (σ0:Ak) (r:Nat→AY) (ev:Nat→List Ar):Nat→Ak
 |0=>σ0
 |i+1=>match ops[i]? with
  |some o=>(Ec ops σ0 r ev i).put o.dst (r i) (ev i)
  |none=>Ec ops σ0 r ev i
def Ew.facts {l:List Oper} {σ σ':Ak} {rs:List AY} {ess:List (List Ar)} {bs:List Bool} (h:Ew P ops l σ rs ess bs σ') (σ0:Ak) (r:Nat→AY) (ev:Nat→List Ar) (bar:Nat→Bool):∀i,(∀k:Nat,l[k]? =ops[i+k]?)→i+l.length=ops.size→σ=Ec ops σ0 r ev i→
 (∀(k:Nat) y,rs[k]? =some y→r (i+k)=y)→(∀(k:Nat) y,ess[k]? =some y→ev (i+k)=y)→(∀(k:Nat) y,bs[k]? =some y→bar (i+k)=y)→
 (∀j (o:Oper),i≤j→ops[j]? =some o→Si P ops (Ec ops σ0 r ev j) (r j) (ev j) (bar j) o)∧σ'=Ec ops σ0 r ev ops.size:=by
 induction h with
 |nil σ=>
  intro i hl I z J _ _;have :i=ops.size:=Qq
  subst this;refine⟨fun j o U ho=>?_,z⟩;have :=(G6.1 ho).1;omega
 | @op o rest σ σ' ns x rs ess bs d ho hn hg hd ht k Z=>
   intro i hl I z J L Y;subst hd;have M:ops[i]? =some o:=oU
   have O:r i=x:=aD4
   have q:ev i=σ.ents:=aM5
   obtain⟨h1,h2⟩:=Z (i+1) (fun k=>pJ) Td (by
    rw[Ak.Yz];simp only[Ec,M,O,q];rw[←z]) (fun k y u=>rZ)
    (fun k y u=>V8) (fun k y u=>qX)
   refine⟨fun j o' U m=>?_,h2⟩;by_cases e:i=j
   ·subst e;rw[M]at m;obtain rfl:=CO m;exact⟨.inl ⟨ns,by rw[O,q,←z];exact ho,z▸hn,ht,z▸hg⟩,fun _=>YH⟩
   exact h1 j o' AA m
 | @oe o rest σ σ' ns x es' rs ess bs d E ho hE hn hg hd ht k Z=>
   intro i hl I z J L Y;subst hd;subst hE;have M:ops[i]? =some o:=oU
   have O:r i=x:=aD4
   have q:ev i=es':=by simpa using L 0 es' Ap
   have hbr:bar i=true:=by simpa using Y 0 true Ap
   obtain⟨h1,h2⟩:=Z (i+1) (fun k=>pJ) Td (by
    simp only[Ec,M,O,q];rw[←z]) (fun k y u=>rZ)
    (fun k y u=>V8) (fun k y u=>qX)
   refine⟨fun j o' U m=>?_,h2⟩;by_cases e:i=j
   ·subst e;rw[M]at m;obtain rfl:=CO m;exact⟨.inl ⟨ns,by rw[O,q,←z];exact ho,z▸hn,ht,z▸hg⟩,fun hf=>by rw[hbr]at hf;cases hf⟩
   exact h1 j o' AA m
 | @any o rest σ σ' x rs ess bs d hs hd k Z=>
   intro i hl I z J L Y;subst hd;have M:ops[i]? =some o:=oU
   have O:r i=x:=aD4
   have q:ev i=σ.ents:=aM5
   obtain⟨h1,h2⟩:=Z (i+1) (fun k=>pJ) Td (by
    rw[Ak.Yz];simp only[Ec,M,O,q];rw[←z]) (fun k y u=>rZ)
    (fun k y u=>V8) (fun k y u=>qX)
   refine⟨fun j o' U m=>?_,h2⟩;by_cases e:i=j
   ·subst e;rw[M]at m;obtain rfl:=CO m;refine⟨?_,fun _=>YH⟩;rw[O,q,←z];exact hs.1
   exact h1 j o' AA m
 | @aeR o rest σ σ' x E br rs ess bs d hs hd k Z=>
   intro i hl I z J L Y;subst hd;have M:ops[i]? =some o:=oU
   have O:r i=x:=aD4
   have q:ev i=E:=by simpa using L 0 E Ap
   have hbr:bar i=br:=by simpa using Y 0 br Ap
   obtain⟨h1,h2⟩:=Z (i+1) (fun k=>pJ) Td (by
    simp only[Ec,M,O,q];rw[←z]) (fun k y u=>rZ)
    (fun k y u=>V8) (fun k y u=>qX)
   refine⟨fun j o' U m=>?_,h2⟩;by_cases e:i=j
   ·subst e;rw[M]at m;obtain rfl:=CO m;rw[O,q,hbr,←z];exact hs
   exact h1 j o' AA m
 | @skip o rest σ σ' rs ess bs d hg hd k Z=>
   intro i hl I z J L Y;subst hd;have M:ops[i]? =some o:=oU
   have O:r i=.d (.lit undef):=by simpa using J 0 (.d (.lit undef)) Ap
   have q:ev i=σ.ents:=aM5
   obtain⟨h1,h2⟩:=Z (i+1) (fun k=>pJ) Td (by
    rw[Ak.Yz];simp only[Ec,M,O,q];rw[←z]) (fun k y u=>rZ)
    (fun k y u=>V8) (fun k y u=>qX)
   refine⟨fun j o' U m=>?_,h2⟩;by_cases e:i=j
   ·subst e;rw[M]at m;obtain rfl:=CO m;exact⟨.inr ⟨O,YH,z▸hg⟩,fun _=>YH⟩
   exact h1 j o' AA m
def TA {σ0:Ak} {r:Nat→AY} {ev:Nat→List Ar} {t:Nat}:∀i,(∀j (o:Oper),j<i→ops[j]? =some o→o.dst≠some t)→(Ec ops σ0 r ev i).slots.getD t .junk=σ0.slots.getD t .junk
 |0,_=>rfl
 |i+1,h=>by
  have m:=TA (σ0:=σ0) (r:=r) (ev:=ev) i (fun j o I q=>h j o AA q);simp only[Ec];split
  ·rename_i o q;have u:=h i o AA q;cases hd:o.dst with
   |none=>exact m
   |some d=>
    have z:d≠t:=fun e=>u (by rw[hd,e]);show((Ec ops σ0 r ev i).slots.set d (r i)).getD t .junk=_;rw[←m];simp[List.getD,YJ z]
  exact m
def Ud {σ0:Ak} {r:Nat→AY} {ev:Nat→List Ar}:∀i,(Ec ops σ0 r ev i).slots.length=σ0.slots.length
 |0=>rfl
 |i+1=>by
  simp only[Ec];split
  ·rename_i o j;cases hd:o.dst with
   |none=>exact Ud i
   |some d=>show((Ec ops σ0 r ev i).slots.set d (r i)).length=_;rw[eS];exact Ud i
  exact Ud i
def aFC {σ0:Ak} {r:Nat→AY} {ev:Nat→List Ar}:∀i,(Ec ops σ0 r ev i).base=σ0.base
 |0=>rfl
 |i+1=>by
  simp only[Ec];split
  ·exact aFC i
  exact aFC i
def UH {σ0:Ak} {r:Nat→AY} {ev:Nat→List Ar} (m:∀(i j:Nat) (o q:Oper) (d:Tmp),ops[i]? =some o→ops[j]? =some q→o.dst=some d→q.dst=some d→i=j) {t j:Nat} {o:Oper} (u:ops[j]? =some o) (hd:o.dst=some t) (M:t<σ0.slots.length):
 ∀i,j<i→(Ec ops σ0 r ev i).slots.getD t .junk=r j
 |0,h=>AA
 |i+1,h=>by
  by_cases e:j=i
  ·subst e;simp only[Ec,u,hd];have hl:t<(Ec ops σ0 r ev j).slots.length:=by rw[Ud];exact M
   show((Ec ops σ0 r ev j).slots.set t (r j)).getD t .junk=_;simp[List.getD,hl]
  have z:=UH (r:=r) (ev:=ev) m u hd M i AA;simp only[Ec];split
  ·rename_i q I;cases J:q.dst with
   |none=>exact z
   |some d=>
    have L:d≠t:=fun e'=>e (m j i o q t u I hd (by rw[J,e']));show((Ec ops σ0 r ev i).slots.set d (r i)).getD t .junk=_;rw[←z];simp[List.getD,YJ L]
  exact z
def aNF (h:X9 ops=true):∀(i:Nat) (o:Oper),ops[i]? =some o→(∀(j:Nat) (u:Oper) (d:Tmp),ops[j]? =some u→u.dst=some d→d∈tmpsOf o→GR o j=true∨GR u i=true)∧(∀j b,o.guard=some (j,b)→GR o j=true):=by
 intro i o I;unfold X9 at h;rw[DT]at h;have hi:i<ops.size:=(G6.1 I).1;have z:=h i Fp;rw[I]at z;simp only[CW,DT]at z;refine⟨fun j u d q hd J=>?_,fun j b L=>?_⟩
 ·have M:j<ops.size:=(G6.1 q).1;have m:=z.1 j aCG;rw[q]at m;simp only[AQ,hd,XT,Sl]at m;rcases m with(m|m)|m
  ·have :(tmpsOf o).contains d=true:=Uu
   rw[this]at m;cases m
  ·exact .inl m
  exact .inr m
 have m:=z.2;rw[L]at m;exact m
def Xj (ops:Array Oper) (bs:List Bool):Bool:=(List.range ops.size).all fun i=> !(bs.getD i false)||
 (((List.range i).all fun j=>(List.range (i+1)).any fun m=>decide (j<m)&&(match ops[m]? with |some o=>GR o j|none=>false))&&
  ((List.range ops.size).all fun k=> !decide (i<k)||(List.range k).any fun m=>decide (i≤m)&&(match ops[k]? with |some o=>GR o m|none=>false)))
def WJ {bs:List Bool} (h:Xj ops bs=true) {i:Nat} (hi:i<ops.size) (O:bs.getD i false=true) {D:Nat→Prop} (hd:∀(j:Nat) (o:Oper),ops[j]? =some o→D j→∀m,GR o m=true→D m)
 (U:∀(o:Oper),ops[i]? =some o→∀m,GR o m=true→D m):∀j,j<i→D j:=by
 unfold Xj at h;rw[DT]at h;have I:=h i Fp;simp only[O,Dz,ML,CW,DT]at I
 have key:∀n j,i-j≤n→j<i→D j:=by
  intro n
  induction n with
  |zero=>intro j Y J;omega
  |succ n Z=>
   intro j Y J;have L:=I.1 j Uu;rw[Fv]at L;obtain⟨m,hm,M⟩:=L;simp only[sS]at hm;simp only[CW,G8]at M;obtain⟨h6,q⟩:=M;have u:m<ops.size:=AA
   have z:ops[m]? =some ops[m]:=by simp[u]
   rw[z]at q;by_cases e:m=i
   ·subst e;exact U _ z j q
   exact hd m _ z (Z m AA AA) j q
 exact fun j hj=>key (i-j) j (Dk _) hj
def aGB {bs:List Bool} (h:Xj ops bs=true) {i:Nat} (hi:i<ops.size) (Z:bs.getD i false=true) {D:Nat→Prop} (hd:∀(j:Nat) (o:Oper),ops[j]? =some o→D j→∀m,GR o m=true→D m):
 ∀k,i<k→∀(o:Oper),ops[k]? =some o→(∀m,GR o m=true→D m)→D i:=by
 unfold Xj at h;rw[DT]at h;have L:=h i Fp;simp only[Z,Dz,ML,CW,DT]at L;intro k
 induction k using Nat.strongRecOn with
 |_ k ih=>
  intro I o M q;have hk:k<ops.size:=(G6.1 M).1;have O:=L.2 k aUE;simp only[I,decide_true,Dz,ML,Fv]at O;obtain⟨m,U,Y⟩:=O;simp only[sS]at U;simp only[CW,G8,M]at Y;obtain⟨h6,h7⟩:=Y;have u:=q m h7;by_cases e:m=i
  ·subst e;exact u
  have J:m<ops.size:=AA
  have z:ops[m]? =some ops[m]:=by simp[J]
  exact ih m U AA _ z (hd m _ z u)
def Vs (ops:Array Oper):Bool:=(List.range ops.size).all fun i=>match ops[i]? with
 |some o=>o.after.toList.all fun(e:Edge)=> !Region.binds .any e||decide (e.on<i)
 |none=>true
def aH4 (h:Vs ops=true):∀(i:Nat) (o:Oper),ops[i]? =some o→∀e∈o.after.toList,Region.binds .any e=true→e.on<i:=by
 intro i o j e m q;unfold Vs at h;rw[DT]at h;have hi:i<ops.size:=(G6.1 j).1;have :=h i Fp;rw[j]at this;rw[DT]at this;have :=this e m;simpa[q]using this
def AP.draw {id:Nat} {σ σ':Ak} {Q:Exit→Ak→Prop} {rs:List AY} {ess:List (List Ar)} {bs:List Bool} (hm:P.follows .mixedOrders=true) (Z:(Vs ops&&VX ops&&V9 ops σ.slots.length&&X9 ops)=true) (ajE:Xj ops bs=true)
 (h:Ew P ops ops.toList σ rs ess bs σ') (hQ:Q .normal σ'):AP P (.region id ops true) σ Q:=by
 refine⟨fun ro _ C ok H a w hh=>?_⟩;simp only[CW]at Z;obtain⟨⟨⟨he,hd⟩,hs⟩,hc⟩:=Z;have PX:=aH4 he;have hinj:=aKN hd;have Z:=aNF hc
 have Ip:∀(i:Nat) (o:Oper) (d:Tmp),ops[i]? =some o→o.dst=some d→d<σ.slots.length:=by
  intro i o d h1 h2;unfold V9 at hs;rw[DT]at hs;simpa using hs d (aKJ h1 h2)
 let r:Nat→AY:=fun i=>rs.getD i .junk
 let ev:Nat→List Ar:=fun i=>ess.getD i []
 let bar:Nat→Bool:=fun i=>bs.getD i false
 obtain⟨I4,hend⟩:=h.facts σ r ev bar 0 (fun k=>Ap) Ap rfl (fun k y hy=>aIf) (fun k y hy=>aL1) (fun k y hy=>by simp[bar,List.getD,hy])
 let U:Nat→Ak:=Ec ops σ r ev
 have hU:∀i,i<ops.size→(U (i+1)).ents=ev i:=by
  intro i hi;have O:ops[i]? =some ops[i]:=Qp
  show(Ec ops σ r ev (i+1)).ents=_;simp only[Ec,O];rfl
 have hconst:∀n lo,(∀b,lo≤b→b<lo+n→bar b=false)→lo+n≤ops.size→(U (lo+n)).ents=(U lo).ents:=by
  intro n
  induction n with
  |zero=>intro lo _ _;rfl
  |succ n ih=>
   intro lo J hle;have h1:=ih lo (fun b h1 h2=>J b h1 AA) AA;have hi:lo+n<ops.size:=AA
   have O:ops[lo+n]? =some ops[lo+n]:=Qp
   have h2:=(I4 (lo+n) _ AA O).2 (J (lo+n) AA AA);rw[←O9,hU _ hi,h2];exact h1
 have L:∀lo hi,lo≤hi→hi≤ops.size→(∀b,lo≤b→b<hi→bar b=false)→(U hi).ents=(U lo).ents:=by
  intro lo hi h1 h2 h3;obtain⟨n,rfl⟩:=aPR h1;exact hconst n lo h3 h2
 refine aEp hm ?_
 let I:Array Bool→Act→World→Prop:=fun l a w=>l.size=ops.size∧∃ok H m,m≤ops.size∧(∀b,bar b=true→b<ops.size→(l.getD b false=true↔b<m))∧Cb C ok H (U m).ents w∧a.tmps.size=σ.slots.length∧Marks C ok w a.defers∧
  (∀t,t<σ.slots.length→(∀(j:Nat) (o:Oper),ops[j]? =some o→o.dst=some t→l.getD j false=false)→R ok w H (σ.slots.getD t .junk) (a.tmps.getD t undef))∧
  (∀(i:Nat) (o:Oper) (d:Tmp),ops[i]? =some o→o.dst=some d→l.getD i false=true→R ok w H (r i) (a.tmps.getD d undef))∧
  (∀(j:Nat) (o:Oper),ops[j]? =some o→l.getD j false=true→∀i,GR o i=true→l.getD i false=true)
 refine Opn I (fun l a w h=>h.1) ?_ ?_ ops.size _ _ _ ?_ ?_
 ·rintro l a w ⟨h1,ok,H,m,MC,z,hmem0,hsz,hdf,h5,h6,h7⟩ i hi;unfold Region.ready at hi;rw[EY]at hi;obtain⟨hi1,hi2⟩:=hi;have hi':i<ops.size:=aEW
  have O:ops[i]? =some ops[i]:=by simp[hi']
  simp only[CW]at hi2;have PY:=hi2.2;rw[O]at PY;simp only[IW,NP]at PY;have ahi:=fun e he=>(QW.1 PY) e he
  have hdone:∀j,GR ops[i] j=true→l.getD j false=true∧j<i:=by
   intro j u;unfold GR at u;rw[Fv]at u;obtain⟨e,hee,u⟩:=u;simp only[CW,G8]at u;have :=ahi e aJd;simp only[u.2,Dz,ML]at this;rw[u.1]at this;exact⟨this,u.1▸PX i _ O e hee u.2⟩
  have M:l.getD i false=false:=by
   have h8:=hi2.1;have hil:i<l.size:=AA
   simp[Array.getD,hil]at h8 ⊢;exact h8
  have Y:∀(j:Nat) (o:Oper),ops[j]? =some o→l.getD j false=true→∀m,GR o m=true→l.getD m false=true:=fun j o u hl m hm=>h7 j o u hl m hm
  have hmem:Cb C ok H (U i).ents w:=by
   have hE:(U i).ents=(U m).ents:=by
    by_cases him:i≤m
    ·refine(L i m him MC (fun b h2 h3=>?_)).symm;rw[←KX];intro J;have hbl:=(z b J AA).2 h3;by_cases e:b=i
     ·subst e;rw[M]at hbl;cases hbl
     have hob:ops[b]? =some (ops[b]' AA):=by simp[show b<ops.size by omega]
     have :=WJ ajE (show b<ops.size by omega) J (D:=fun j=>l.getD j false=true) Y (fun o O m hm=>Y b o O hbl m hm) i AA;rw[M]at this;cases this
    refine L m i AA AA (fun b h2 h3=>?_);rw[←KX];intro J;have :=aGB ajE (show b<ops.size by omega) J (D:=fun j=>l.getD j false=true) Y i h3 _ O (fun m hm=>(hdone m hm).1);exact absurd ((z b J AA).1 this) AA
   rw[hE];exact hmem0
  have hread:∀t,t∈tmpsOf ops[i]→R ok w H ((Ec ops σ r ev i).slots.getD t .junk) (a.tmps.getD t undef):=by
   intro t ht;by_cases hw:∃(j:Nat) (o:Oper),ops[j]? =some o∧o.dst=some t
   ·obtain⟨j,o,u,q⟩:=hw;rcases(Z i _ O).1 j o t u q ht with hce|hce
    ·obtain⟨hdj,hji⟩:=hdone j hce;rw[UH hinj u q (Ip j o t u q) i hji];exact h6 j o t u q hdj
    have hij:i<j:=by
     unfold GR at hce;rw[Fv]at hce;obtain⟨e,hee,hce⟩:=hce;simp only[CW,G8]at hce;exact hce.1▸PX j _ u e hee hce.2
    rw[TA i (fun j' o' hj' ho' hd'=>aDj)];refine h5 t (Ip j o t u q) (fun j' o' ho' hd'=>?_);have hjj:=hinj j j' o o' t u ho' q hd';subst hjj;rw[←KX];intro hd;rw[h7 j o u hd i hce]at M;cases M
   have hw':∀(j:Nat) (o:Oper),ops[j]? =some o→o.dst≠some t:=fun j o h1 h2=>hw ⟨j,o,h1,h2⟩;rw[TA i (fun j o _ u=>hw' j o u)];by_cases htn:t<σ.slots.length
   ·exact h5 t htn (fun j o u q=>absurd q (hw' j o u))
   rw[dw htn];exact .junk _
  have Vm:∀j d v,GR ops[i] j=true→(ops[j]?).bind (·.dst)=some d→(Ec ops σ r ev i).slots.getD d .junk=.d (.lit v)→yielded ops a.tmps j=(match v with | .bool b=>some b|_=>none):=by
   intro j d v u q J;cases hoj:ops[j]? with
   |none=>rw[hoj]at q;simp at q
   |some oj=>
    rw[hoj]at q;simp only[AQ]at q;obtain⟨hdj,hji⟩:=hdone j u;have hdn:=Ip j oj d hoj q;rw[UH hinj hoj q hdn i hji]at J;have hv:=(J▸h6 j oj d hoj q hdj).bool
    have hs:a.tmps[d]? =some v:=by
     have :d<a.tmps.size:=by rw[hsz];exact hdn
     simp[Array.getD,this]at hv;simp[this,hv]
    unfold yielded;rw[hoj];simp only[AQ,q,hs];cases v<;>rfl
  have hput:∀(x:AY) (v:Value) (ok':Nat→Prop) (H':List BO) (w':World),x=r i→ES ok w ok' w'→Names H H'→Cb C ok' H' (ev i) w'→R ok' w' H' x v→I (l.setIfInBounds i true) (a.put ops[i].dst v) w':=by
   intro x v ok' H' w' hx hgr hnm hmem' hR;subst hx
   have hother:∀(d t:Nat),ops[i].dst=some d→d≠t→(a.put ops[i].dst v).tmps.getD t undef=a.tmps.getD t undef:=by
    intro d t hd hne;rw[hd];exact aMb hne
   obtain⟨m',amM,adD,amN⟩:∃m',m'≤ops.size∧(∀b,bar b=true→b<ops.size→((l.setIfInBounds i true).getD b false=true↔b<m'))∧Cb C ok' H' (U m').ents w':=by
    have hget:∀b,b≠i→(l.setIfInBounds i true).getD b false=l.getD b false:=fun b J=>by
     simp only[H8,KD (Ne.symm J)]
    have amO:(l.setIfInBounds i true).getD i false=true:=aLr
    cases hbi:bar i with
    |false=>
     refine⟨m,MC,fun b J hbs=>?_,?_⟩
     ·have hne:b≠i:=fun e=>by subst e;rw[hbi]at J;cases J
      rw[hget b hne];exact z b J hbs
     have h2:=(I4 i _ AA O).2 hbi;rw[h2]at hmem'
     have hE:(U i).ents=(U m).ents:=by
      by_cases him:i≤m
      ·refine(L i m him MC (fun b h2 h3=>?_)).symm;rw[←KX];intro J;have hbl:=(z b J AA).2 h3;by_cases e:b=i
       ·subst e;rw[M]at hbl;cases hbl
       have :=WJ ajE (show b<ops.size by omega) J (D:=fun j=>l.getD j false=true) Y (fun o O m hm=>Y b o O hbl m hm) i AA;rw[M]at this;cases this
      refine L m i AA AA (fun b h2 h3=>?_);rw[←KX];intro J;have :=aGB ajE (show b<ops.size by omega) J (D:=fun j=>l.getD j false=true) Y i h3 _ O (fun m hm=>(hdone m hm).1);exact absurd ((z b J AA).1 this) AA
     rw[←hE];exact hmem'
    |true=>
     refine⟨i+1,AA,fun b J hbs=>?_,by rw[hU i hi'];exact hmem'⟩;by_cases e:b=i
     ·subst e;rw[amO];simp
     rw[hget b e];constructor
     ·intro hbl;apply Vq;intro hn;have :=WJ ajE hbs J (D:=fun j=>l.getD j false=true) Y (fun o O m hm=>Y b o O hbl m hm) i AA;rw[M]at this;cases this
     intro hlt;exact WJ ajE hi' hbi (D:=fun j=>l.getD j false=true) Y (fun o ho' m hm=>by rw[O]at ho';obtain rfl:=CO ho';exact(hdone m hm).1) b AA
   refine⟨by simp[h1],ok',H',m',amM,adD,amN,aLb,aLw,?_,?_,?_⟩
   ·intro t ht hno
    have hne:ops[i].dst≠some t:=by
     intro e;have :=hno i _ O e;simp[Array.getD,h1,hi']at this
    have hold:(a.put ops[i].dst v).tmps.getD t undef=a.tmps.getD t undef:=by
     cases hdi:ops[i].dst with
     |none=>rfl
     |some d=>exact hdi▸hother d t hdi (fun e=>hne (by rw[hdi,e]))
    rw[hold];refine(h5 t ht (fun j o u q=>?_)).mono hgr hnm;have hij:i≠j:=fun e=>by subst e;rw[O]at u;obtain rfl:=CO u;exact hne q
    have :=hno j o u q;simpa only[H8,KD hij]using this
   ·intro k o d hk hkd hl;by_cases hik:i=k
    ·subst hik;rw[O]at hk;obtain rfl:=CO hk;rw[hkd,aKs (by rw[hsz];exact Ip i _ d O hkd)];exact hR
    have hl':l.getD k false=true:=by
     simp only[H8,KD hik]at hl ⊢;exact hl
    have :=(h6 k o d hk hkd hl').mono hgr hnm;cases hdst:ops[i].dst with
    |none=>exact this
    |some d'=>
     have hne:d'≠d:=fun e=>hik (hinj i k _ _ d' O hk hdst (e▸hkd));rw[←hdst,hother d' d hdst hne];exact this
   intro j o u hl k hk;have hil:i<l.size:=AA
   by_cases hik:i=k
   ·subst hik;simp[Array.getD,hil]
   have hkk:l.getD k false=true:=by
    by_cases hij:i=j
    ·subst hij;rw[O]at u;obtain rfl:=CO u;exact(hdone k hk).1
    have hl':l.getD j false=true:=by
     simp only[H8,KD hij]at hl ⊢;exact hl
    exact h7 j o u hl' k hk
   simp only[H8,KD hik]at hkk ⊢;exact hkk
  unfold wpOpIn;rw[O];show if Region.wanted ops[i] (yielded ops a.tmps)=true then _ else _
  rcases(I4 i ops[i] AA O).1 with⟨ns,hop,aeS,hnt,hg⟩|⟨hx,hev,hg⟩
  ·have hwant:Region.wanted ops[i] (yielded ops a.tmps)=true:=by
    unfold Region.wanted;rcases hg with hg|⟨j,want,d,b,hg,u,J,rfl⟩
    ·rw[hg]
    rw[hg];show(yielded ops a.tmps j==some b)=true;rw[Vm j d _ ((Z i _ O).2 j b hg) u J];simp
   rw[CV hwant];refine Qh ?_ (hop.inR ro C ok H a w _ hmem (fun n hn=>?_))
   ·rintro a' w' ⟨v,ok',H',rfl,hgr,hnn,hm',hx⟩;exact hput _ v ok' H' w' rfl hgr hnn hm' hx
   have hnv:=PK aeS n hn;obtain⟨x,y⟩:=n;simp only at hnv ⊢;subst hnv;cases x with
   |tmp t=>
    refine hread t ?_;rw[DT]at hnt
    have :t∈Lh ns:=by
     unfold Lh;rw[U5];exact⟨_,hn,rfl⟩
    simpa using hnt t this
   |const v=>exact .d _ _ (.lit v)
   |global g=>exact .d _ _ (.lit _)
   |func f=>exact .d _ _ (.fn (.func f) [] [] #[] #[] rfl rfl (fun i hi=>OE) (fun i hi=>OE))
  have hwant:Region.wanted ops[i] (yielded ops a.tmps)=false:=by
   unfold Region.wanted;obtain⟨j,want,d,v,hg,u,J,hv⟩:=hg;rw[hg];show(yielded ops a.tmps j==some want)=false;rw[Vm j d _ ((Z i _ O).2 j want hg) u J];rcases hv with rfl|rfl
   ·simp
   rfl
  rw[Cc (by rw[hwant];simp)];exact⟨fun _ _=>trivial,hput _ _ ok H w hx.symm (.refl _ _) (.refl _) aIZ (.d _ _ (.lit _))⟩
 ·rintro l a w ⟨h1,ok,H,m,MC,z,hmem,hsz,hdf,h5,h6,h7⟩ hr
  have hall:∀n i,i<n→i<ops.size→l.getD i false=true:=by
   intro n
   induction n with
   |zero=>intro i hi;omega
   |succ n ih=>
    intro i hi hi2;by_cases hn:i<n
    ·exact ih i hn hi2
    have hin:i=n:=AA
    subst hin;rw[←aKP];intro hf;have O:ops[i]? =some ops[i]:=by simp[hi2]
    have hmem:i∈Region.ready .any ops l:=by
     unfold Region.ready;rw[EY];refine⟨by simpa using hi2,?_⟩;have hil:i<l.size:=AA
     have hf':l.getD i true=false:=aDG
     rw[hf',O];simp only[IU,Fe,IW,NP];rw[QW];intro e he;cases hbe:Region.binds .any e with
     |false=>simp
     |true=>
      have hlt:=PX i _ O e tq hbe;rw[ih e.on AA AA];simp
    rw[hr]at hmem;simp at hmem
  refine⟨ok,H,σ',?_,hQ⟩;subst hend
  have hE:(U ops.size).ents=(U m).ents:=L m ops.size MC (Dk _) (fun b h2 h3=>by
   rw[←KX];intro J
   exact absurd ((z b J h3).1 (hall (b+1) b AA h3)) AA)
  refine⟨aQR,by rw[Ud];exact hsz,hdf,aLZ,fun t ht=>?_⟩;rw[Ud]at ht;by_cases hw:∃(j:Nat) (o:Oper),ops[j]? =some o∧o.dst=some t
  ·obtain⟨j,o,u,q⟩:=hw;have hjn:j<ops.size:=(G6.1 u).1;rw[UH hinj u q ht ops.size hjn];exact h6 j o t u q (hall (j+1) j AA hjn)
  have hw':∀(j:Nat) (o:Oper),ops[j]? =some o→o.dst≠some t:=fun j o h1 h2=>hw ⟨j,o,h1,h2⟩;rw[TA ops.size (fun j o _ u=>hw' j o u)];exact h5 t ht (fun j o u q=>absurd q (hw' j o u))
 ·unfold toCome;simp
 refine⟨Ap,ok,H,0,EZ _,fun b J _=>aC4,?_,hh.size,hh.defers.mono (fun b J=>⟨J,rfl⟩),fun t ht _=>?_,fun i o d _ _ hl=>?_,fun j o _ hl=>?_⟩
 ·exact⟨⟨hh.mem.fr.os,hh.mem.fr.tape,hh.mem.fr.output,hh.mem.fr.size,hh.mem.fr.block⟩,hh.mem.yR,hh.mem.yS,hh.mem.kL,hh.mem.names,hh.mem.hlen,fun k e h h1 h2=>(hh.mem.ent k e h h1 h2).drew,hh.mem.blk,hh.mem.E5⟩
 ·exact R.mono (w:=w) (ok:=ok) (w':={ w with drawn:=w.drawn+1 }) (fun b J=>⟨J,rfl⟩) (.refl _) (hh.slot t ht)
 ·simp[Array.getD]at hl
 simp[Array.getD]at hl
end
def Am (P:Program) (f:FuncId) (args:List AY) (E:List Ar) (m:AY) (E':List Ar):Prop:=
 ∀(ok:Nat→Prop) (X:List Nat) (H:List BO) (w:World) (j:Array Value),Cb ⟨w,ok,X,H⟩ ok H E w→j.size=args.length→(∀i,i<args.length→R ok w H (args.getD i .junk) (j.getD i undef))→
  Calls P f j w fun e w'=>∃v ok' H',e=.returned v∧Cb ⟨w,ok,X,H⟩ ok' H' E' w'∧R ok' w' H' m v
def Holds.avz {C:EN} {ok:Nat→Prop} {H:List BO} {σ:Ak} {a:Act} {w:World} (h:Holds C ok H σ a w) (t:Nat):R ok w H (σ.slots.getD t .junk) (a.tmps.getD t undef):=h.get (.tmp t)
def Ak.enter (args:List AY) (n:Nat) (E:List Ar):Ak:=⟨args++List.replicate (n-args.length) .junk,E,E.length⟩
def R.lit {ok:Nat→Prop} {w:World} {H:List BO} {u v:Value} (h:R ok w H (.d (.lit u)) v):v=u:=by
 cases h with |d _ _ h=>cases h;rfl
structure EL (P:Program) (t:TypeId) (agg:Bool) (size:Nat):Prop where
 agg:∀w,(isAgg t).run P w=.ok agg w
 size:∀w,(sizeOf t).run P w=.ok size w
def aOQ (P:Program) (t:TypeId) (agg:Bool) (size:Nat):Bool:=
 (match P.underlying t with |some (.struct _)|some (.array _ _)=>agg|some _=> !agg|none=>false)&&(match P.info? t with |some i=>decide (i.size=size)|none=>false)
def Fq {P:Program} {t:TypeId} {agg:Bool} {size:Nat} (h:aOQ P t agg size=true):EL P t agg size:=by
 unfold aOQ at h;simp only[CW]at h;refine⟨fun w=>?_,fun w=>?_⟩
 ·have m:=h.1;cases q:P.underlying t with
  |none=>rw[q]at m;cases m
  |some d=>
   rw[q]at m;have e:(underlying t).run P w=.ok d w:=by simp[underlying,q]
   simp only[isAgg,FD,e,FU];cases d<;>cases agg<;>simp_all
 have j:=h.2;cases hi:P.info? t with
 |none=>rw[hi]at j;cases j
 |some i=>
  rw[hi]at j;have :i.size=size:=O7
  simp[sizeOf,typeInfo,hi,this]
section
variable {P : Program} {o : Oper} {es : List Ar}
def LH {α:Type} {p:α→Prop} {a:α} (h:∀n∈[a],p n):p a:=h a Ap
def Ea {α:Type} {p:α→Prop} {a b:α} (h:∀n∈[a,b],p n):p a∧p b:=⟨h a Ap,h b Ap⟩
def ai7 {x:Operand} {v:AY} (j:o.op=.move x):BU P o [(x,v)] es v es:=
 .pure fun _ _ a _ _ _ m=>⟨a.eval x,by simp[execOp,j],m (x,v) Ap⟩
def afi {x:Operand} {v:AY} (j:o.op=.assign x):BU P o [(x,v)] es v es:=
 .pure fun _ _ a _ _ _ m=>⟨a.eval x,by simp[execOp,j],m (x,v) Ap⟩
def alc {c x y:Operand} {v:AY} (b:Bool) (m:b=true) (q:o.op=.pick c x y):BU P o [(c,.d (.lit (.bool b))),(x,v)] es v es:=
 .pure fun _ _ a _ _ _ j=>⟨a.eval x,by
  have :=(Ea j).1.lit;simp only at this
  simp[execOp,q,this,asBool,m],(Ea j).2⟩
def aqU {c x y:Operand} {v:AY} (b:Bool) (m:b=false) (q:o.op=.pick c x y):BU P o [(c,.d (.lit (.bool b))),(y,v)] es v es:=
 .pure fun _ _ a _ _ _ j=>⟨a.eval y,by
  have :=(Ea j).1.lit;simp only at this
  simp[execOp,q,this,asBool,m],(Ea j).2⟩
def Nk {op:BinOp} {t t':TypeId} {x y:Operand} {u v r:Value} (z:o.op=.binOp op t x y t') (h:∀w,(binOp op t u v).run P w=.ok r w) (I:u.oneCell'=true∧u matches .int _ _| .string _| .bool _):
 BU P o [(x,.d (.lit u)),(y,.d (.lit v))] es (.d (.lit r)) es:=
 .pure fun _ _ a w _ _ j=>⟨r,by
  have m:=(Ea j).1.lit;have q:=(Ea j).2.lit;simp only at m q
  have J:(eqGuard op t x y u v).run P w=.ok () w:=by
   unfold eqGuard;cases u<;>simp at I<;>(cases op<;>simp[pure,Sem.run_pure'])
  simp only[execOp,z,m,q,FD,J,h w,FU,GK],.d _ _ (.lit _)⟩
def aOw {op:UnOp} {t:TypeId} {x:Operand} {u r:Value} (m:o.op=.unOp op t x) (h:∀w,(Op.unary op u).run P w=.ok r w):BU P o [(x,.d (.lit u))] es (.d (.lit r)) es:=
 .pure fun _ _ a w _ _ q=>⟨r,by
  have j:=(LH q).lit;simp only at j
  simp only[execOp,m,j,FD,h w,FU,GK],.d _ _ (.lit _)⟩
def aes {s t:TypeId} {x:Operand} {u r:Value} (m:o.op=.convert s t x) (h:∀w,(convert s t u).run P w=.ok r w):BU P o [(x,.d (.lit u))] es (.d (.lit r)) es:=
 .pure fun _ _ a w _ _ q=>⟨r,by
  have j:=(LH q).lit;simp only at j
  simp only[execOp,m,j,FD,h w,FU,GK],.d _ _ (.lit _)⟩
def am1 {x:Operand} {i:Nat} {xs:List AY} {v:AY} (I:o.op=.extract x i) (J:xs[i]? =some v):BU P o [(x,.fB xs)] es v es:=
 .pure fun ok H a w _ _ L=>by
  have m:=LH L;simp only at m;generalize M:a.eval x=u at m;cases m with
  |fB _ vs hl h=>
   obtain⟨hi,q⟩:=Fb.1 J;have z:=h i hi;have O:xs.getD i .junk=v:=by simp[List.getD,hi,q]
   have j:i<vs.size:=AA
   have U:vs.getD i undef=vs[i]:=by simp[Array.getD,j]
   rw[O,U]at z;exact⟨vs[i],by simp[execOp,I,M,Instr.extract,j],z⟩
def afh {x:Operand} {t e:TypeId} {xs:List D} (I:P.underlying t=some (.slice e)) (m:o.op=.call { callee:=.builtin .len,args:= #[x],argTypes:= #[t] }):
 BU P o [(x,.d (.sl xs))] es (.d (.lit (.int .i64 xs.length))) es:=
 .pure fun ok H a w _ _ J=>by
  have j:=LH J;simp only at j;generalize q:a.eval x=u at j;have z:(underlying t).run P w=.ok (.slice e) w:=by simp[underlying,I]
  refine⟨_,?_,.d _ _ (.lit _)⟩;cases j with
  |d _ _ h=>
   cases h with
   |sl0 ad cap=>simp[execOp,m,resolve,invoke,builtin,Builtin.len_,q,z,goInt]
   |sl _ b off cap size=>simp[execOp,m,resolve,invoke,builtin,Builtin.len_,q,z,goInt]
def asG {x:Operand} {t:TypeId} {s:ByteArray} (m:P.underlying t=some .string) (q:o.op=.call { callee:=.builtin .len,args:= #[x],argTypes:= #[t] }):
 BU P o [(x,.d (.lit (.string s)))] es (.d (.lit (.int .i64 s.size))) es:=
 .pure fun ok H a w _ _ u=>by
  have j:=(LH u).lit;simp only at j;have z:(underlying t).run P w=.ok .string w:=aOz
  exact⟨_,by simp[execOp,q,resolve,invoke,builtin,Builtin.len_,j,z,goInt],.d _ _ (.lit _)⟩
def Fz {es:List Ar} {H:List BO} {ok:Nat→Prop} {w:World} (q:∀(k:Nat) (e:Ar) (h:BO),es[k]? =some e→H[k]? =some h→Em ok w H h e) (hl:H.length=es.length) {k:Nat} {e:Ar} (m:es[k]? =some e):
 ∃h,H[k]? =some h∧Em ok w H h e:=by
 have j:k<H.length:=by rw[hl];exact(Fb.1 m).1
 exact⟨H[k],iY,q k e _ m iY⟩
def ahK {x:Operand} {t e e':TypeId} {k s:Nat} {xs:List D} (O:es[k]? =some (.arr e' s xs)) (U:P.underlying t=some (.slice e)) (Y:o.op=.call { callee:=.builtin .len,args:= #[x],argTypes:= #[t] }):
 BU P o [(x,.aZ k)] es (.d (.lit (.int .i64 xs.length))) es:=
 .pure fun ok H a w j hl Z=>by
  have m:=LH Z;simp only at m;generalize he:a.eval x=u at m;have hu:(underlying t).run P w=.ok (.slice e) w:=by simp[underlying,U]
  obtain⟨h,hh,q⟩:=Fz j hl O;refine⟨_,?_,.d _ _ (.lit _)⟩;cases m with
  |aZ _ ad n cap s' L=>
   rw[hh]at L;obtain rfl:=CO L;obtain⟨_,_,ys,⟨_,z⟩,_⟩:=q
   have I:n=xs.length:=by
    rcases z with⟨J,h3⟩|⟨g,M,cur,J,_⟩
    ·simp at J;omega
    simp at J;omega
   subst I;simp[execOp,Y,resolve,invoke,builtin,Builtin.len_,he,hu,goInt]
structure Dc (P:Program) (t:TypeId) (f off:Nat):Prop where
 run:∀(b o:Nat) w,(Instr.fieldAt t (.pointer (some ⟨b,o,none⟩)) f).run P w=.ok (.pointer (some ⟨b,o+off,none⟩)) w
def aa9 (P:Program) (t:TypeId) (f off:Nat):Bool:=
 match P.underlying t with
 |some (.struct m)=>match m[f]? with
  |some j=>decide (j.offset=off)&&(match P.info? j.type with |some i=>decide (i.size≠0)|none=>false)
  |none=>false
 |_=>false
def Dq {P:Program} {t:TypeId} {f off:Nat} (h:aa9 P t f off=true):Dc P t f off:=by
 unfold aa9 at h;refine⟨fun b o w=>?_⟩;split at h
 ·rename_i q u;split at h
  ·rename_i z I;simp only[CW,G8]at h;obtain⟨J,j⟩:=h;split at j
   ·rename_i i hi;have hs:(sizeOf z.type).run P w=.ok i.size w:=by simp[sizeOf,typeInfo,hi]
    have L:i.size≠0:=O7
    have m:(underlying t).run P w=.ok (.struct q) w:=by simp[underlying,u]
    simp[Instr.fieldAt,m,I,Instr.sureAddr,fieldPlace,hs,L,addr_add,J]
   cases j
  cases h
 cases h
def aqS {x:Operand} {t:TypeId} {f off j:Nat} {cs:List D} (I:Dc P t f off) (J:o.op=.fieldAddr t x f):BU P o [(x,.d (.ref cs j))] es (.d (.ref cs (j+off))) es:=
 .pure fun ok H a w _ _ L=>by
  have m:=LH L;simp only at m;generalize M:a.eval x=u at m;cases m with
  |d _ _ h=>
   cases h with
   |ref _ _ b p q z O U=>
    refine⟨.pointer (some ⟨b,p+(j+off),none⟩),?_,.d _ _ (.ref cs (j+off) b p q z O U)⟩;simp only[execOp,J,M,FD,I.run,FU,GK,O9]
def aib {x:Operand} {t:TypeId} {f off k j:Nat} (q:Dc P t f off) (z:o.op=.fieldAddr t x f):BU P o [(x,.ptr k j)] es (.ptr k (j+off)) es:=
 .pure fun ok H a w _ _ I=>by
  have m:=LH I;simp only at m;generalize J:a.eval x=u at m;cases m with
  |ptr _ _ b s h=>
   refine⟨.pointer (some ⟨b,j+off,none⟩),?_,.ptr _ _ b s h⟩;simp only[execOp,z,J,FD,q.run,FU,GK]
def anx {x:Operand} {t:TypeId} {f off k i j:Nat} (q:Dc P t f off) (z:o.op=.fieldAddr t x f):BU P o [(x,.lX k i j)] es (.lX k i (j+off)) es:=
 .pure fun ok H a w _ _ I=>by
  have m:=LH I;simp only at m;generalize J:a.eval x=u at m;cases m with
  |lX _ _ _ b n cap s h=>
   refine⟨.pointer (some ⟨b,i*s+(j+off),none⟩),?_,.lX _ _ _ b n cap s h⟩;simp only[execOp,z,J,FD,q.run,FU,GK,O9]
def ahB {x y:Operand} {t e:TypeId} {k:IntKind} {i:Int} {xs:List D} {I:D} {agg:Bool} {size:Nat} (ht:P.underlying t=some (.slice e)) (hT:EL P e agg size) (h0:0≤i) (hi:xs[i.toNat]? =some I) (hs:I.cells.length=size)
 (ho:o.op=.indexAddr t x y):BU P o [(x,.d (.sl xs)),(y,.d (.lit (.int k i)))] es (.d (.ref I.cells 0)) es:=
 .pure fun ok H a w _ _ Y=>by
  have J:=(Ea Y).1;have Z:=(Ea Y).2.lit;simp only at J Z;generalize he:a.eval x=u at J;have hu:(underlying t).run P w=.ok (.slice e) w:=aFr
  obtain⟨q,L⟩:=Fb.1 hi;cases J with
  |d _ _ h=>
   cases h with
   |sl0 ad cap=>simp at q
   |sl _ b off cap m hcap M O hf hx hc=>
    have hd:xs.getD i.toNat DK=I:=by simp[List.getD,q,L]
    have U:m=size:=by rw[←O _ q,hd,hs]
    subst U;refine⟨.pointer (some ⟨b,off+i.toNat*m+0,none⟩),?_,.d _ _ (.ref I.cells 0 b (off+i.toNat*m) (fun h=>M AA (by rw[hs]at h;exact h)) ?_ ?_ ?_)⟩
    ·have hlen:0≤i∧i<(xs.length:Int):=⟨h0,AA⟩
     simp only[execOp,ho,he,Z,Instr.indexAt,asIntOf,FD,GK,hu,FU,Sem.run_ite,hlen,and_self,JZ,hT.size,addr_add,PG]
    ·intro j z;rw[hs]at z;rw[←hd];exact hf _ q j z
    ·intro j z;rw[hs]at z;rw[O9];exact hx _ q j z
    intro j z;rw[hs]at z;rw[O9,←hd];exact hc _ q j z
def aqP {x y:Operand} {t e e':TypeId} {kd:IntKind} {i:Int} {k size:Nat} {xs:List D} {agg:Bool} (Y:es[k]? =some (.arr e' size xs)) (Z:P.underlying t=some (.slice e)) (hT:EL P e agg size) (h0:0≤i) (hi:i.toNat<xs.length)
 (ho:o.op=.indexAddr t x y):BU P o [(x,.aZ k),(y,.d (.lit (.int kd i)))] es (.lX k i.toNat 0) es:=
 .pure fun ok H a w m hl J=>by
  have q:=(Ea J).1;have L:=(Ea J).2.lit;simp only at q L;generalize he:a.eval x=u at q;have hu:(underlying t).run P w=.ok (.slice e) w:=by simp[underlying,Z]
  obtain⟨h,M,z⟩:=Fz m hl Y;cases q with
  |aZ _ ad n cap s' O=>
   rw[M]at O;obtain rfl:=CO O;obtain⟨hs,_,ys,⟨_,I⟩,_⟩:=z;simp only at hs;subst hs;rcases I with⟨j,h3⟩|⟨g,U,cur,j,_⟩
   ·omega
   simp only[kS]at j;obtain⟨rfl,rfl,rfl⟩:=j;refine⟨.pointer (some ⟨g,i.toNat*s'+0,none⟩),?_,.lX _ _ _ _ _ _ _ M⟩;have hlen:0≤i∧i<(xs.length:Int):=⟨h0,AA⟩
   simp only[execOp,ho,he,L,Instr.indexAt,asIntOf,FD,GK,hu,FU,Sem.run_ite,hlen,and_self,JZ,hT.size,addr_add,JI,PG]
def agb {x y:Operand} {t:TypeId} {k:IntKind} {i:Int} {s:ByteArray} {c:UInt8} (u:P.underlying t=some .string) (z:0≤i) (hi:s[i.toNat]? =some c) (I:o.op=.index t x y):
 BU P o [(x,.d (.lit (.string s))),(y,.d (.lit (.int k i)))] es (.d (.lit (.int .u8 c.toNat))) es:=
 .pure fun ok H a w _ _ j=>by
  have m:=(Ea j).1.lit;have q:=(Ea j).2.lit;simp only at m q;have J:(underlying t).run P w=.ok .string w:=by simp[underlying,u]
  exact⟨_,by simp only[execOp,I,m,q,Instr.index,asIntOf,FD,GK,J,FU,z,JZ,hi],.d _ _ (.lit _)⟩
def Iw (l:List AY):List D:=l.map fun | .d x=>x|_=>DK
def AY.Az:AY→Bool
 | .d _=>true
 |_=>false
def R.toD {ok:Nat→Prop} {w:World} {H:List BO} {x:AY} {v:Value} (h:R ok w H x v) (hd:x.Az=true):DV ok w ((fun | .d x=>x|_=>DK) x) v:=by
 cases h with
 |d _ _ h=>exact h
 |_=>simp[AY.Az]at hd
def Pv (agg:Bool) (cs:List D) (off n:Nat):D:=if agg then .agg ((cs.drop off).take n)else cs.getD off DK
def aEt {P:Program} {ok:Nat→Prop} {w:World} {t:TypeId} {agg:Bool} {n b p off:Nat} {cs:List D} (L:EL P t agg n) (hn:off+n≤cs.length) (O:agg=false→n=1)
 (U:∀i,i<cs.length→(cs.getD i DK).leaf=true) (Y:∀j,j<cs.length→(w.cell? ⟨b,p+j,none⟩).isSome=true) (M:∀j,j<cs.length→DV ok w (cs.getD j DK) (cellAt w b (p+j))):
 ∃v,(Instr.loadAt t (.pointer (some ⟨b,p+off,none⟩))).run P w=.ok v w∧DV ok w (Pv agg cs off n) v:=by
 have m:∀j,j<cs.length→w.cell? ⟨b,p+j,none⟩=some (cellAt w b (p+j)):=by
  intro j z;have :=Y j z;obtain⟨u,Z⟩:=TY.1 this;simp[cellAt,Z]
 cases agg with
 |false=>
  have :=O rfl;subst this;refine⟨cellAt w b (p+off),?_,M off AA⟩;have J:=m off AA;simp[Instr.loadAt,Instr.sureAddr,loadVar,L.agg,J]
 |true=>
  let vs:Array Value:=((List.range n).map fun j=>cellAt w b (p+(off+j))).toArray
  have q:vs.size=n:=by simp[vs]
  have I:∀j,j<n→vs.getD j undef=cellAt w b (p+(off+j)):=by
   intro j z;simp[vs,Array.getD,z]
  refine⟨.agg vs,?_,?_⟩
  ·simp only[Instr.loadAt,Instr.sureAddr,FD,GK,FU]
   have h:=ais (P:=P) w t b (p+off) vs (L.agg w) (by rw[q];exact L.size w) (fun j z=>by
    rw[q]at z;rw[I j z,O9]
    exact m (off+j) AA)
   exact h
  simp only[Pv,JZ];have hlen:((cs.drop off).take n).length=n:=DU
  have J:∀i,i<n→((cs.drop off).take n).getD i DK=cs.getD (off+i) DK:=by
   intro i hi;simp[List.getD,Na hi,Pq]
  refine .agg _ vs (by rw[hlen,q]) (fun i hi=>?_) (fun i hi=>?_)
  ·rw[hlen]at hi;rw[J i hi];exact U _ AA
  rw[hlen]at hi;rw[J i hi,I i hi];exact M _ AA
def ah6 {x:Operand} {t:TypeId} {agg:Bool} {n off:Nat} {cs:List D} (q:EL P t agg n) (z:off+n≤cs.length) (I:agg=false→n=1) (J:o.op=.load t x):
 BU P o [(x,.d (.ref cs off))] es (.d (Pv agg cs off n)) es:=
 .pure fun ok H a w _ _ m=>by
  have j:=LH m;simp only at j;generalize L:a.eval x=u at j;cases j with
  |d _ _ h=>
   cases h with
   |ref _ _ b p M O U Y=>
    obtain⟨v,Z,hd⟩:=aEt q z I O U Y;exact⟨v,by simp only[execOp,J,L,FD,Z,FU,GK],.d _ _ hd⟩
def uw (l:List AY):(Iw l).length=l.length:=by simp[Iw]
def aeQ {l:List AY} {i:Nat} (h:i<l.length):(Iw l).getD i DK=(fun | .d x=>x|_=>DK) (l.getD i .junk):=by
 simp[Iw,List.getD,h]
def aNW {ok:Nat→Prop} {w:World} {H:List BO} {h:BO} {cs:List AY} (M:Em ok w H h (.box cs)) (hd:cs.all AY.Az=true):
 ∃b,h.v=.pointer (some ⟨b,0,none⟩)∧(∀i,i<(Iw cs).length→((Iw cs).getD i DK).leaf=true)∧(∀j,j<(Iw cs).length→(w.cell? ⟨b,0+j,none⟩).isSome=true)∧(∀j,j<(Iw cs).length→DV ok w ((Iw cs).getD j DK) (cellAt w b (0+j))):=by
 obtain⟨b,vs,T,O,U,Y,z⟩:=M;rw[DT]at hd
 have m:∀j,j<cs.length→w.cell? ⟨b,0+j,none⟩=some (vs.toList.getD j undef):=by
  intro j q;rw[JI];have u:j<vs.size:=by simpa using(by omega:j<vs.toList.length)
  simp[World.cell?,U,u,List.getD]
 refine⟨b,O,fun i hi=>?_,fun j q=>?_,fun j q=>?_⟩
 ·rw[uw]at hi;rw[aeQ hi];have I:=(z i hi).1;have J:=hd (cs.getD i .junk) MG;cases L:cs.getD i .junk with
  |d x=>rw[L]at I;exact I
  |_=>rw[L]at J;simp[AY.Az]at J
 ·rw[uw]at q;rw[m j q];rfl
 rw[uw]at q;rw[aeQ q];unfold cellAt;rw[m j q];exact(z j q).2.toD (hd (cs.getD j .junk) aLS)
def anA {x:Operand} {t:TypeId} {agg:Bool} {k n off:Nat} {cs:List AY} (M:es[k]? =some (.box cs)) (hd:cs.all AY.Az=true) (O:EL P t agg n) (U:off+n≤cs.length) (Y:agg=false→n=1) (Z:o.op=.load t x):
 BU P o [(x,.ptr k off)] es (.d (Pv agg (Iw cs) off n)) es:=
 .pure fun ok H a w m hl q=>by
  have j:=LH q;simp only at j;generalize he:a.eval x=u at j;obtain⟨h,hh,z⟩:=Fz m hl M;obtain⟨b,I,hf,hx,hc⟩:=aNW z hd;cases j with
  |ptr _ _ b' s J=>
   rw[hh]at J;obtain rfl:=CO J;simp at I;subst I;obtain⟨v,L,hD⟩:=aEt O (by rw[uw];exact U) Y hf hx hc;rw[JI]at L;exact⟨v,by simp only[execOp,Z,he,FD,L,FU,GK],.d _ _ hD⟩
def aR2 {x:Operand} {t:TypeId} {k off:Nat} {cs:List AY} {v:AY} (U:es[k]? =some (.box cs)) (Y:cs[off]? =some v) (Z:EL P t false 1) (ho:o.op=.load t x):BU P o [(x,.ptr k off)] es v es:=
 .pure fun ok H a w q hl I=>by
  have m:=LH I;simp only at m;generalize he:a.eval x=u at m;obtain⟨h,hh,b,vs,T,L,h2,h3,h4⟩:=Fz q hl U;cases m with
  |ptr _ _ b' s M=>
   rw[hh]at M;obtain rfl:=CO M;simp at L;subst L;obtain⟨z,J⟩:=Fb.1 Y;have O:=(h4 off z).2;have e1:cs.getD off .junk=v:=by simp[List.getD,z,J]
   have j:off<vs.size:=by simpa using(by omega:off<vs.toList.length)
   have e2:vs.toList.getD off undef=vs[off]:=aAP
   rw[e1,e2]at O;refine⟨vs[off],?_,O⟩;have hc:w.cell? ⟨b',off,none⟩=some vs[off]:=by simp[World.cell?,h2,j]
   simp[execOp,ho,he,Instr.loadAt,Instr.sureAddr,loadVar,Z.agg,hc]
end
def Cb.change {C:EN} {ok ok':Nat→Prop} {H H':List BO} {es es':List Ar} {w w':World} (m:Cb C ok H es w) (B:Nat→Prop)
 (hos:w'.os=w.os) (O:w'.tape=w.tape) (hout:w'.output=w.output) (q:w.heap.size≤w'.heap.size)
 (L:∀b,b<w.heap.size→¬B b→w'.heap[b]? =w.heap[b]?) (hB:∀b,B b→b<w.heap.size→¬ok b∧(C.w0.heap.size≤b∨b∈C.X))
 (hok:∀b,ok b→ok' b) (M:∀b,ok' b→ok b∨(w.heap.size≤b∧b<w'.heap.size)) (z:Names H H') (hlen:H'.length=es'.length)
 (I:∀(k:Nat) (e:Ar) (h:BO),es'[k]? =some e→H'[k]? =some h→
  (es[k]? =some e∧H[k]? =some h∧(e.live=true→∀b,D8 h.v=some b→¬B b))∨
  (Em ok' w' H' h e∧(e.live=true→∀b,D8 h.v=some b→¬ok' b∧b<w'.heap.size∧(C.w0.heap.size≤b∨b∈C.X)∧
   ∀(k':Nat) (e':Ar) (h':BO),k'≠k→es'[k']? =some e'→e'.live=true→H'[k']? =some h'→D8 h'.v≠some b))):
 Cb C ok' H' es' w'∧ES ok w ok' w':=by
 have hg:ES ok w ok' w':=fun b j=>⟨hok b j,L b (m.kL b j) (fun u=>(hB b u (m.kL b j)).1 j)⟩
 refine⟨⟨⟨hos.trans m.fr.os,O.trans m.fr.tape,hout.trans m.fr.output,Eh m.fr.size q,fun k hk hx=>?_⟩,fun b j=>hok b (m.yR b j),?_,?_,m.names.trans z,hlen,?_,?_,?_⟩,hg⟩
 ·have hkw:k<w.heap.size:=WG hk m.fr.size;rw[L k hkw (fun j=>(hB k j hkw).2.elim (fun h=>AA) hx)];exact m.fr.block k hk hx
 ·intro b j;rcases M b j with h|⟨h,_⟩
  ·exact m.yS b h
  exact .inr (.inl (Eh m.fr.size h))
 ·intro b j;rcases M b j with h|⟨_,h⟩
  ·exact WG (m.kL b h) q
  exact h
 ·intro k e h he hh;rcases I k e h he hh with⟨J,h2,h3⟩|⟨J,_⟩
  ·exact(m.ent k e h J h2).mono hg z (fun hl b j=>L b (m.blk k e h b J hl h2 j).2.1 (h3 hl b j))
  exact J
 ·intro k e h b he hl hh j;rcases I k e h he hh with⟨J,h2,h3⟩|⟨_,J⟩
  ·have :=m.blk k e h b J hl h2 j;refine⟨fun u=>?_,WG this.2.1 q,this.2.2⟩;rcases M b u with h4|⟨h4,_⟩
   ·exact this.1 h4
   omega
  exact⟨(J hl b j).1,(J hl b j).2.1,(J hl b j).2.2.1⟩
 intro k k' e e' h h' b he he' hl U hh hh' j u;apply Vq;intro Y;rcases I k e h he hh with⟨J,h2,h3⟩|⟨_,J⟩
 ·rcases I k' e' h' he' hh' with⟨Z,h2',h3'⟩|⟨_,Z⟩
  ·exact Y (m.E5 k k' e e' h h' b J Z hl U h2 h2' j u)
  exact(Z U b u).2.2.2 k e h Y he hl hh j
 exact(J hl b j).2.2.2 k' e' h' (fun e=>Y e.symm) he' U hh' u
def aCj {α:Type} {l:List α} {i:Nat} {z:α} (h:i<l.length):l.getD i z=l[i]:=by simp[List.getD,h]
def Vt {α:Type} {l:List α} {a x:α} {k:Nat} (h:(l++[a])[k]? =some x):l[k]? =some x∨(k=l.length∧x=a):=by
 by_cases m:k<l.length
 ·rw[Gj m]at h;exact .inl h
 have j:=(Fb.1 h).1;simp at j;have :k=l.length:=AA
 subst this;simp at h;exact .inr ⟨rfl,h.symm⟩
def Cb.push {C:EN} {ok:Nat→Prop} {H:List BO} {es:List Ar} {w:World} (j:Cb C ok H es w) (o:Obj) (h:BO) (e:Ar) (J:∀b,D8 h.v=some b→b=w.heap.size)
 (he:Em ok (w.alloc o) (H++[h]) h e):Cb C ok (H++[h]) (es++[e]) (w.alloc o)∧ES ok w ok (w.alloc o):=by
 refine j.change (fun _=>False) rfl rfl rfl Ap (fun b J _=>Jk _ _ _ J) (fun _ h=>h.elim) (fun _ h=>h) (fun _ h=>.inl h) (Names.push _ _) (by simp[j.hlen]) ?_;intro k e' h' L q;rcases Vt L with I|⟨I,h2⟩
 ·left;refine⟨I,?_,fun _ _ _ h=>h⟩;have M:k<H.length:=by rw[j.hlen];exact(Fb.1 I).1
  rwa [Gj M]at q
 subst h2;have M:k=H.length:=by rw[j.hlen];exact I
 subst M;simp at q;subst q;refine .inr ⟨he,fun _ b O=>?_⟩;obtain rfl:=J b O;refine⟨fun u=>absurd (j.kL _ u) AA,Ap,.inl j.fr.size,fun k' U Y Z hk' hl m z=>?_⟩;rcases Vt hk' with u|⟨u,_⟩
 ·have hk2:k'<H.length:=by rw[j.hlen];exact(Fb.1 u).1
  rw[Gj hk2]at m;exact absurd (j.blk k' U Y _ u hl m z).2.1 AA
 rw[←j.hlen]at u;exact Z u
def Cb.fresh {C:EN} {ok:Nat→Prop} {H:List BO} {es:List Ar} {w:World} (j:Cb C ok H es w) (o:Obj):
 Cb C (fun b=>ok b∨b=w.heap.size) H es (w.alloc o)∧ES ok w (fun b=>ok b∨b=w.heap.size) (w.alloc o):=by
 refine j.change (fun _=>False) rfl rfl rfl Ap (fun b m _=>Jk _ _ _ m) (fun _ h=>h.elim) (fun _ h=>.inl h) (fun b h=>?_) (.refl _) j.hlen ?_
 ·rcases h with h|rfl
  ·exact .inl h
  exact .inr ⟨Dk _,Ap⟩
 intro k e h q u;exact .inl ⟨q,u,fun _ _ _ h=>h⟩
def Cb.drew {C:EN} {ok:Nat→Prop} {H:List BO} {es:List Ar} {w:World} (j:Cb C ok H es w):Cb C ok H es w.drew∧ES ok w ok w.drew:=
 j.change (fun _=>False) rfl rfl rfl (Dk _) (fun _ _ _=>rfl) (fun _ h=>h.elim) (fun _ h=>h) (fun _ h=>.inl h) (.refl _) j.hlen fun _ _ _ m q=>.inl ⟨m,q,fun _ _ _ h=>h⟩
def Em.dead {ok:Nat→Prop} {w:World} {H:List BO} {h:BO}:Em ok w H h .dead:=trivial
def R.ajF {ok:Nat→Prop} {w:World} {H:List BO} {x:AY} {v:Value} (h:R ok w H x v) (hl:x.cells.all AY.leaf=true):Fg ok w H x.cells v.cells.toList:=by
 rw[DT]at hl;cases h with
 |d x v h=>
  cases h with
  |agg cs vs hs J M=>
   refine⟨by simp[AY.cells,D.cells,Value.cells,hs],fun i hi=>?_⟩;simp only[AY.cells,D.cells,CM]at hi;have O:(AY.cells (.d (.agg cs))).getD i .junk=.d (cs.getD i DK):=by simp[AY.cells,D.cells,List.getD,hi]
   have u:i<vs.size:=AA
   have L:(Value.cells (.agg vs)).toList.getD i undef=vs.getD i undef:=aaF
   rw[O,L];exact⟨J i hi,.d _ _ (M i hi)⟩
  |lit v=>
   have m:=hl (.d (.lit v)) (by simp[AY.cells,D.cells]);have e:v.cells= #[v]:=by cases v<;>first|rfl|(simp[AY.leaf,D.leaf,Value.oneCell']at m)
   refine⟨by simp[AY.cells,D.cells,e],fun i hi=>?_⟩;simp[AY.cells,D.cells]at hi;subst hi;rw[e];exact⟨m,.d _ _ (.lit v)⟩
  |sl0 ad cap=>
   refine⟨rfl,fun i hi=>?_⟩;simp[AY.cells,D.cells]at hi;subst hi;exact⟨rfl,.d _ _ (.sl0 ad cap)⟩
  |sl es b off cap size m q z I U Y=>
   refine⟨rfl,fun i hi=>?_⟩;simp[AY.cells,D.cells]at hi;subst hi;exact⟨rfl,.d _ _ (.sl es b off cap size m q z I U Y)⟩
  |ref cs off b o m q z I=>
   refine⟨rfl,fun i hi=>?_⟩;simp[AY.cells,D.cells]at hi;subst hi;exact⟨rfl,.d _ _ (.ref cs off b o m q z I)⟩
  |fn f first cap vs us m q z I=>
   refine⟨rfl,fun i hi=>?_⟩;simp[AY.cells,D.cells]at hi;subst hi;exact⟨rfl,.d _ _ (.fn f first cap vs us m q z I)⟩
  |PU t x v m=>
   refine⟨rfl,fun i hi=>?_⟩;simp[AY.cells,D.cells]at hi;subst hi;exact⟨rfl,.d _ _ (.PU t x v m)⟩
 |ptr k off b s h=>
  exact⟨rfl,fun i hi=>by simp[AY.cells]at hi;subst hi;exact⟨rfl,.ptr k off b s h⟩⟩
 |aZ k ad n cap s h=>
  exact⟨rfl,fun i hi=>by simp[AY.cells]at hi;subst hi;exact⟨rfl,.aZ k ad n cap s h⟩⟩
 |lX k i off b n cap s h=>
  exact⟨rfl,fun j hi=>by simp[AY.cells]at hi;subst hi;exact⟨rfl,.lX k i off b n cap s h⟩⟩
 |fn f first cap vs us m q z I=>
  exact⟨rfl,fun i hi=>by simp[AY.cells]at hi;subst hi;exact⟨rfl,.fn f first cap vs us m q z I⟩⟩
 |mp k v s hl h=>
  have e:v.cells= #[v]:=by cases v<;>first|rfl|(simp[Value.oneCell']at hl)
  exact⟨by simp[AY.cells,e],fun j hi=>by simp[AY.cells]at hi;subst hi;rw[e];exact⟨rfl,.mp k v s hl h⟩⟩
 |clip xs ad h=>exact⟨rfl,fun i hi=>by simp[AY.cells]at hi;subst hi;exact⟨rfl,.clip xs ad h⟩⟩
 |xC k ad n cap s h=>exact⟨rfl,fun i hi=>by simp[AY.cells]at hi;subst hi;exact⟨rfl,.xC k ad n cap s h⟩⟩
 |fB xs vs m q=>have :=hl (.fB xs) (by simp[AY.cells]);simp[AY.leaf]at this
 |ag xs vs m J q=>
  refine⟨by simp[AY.cells,Value.cells,m],fun i hi=>?_⟩;have u:i<vs.size:=by rw[m];exact hi
  have L:(Value.cells (.agg vs)).toList.getD i undef=vs.getD i undef:=aaF
  rw[L];exact⟨J i hi,q i hi⟩
 |junk v=>have :=hl .junk (by simp[AY.cells]);simp[AY.leaf]at this
section
variable {P : Program} {o : Oper} {es : List Ar}
def aG2 (w:World):∀b,D8 (BO.v ⟨.pointer (some ⟨w.heap.size,0,none⟩),0⟩)=some b→b=w.heap.size:=fun b j=>by simpa[D8]using j.symm
def BU.eff {ns:List (Operand×AY)} {x:AY} {es':List Ar}
 (h:∀(C:EN) (ok:Nat→Prop) (H:List BO) (a:Act) (w:World),Cb C ok H es w→(∀n∈ns,R ok w H n.2 (a.eval n.1))→
  ∃v w' ok' H',((execOp a.eval o).run P w=.ok (.value v) w'∨(v=undef∧(execOp a.eval o).run P w=.ok .skip w'))∧ES ok w ok' w'∧Names H H'∧Cb C ok' H' es' w'∧R ok' w' H' x v):BU P o ns es x es':=by
 intro C ok H a w Q I J;obtain⟨v,w',ok',H',j,m,q,u,z⟩:=h C ok H a w I J;unfold Oper.wp;rcases j with j|⟨rfl,j⟩
 ·rw[j];exact⟨v,ok',H',rfl,m,q,u,z⟩
 rw[j];exact⟨undef,ok',H',rfl,m,q,u,z⟩
def ap6 {t:TypeId} {x:Operand} {v:AY} (hl:v.cells.all AY.leaf=true) (u:o.op=.box t x):BU P o [(x,v)] es (.ptr es.length 0) (es++[.box v.cells]):=
 .eff fun C ok H a w m z=>by
  have q:=LH z;simp only at q
  have j:Em ok (w.alloc (.cells (a.eval x).cells t)) (H++[⟨.pointer (some ⟨w.heap.size,0,none⟩),0⟩]) ⟨.pointer (some ⟨w.heap.size,0,none⟩),0⟩ (.box v.cells):=
   ⟨w.heap.size,(a.eval x).cells,t,rfl,dA w _,(q.ajF hl).mono (fun b j=>⟨j,Jk _ _ _ (m.kL b j)⟩) (Names.push _ _)⟩
  obtain⟨I,J⟩:=m.push (.cells (a.eval x).cells t) ⟨.pointer (some ⟨w.heap.size,0,none⟩),0⟩ _ (aG2 w) j;refine⟨_,_,ok,_,.inl ?_,J,Names.push _ _,I,.ptr _ _ w.heap.size 0 aAB⟩;simp[execOp,u,Instr.box,newVar,newRow]
def OX :Value→D
 | .slice none 0 0=>.sl []
 |v=>.lit v
def gX {ok:Nat→Prop} {w:World} (v:Value):DV ok w (OX v) v:=by
 unfold OX;split
 ·exact .sl0 none 0
 exact .lit v
def oG {v:Value} (h:v.oneCell'=true):(OX v).leaf=true:=by
 unfold OX;split
 ·rfl
 exact h
def FI (z:Value):List AY:=z.cells.toList.map fun v=>.d (OX v)
def ash {t:TypeId} {z:Value} (q:(P.info? t).bind (·.zero)=some z) (hl:z.cells.all (·.oneCell')=true) (u:o.op=.alloc t):BU P o [] es (.ptr es.length 0) (es++[.box (FI z)]):=
 .eff fun C ok H a w m U=>by
  have I:Em ok (w.alloc (.cells z.cells t)) (H++[⟨.pointer (some ⟨w.heap.size,0,none⟩),0⟩]) ⟨.pointer (some ⟨w.heap.size,0,none⟩),0⟩ (.box (FI z)):=by
   refine⟨w.heap.size,z.cells,t,rfl,dA w _,by simp[FI],fun i hi=>?_⟩;simp only[FI,CM,TM]at hi;have J:(FI z).getD i .junk=.d (OX z.cells[i]):=by simp[FI,List.getD,hi]
   have L:z.cells.toList.getD i undef=z.cells[i]:=MG
   rw[J,L];exact⟨oG ((QW.1 hl) _ Ap),.d _ _ (gX _)⟩
  obtain⟨M,O⟩:=m.push (.cells z.cells t) ⟨.pointer (some ⟨w.heap.size,0,none⟩),0⟩ _ (aG2 w) I;refine⟨_,_,ok,_,.inl ?_,O,Names.push _ _,M,.ptr _ _ w.heap.size 0 aAB⟩;obtain⟨i,hi,j⟩:=jE.1 q;simp[execOp,u,Instr.alloc,zeroValue,typeInfo,hi,j,newVar,newRow]
def N7 {l:List Ar} {k j:Nat} {a x:Ar} (m:k<l.length) (h:(l.set k a)[j]? =some x):(j=k∧x=a)∨(j≠k∧l[j]? =some x):=by
 by_cases e:k=j
 ·subst e;simp[m]at h;exact .inl ⟨rfl,h.symm⟩
 rw[YJ e]at h;exact .inr ⟨fun h'=>e h'.symm,h⟩
def Cb.upd {C:EN} {ok:Nat→Prop} {H:List BO} {w w':World} (L:Cb C ok H es w) {k:Nat} {M e:Ar} {h:BO} {b:Nat} (hk:es[k]? =some M) (z:M.live=true) (hh:H[k]? =some h) (hb:D8 h.v=some b)
 (hos:w'.os=w.os) (I:w'.tape=w.tape) (O:w'.output=w.output) (hsize:w'.heap.size=w.heap.size)
 (u:∀c,c≠b→w'.heap[c]? =w.heap[c]?) (he:ES ok w ok w'→Em ok w' H h e):Cb C ok H (es.set k e) w'∧ES ok w ok w':=by
 have U:=L.blk k M h b hk z hh hb;have hg:ES ok w ok w':=fun c m=>⟨m,u c (fun e=>U.1 (e▸m))⟩
 refine L.change (fun c=>c=b) hos I O AA (fun c _ m=>u c m) (fun c m _=>by subst m;exact⟨U.1,U.2.2⟩) (fun _ h=>h) (fun _ h=>.inl h) (.refl _) (by simp[L.hlen]) ?_;intro j e' h' hj q;have Y:k<es.length:=(Fb.1 hk).1;rcases N7 Y hj with⟨rfl,rfl⟩|⟨J,Z⟩
 ·rw[hh]at q;obtain rfl:=CO q;refine .inr ⟨he hg,fun _ c m=>?_⟩;rw[hb]at m;obtain rfl:=CO m;refine⟨U.1,AA,U.2.2,fun k' e'' h'' J hk' hl' aFe aFf=>J ?_⟩;rcases N7 Y hk' with⟨rfl,_⟩|⟨_,hk''⟩
  ·rfl
  exact L.E5 k' j e'' M h'' h b hk'' hk hl' z aFe hh aFf hb
 refine .inl ⟨Z,q,fun hl c m hcb=>J ?_⟩;subst hcb;exact L.E5 j k e' M h' h c Z hk hl z q hh m hb
def aI3 (w:World) (g:Nat) (cs:Array Value) (k:Nat) (h:k≠g):(w.setRow g cs).heap[k]? =w.heap[k]? :=setRow_other w g k cs h
def setAt {α:Type} (cs:List α) (off:Nat) (ys:List α):List α:=cs.take off++ys++cs.drop (off+ys.length)
def RS {α:Type} {cs ys:List α} {off:Nat} (h:off+ys.length≤cs.length):(setAt cs off ys).length=cs.length:=by simp[setAt];omega
def XD {α:Type} {cs ys:List α} {off:Nat} (h:off+ys.length≤cs.length) (i:Nat) (z:α):(setAt cs off ys).getD i z=if off≤i∧i<off+ys.length then ys.getD (i-off) z else cs.getD i z:=by
 unfold setAt;have j:(cs.take off).length=off:=DU
 by_cases hi:i<off
 ·rw[Cc AA];simp only[List.getD];rw[Hr,Gj AA,Na hi]
 by_cases m:i<off+ys.length
 ·rw[CV AA];simp only[List.getD];rw[Hr,Jd AA,j,Gj AA]
 rw[Cc AA];simp only[List.getD];rw[Jd DU,Pq];congr 2;simp;omega
def ads {t:TypeId} {x y:Operand} {k off n:Nat} {cs:List AY} {v:AY} (hk:es[k]? =some (.box cs)) (hl:v.cells.all AY.leaf=true) (hs:∀w,(sizeOf t).run P w=.ok n w) (hn:v.cells.length=n) (hle:off+n≤cs.length) (ho:o.op=.store t x y):
 BU P o [(x,.ptr k off),(y,v)] es .junk (es.set k (.box (setAt cs off v.cells))):=
 .eff fun C ok H a w O z=>by
  have U:=(Ea z).1;have h2:=(Ea z).2;simp only at U h2;generalize he:a.eval x=u at U;obtain⟨h,hh,Y⟩:=Fz O.ent O.hlen hk;obtain⟨b,vs,T,hb,m,I,J⟩:=Y;have j:=h2.ajF hl;cases U with
  |ptr _ _ L s hH=>
   rw[hh]at hH;obtain rfl:=CO hH;simp at hb;subst hb;have q:(a.eval y).cells.toList.length=n:=by rw[j.1,hn]
   have aFZ:vs.size=cs.length:=Qq
   have Z:(a.eval y).cells.size=n:=Nz
   have hst:=aN0 (P:=P) L off T (a.eval y).cells.toList 0 vs w m (by rw[q];omega) (fun u hu=>by
    obtain⟨i,hi,rfl⟩:=GZ hu;have M:=j.2 i (by rw[←j.1];exact hi);have :=M.2.leaf M.1
    rwa [aCj hi]at this)
   simp only[PG]at hst;have hlt:L<w.heap.size:=(G6.1 m).1
   obtain⟨h3,h4⟩:=O.upd (e:=.box (setAt cs off v.cells)) (w':=w.setRow L (vs.toList.take off++(a.eval y).cells.toList++vs.toList.drop (off+(a.eval y).cells.toList.length)).toArray) hk rfl hh rfl rfl rfl rfl aPJ (fun c hc=>aI3 _ _ _ _ hc) (fun hg=>by
    refine⟨L,_,T,rfl,oH w L vs _ T (0,0) m,?_,fun i hi=>?_⟩
    ·have e1:(vs.toList.take off++(a.eval y).cells.toList++vs.toList.drop (off+(a.eval y).cells.toList.length))=setAt vs.toList off (a.eval y).cells.toList:=rfl;rw[e1,aBY,RS (by have :=vs.length_toList;omega),RS AA];simpa using I
    have e1:(vs.toList.take off++(a.eval y).cells.toList++vs.toList.drop (off+(a.eval y).cells.toList.length))=setAt vs.toList off (a.eval y).cells.toList:=rfl;rw[RS AA]at hi;rw[e1,aBY,XD (by have :=vs.length_toList;omega),XD AA,q,hn];split
    ·have M:=j.2 (i-off) AA;exact⟨M.1,M.2.mono hg (.refl _)⟩
    exact⟨(J i hi).1,(J i hi).2.mono hg (.refl _)⟩)
   refine⟨undef,_,ok,H,.inr ⟨rfl,?_⟩,h4,.refl _,h3,.junk _⟩;simp only[execOp,ho,he,Instr.storeAt,Instr.sureAddr,storeVar,FD,GK,FU,hs,Z,ne_eq,not_true_eq_false,JE,hst]
end
def WR (x:D) (es:List D):flat (x::es)=x.cells.map .d++flat es:=Tn
def l7 (xs ys:List D):flat (xs++ys)=flat xs++flat ys:=Tn
def Ro {size:Nat}:∀{es:List D},(∀x∈es,x.cells.length=size)→(flat es).length=es.length*size
 | [],_=>Tn
 |x::es,h=>by
  rw[WR,EG,CM,h x Ap,Ro (fun y j=>h y (FW _ j)),Fa,UK,Qm]
def flat_get {size:Nat}:∀{es:List D},(∀x∈es,x.cells.length=size)→∀i j,i<es.length→j<size→(flat es).getD (i*size+j) .junk=.d ((es.getD i DK).cells.getD j DK)
 | [],_,i,j,hi,_=>OE
 |x::es,h,0,j,_,q=>by
  have m:=h x Ap;rw[WR,Nat.zero_mul,JI];simp only[List.getD];rw[Gj (by simp[m,q])];have u:j<x.cells.length:=AA
  simp[u]
 |x::es,h,i+1,j,hi,q=>by
  have m:=h x Ap;have z:=flat_get (fun y I=>h y (FW _ I)) i j Fp q;rw[WR];simp only[List.getD]at z ⊢;rw[Jd (by simp[m,UK];omega)];have e:(i+1)*size+j-(x.cells.map AY.d).length=i*size+j:=by simp[m,UK];omega
  rw[e,z];simp
section
variable {P : Program} {o : Oper} {es : List Ar}
structure VP (w:World) (v:Value) (m size:Nat) (news:List Value):Prop where
 len:news.length=m*size
 one:∀u∈news,u.oneCell'=true
 at_:(∃ad c,v=.slice (some ad) m c∧∀(j:Nat) (u:Value),news[j]? =some u→w.cell? (ad.add j)=some u)∨(∃c,v=.slice none 0 c∧m=0)
def gJ {ok:Nat→Prop} {w:World} (H:List BO) {ys:List D} {v:Value} {size:Nat} (h:DV ok w (.sl ys) v) (hs:∀x∈ys,x.cells.length=size):
 ∃q,VP w v ys.length size q∧Fg ok w H (flat ys) q:=by
 cases h with
 |sl0 ad cap=>
  refine⟨[],⟨Ap,Ap,?_⟩,Tn,fun i hi=>aGV⟩;cases ad with
  |none=>exact .inr ⟨cap,rfl,rfl⟩
  |some ad=>exact .inl ⟨ad,cap,rfl,fun j u h=>I8⟩
 |sl _ b off cap m hcap hok hs' hf hx hc=>
  by_cases hy:ys=[]
  ·subst hy;refine⟨[],⟨Ap,Ap,.inl ⟨⟨b,off,none⟩,cap,rfl,fun j u h=>I8⟩⟩,Tn,fun i hi=>aGV⟩
  have I:0<ys.length:=xY.2 hy;have hsz:m=size:=by rw[←hs' 0 I];exact hs _ (by simp[List.getD,I])
  subst hsz;have hl:=Ro hs
  have key:∀k,k<ys.length*m→∃i j,k=i*m+j∧i<ys.length∧j<m:=by
   intro k z
   have hp:0<m:=by
    rcases YB m with h0|h0
    ·rw[h0,Nat.mul_zero]at z;omega
    exact h0
   exact⟨k/m,k % m,by rw[UZ];exact(aGY k m).symm,nS (by rwa [UZ]at z),iT _ hp⟩
  let q:List Value:=(List.range (ys.length*m)).map fun k=>cellAt w b (off+k)
  have J:q.length=ys.length*m:=by simp[q]
  have M:∀k,k<ys.length*m→q.getD k undef=cellAt w b (off+k):=by
   intro k z;simp[q,List.getD,z]
  have L:Fg ok w H (flat ys) q:=by
   refine⟨by rw[J,hl],fun k z=>?_⟩;rw[hl]at z;obtain⟨i,j,rfl,hi,O⟩:=key k z;rw[flat_get hs i j hi O,M _ z];exact⟨hf i hi j O,.d _ _ (hc i hi j O)⟩
  refine⟨q,⟨J,fun u hu=>?_,.inl ⟨⟨b,off,none⟩,cap,rfl,fun k u z=>?_⟩⟩,L⟩
  ·obtain⟨k,z,rfl⟩:=GZ hu;have h5:=L.2 k (by rw[←L.1];exact z);have :=h5.2.leaf h5.1
   rwa [aCj z]at this
  obtain⟨U,rfl⟩:=Fb.1 z;rw[addr_add];have Y:k<ys.length*m:=by rw[←J];exact U
  obtain⟨i,j,e,hi,O⟩:=key k Y;have Z:=hx i hi j O;rw[←e]at Z;obtain⟨u',hu'⟩:=TY.1 Z;have :=M k Y;rw[aCj U]at this;rw[this];simp[cellAt,hu']
structure GN (P:Program) (t e:TypeId) (size bytes:Nat):Prop where
 und:P.underlying t=some (.slice e)
 info:∃i z,P.info? e=some i∧i.zero=some z∧i.size=size∧i.bytes=bytes∧z.cells.size=size
 pos:0<size
def aSr (P:Program) (t e size j:Nat):Bool:=
 (match P.underlying t with |some (.slice e')=>decide (e'=e)|_=>false)&&(match P.info? e with |some i=>decide (i.size=size)&&decide (i.bytes=j)&&(match i.zero with |some z=>decide (z.cells.size=size)|none=>false)|none=>false)&&decide (0<size)
def LV {P:Program} {t e size j:Nat} (h:aSr P t e size j=true):GN P t e size j:=by
 unfold aSr at h;simp only[CW,G8]at h;obtain⟨⟨m,q⟩,I⟩:=h;refine⟨?_,?_,I⟩
 ·split at m
  ·rename_i e' J;rw[J];simp at m;rw[m]
  cases m
 split at q
 ·rename_i i hi;simp only[CW,G8]at q;obtain⟨⟨L,M⟩,u⟩:=q;split at u
  ·rename_i z O;exact⟨i,z,hi,O,L,M,MR⟩
  cases u
 cases q
def anv {w:World} {t e:TypeId} {ty:TypeId} {size O:Nat} (hE:GN P t e size O) {v:Value} {n:Nat} {xs:List Value} (L:w.ownsRow 0 e size v n xs) {x:Value} {m:Nat} {I:List Value} (q:VP w x m size I)
 (hb:(n+m)*O≤140737488355328) (hn:n+m≤maxLen):
 ∃v' w',(Builtin.append_ #[t,t] ty #[v,x]).run P w=.ok v' w'∧w'.ownsRow 0 e size v' (n+m) (xs++I)∧w.grownBy w' v.ownBlock∧(∀g,D8 v'=some g→D8 v=some g∨w.heap.size≤g):=by
 obtain⟨i,z,hi,hz,hs,Z,hzs⟩:=hE.info;rcases q.at_ with⟨ad,c,rfl,J⟩|⟨c,rfl,rfl⟩
 ·obtain⟨v',w',hr,ho',hg,hnil⟩:=run_append_own (P:=P) w 0 t ty e i z size O hE.und hi hz hs Z hzs hE.pos v n xs L ad m c I q.len J q.one hn hb (EZ _);refine⟨v',w',hr,ho',hg,fun g U=>?_⟩;rcases L.2 with⟨rfl,rfl⟩|⟨g0,cap,cur,rfl,hbg,hg0,hnc,hcm,hcs,htake⟩
  ·have hx:xs=[]:=Gg (by simpa using L.1);subst hx;obtain⟨v2,w2,M,ho2,_,_⟩:=run_append_own (P:=P) w w.heap.size t ty e i z size O hE.und hi hz hs Z hzs hE.pos _ 0 [] (aCN w w.heap.size e size) ad m c I q.len J q.one hn hb (Dk _);rw[hr]at M;simp only[Result.ok.injEq]at M;obtain⟨rfl,rfl⟩:=M;rcases ho2.2 with⟨rfl,_⟩|⟨g',_,_,rfl,hle,_⟩
   ·simp[D8]at U
   simp[D8]at U;subst U;exact .inr hle
  by_cases Y:n+m≤cap
  ·have hfit:n*i.size+I.length≤cur.size:=by rw[q.len,hcs,hs,←Xn];exact Js _ Y
   have M:=run_append_room (P:=P) w t ty e i hE.und hi g0 n cap cur hg0 ad m c I (by rw[hs];exact q.len) J q.one Y hfit;rw[hr]at M;simp only[Result.ok.injEq]at M;obtain⟨rfl,rfl⟩:=M;exact .inl U
  have holds:∀(j:Nat) (u:Value),xs[j]? =some u→w.cell? ((⟨g0,0,none⟩:Addr).add j)=some u:=L.cells (g:=g0) rfl;have M:=run_append_grow (P:=P) w t ty e i z hE.und hi hz ⟨g0,0,none⟩ n cap xs (by rw[hs];exact L.1) holds ad m c I (by rw[hs];exact q.len) J AA (by unfold maxLen at hn;omega) (growslice_fits AA (by rw[Z];exact hb));rw[hr]at M;simp only[Result.ok.injEq]at M;obtain⟨rfl,rfl⟩:=M;simp[D8]at U;subst U;exact .inr (Dk _)
 have hnews:I=[]:=Gg (by simpa using q.len);subst hnews;refine⟨v,w,?_,eK,⟨rfl,rfl,rfl,Dk _,fun _ _ _=>rfl⟩,fun g hg=>.inl hg⟩;rcases L.2 with⟨rfl,rfl⟩|⟨g,cap,cur,rfl,_,_,hnc,_⟩
 ·simp[Builtin.append_,aDu hE.und,sizeOf,typeInfo,hi,Builtin.lenOf,Builtin.firstCells]
 simp[Builtin.append_,aDu hE.und,sizeOf,typeInfo,hi,Builtin.lenOf,Builtin.firstCells,hnc,storeCells]
def aL2 {w:World} {t e:TypeId} {ty:TypeId} {size I:Nat} (hE:GN P t e size I) {v:Value} {n:Nat} {xs:List Value} (u:nG w e size v n xs) {x:Value} {m:Nat} {q:List Value} (j:VP w x m size q)
 (hb:(n+m)*I≤140737488355328) (hn:n+m≤maxLen):
 ∃v' w',(Builtin.append_ #[t,t] ty #[v,x]).run P w=.ok v' w'∧nG w' e size v' (n+m) (xs++q)∧w.grownBy w' v.ownBlock∧(∀g,D8 v'=some g→D8 v=some g∨w.heap.size≤g):=by
 rcases u.2 with h|⟨g,cap,U,rfl,h0,hg0,hnc,hcm,hcs,Y⟩
 ·obtain⟨v',w',h1,h2,Z,h4⟩:=anv (ty:=ty) hE ⟨u.1,.inl h⟩ j hb hn;exact⟨v',w',h1,.of h2,Z,h4⟩
 obtain⟨i,z,hi,hz,hs,hby,hzs⟩:=hE.info;have hlen:(xs++q).length=(n+m)*size:=by rw[EG,u.1,j.len,Xn]
 rcases j.at_ with⟨ad,c,rfl,L⟩|⟨c,rfl,rfl⟩
 ·by_cases J:n+m≤cap
  ·have O:n*i.size+q.length≤U.size:=by
    rw[j.len,hs,←Xn];exact Eh (Js _ J) hcs
   have hr:=run_append_room (P:=P) w t ty e i hE.und hi g n cap U hg0 ad m c q (by rw[hs];exact j.len) L j.one J O;rw[hs]at hr O;refine⟨_,_,hr,⟨hlen,.inr ⟨g,cap,_,rfl,EZ _,oH w g U _ e _ hg0,J,hcm,?_,?_⟩⟩,⟨rfl,rfl,rfl,Ap,fun k _ hk=>setRow_other w g k _ (fun e=>hk (by simp[Value.ownBlock,e]))⟩,fun g' M=>.inl M⟩
   ·simp only[kD,EG,FY,Kw,TM];omega
   rw[Y,←hlen];exact aN8
  obtain⟨v',w',h1,h2,Z⟩:=run_append_arg_grows (P:=P) w t ty e i z size I hE.und hi hz hs hby hzs hE.pos ⟨g,0,none⟩ n cap xs u.1 (u.cells (g:=g) rfl) ad m c q j.len L AA hn hb;refine⟨v',w',h1,.of h2,⟨Z.os,Z.tape,Z.output,Z.size,fun k hk _=>Z.block k hk Ap⟩,fun g' M=>.inr ?_⟩;rcases h2.2 with⟨rfl,_⟩|⟨g2,_,_,rfl,hle2,_⟩
  ·simp[D8]at M
  simp[D8]at M;subst M;exact hle2
 have hnews:q=[]:=Gg (by simpa using j.len);subst hnews;refine⟨.slice (some ⟨g,0,none⟩) n cap,w,?_,MR,⟨rfl,rfl,rfl,Dk _,fun _ _ _=>rfl⟩,fun g hg=>.inl hg⟩;simp[Builtin.append_,aDu hE.und,sizeOf,typeInfo,hi,Builtin.lenOf,Builtin.firstCells,hnc,storeCells]
def Cb.turn {C:EN} {ok:Nat→Prop} {H:List BO} {w w':World} (m:Cb C ok H es w) {k:Nat} {e0 e:Ar} {h h':BO} (hk:es[k]? =some e0) (M:e0.live=true) (hh:H[k]? =some h)
 (hos:w'.os=w.os) (O:w'.tape=w.tape) (hout:w'.output=w.output) (U:w.heap.size≤w'.heap.size)
 (J:∀c,c<w.heap.size→D8 h.v≠some c→w'.heap[c]? =w.heap[c]?) (hb':∀g,D8 h'.v=some g→g<w'.heap.size∧(D8 h.v=some g∨w.heap.size≤g))
 (he:ES ok w ok w'→Em ok w' (H++[h']) h' e):Cb C ok (H++[h']) (es.set k .dead++[e]) w'∧ES ok w ok w':=by
 have h0:=fun b hb=>m.blk k e0 h b hk M hh hb;have hkl:k<es.length:=(Fb.1 hk).1;have hg:ES ok w ok w':=fun c I=>⟨I,J c (m.kL c I) (fun e=>(h0 c e).1 I)⟩
 refine m.change (fun c=>D8 h.v=some c) hos O hout U J (fun c I _=>⟨(h0 c I).1,(h0 c I).2.2⟩) (fun _ h=>h) (fun _ h=>.inl h) (Names.push _ _) (by simp[m.hlen]) ?_;intro j e' hj' hj u;rcases Vt hj with h1|⟨h1,h2⟩
 ·have hjl:j<H.length:=by rw[m.hlen];simpa using(Fb.1 h1).1
  rw[Gj hjl]at u;rcases N7 hkl h1 with⟨rfl,rfl⟩|⟨Y,h3⟩
  ·exact .inr ⟨trivial,fun h=>GL⟩
  refine .inl ⟨h3,u,fun hl c I hcb=>Y ?_⟩;exact m.E5 j k e' e0 hj' h c h3 hk hl M u hh I hcb
 subst h2;have hk2:j=H.length:=by rw[m.hlen];simpa using h1
 subst hk2;simp at u;subst u;refine .inr ⟨he hg,fun _ c I=>?_⟩;obtain⟨h3,q⟩:=hb' c I;refine⟨fun hok=>?_,h3,?_,fun k' e'' h'' Y hk' Z z L=>?_⟩
 ·rcases q with q|q
  ·exact(h0 c q).1 hok
  have :=m.kL c hok;omega
 ·rcases q with q|q
  ·exact(h0 c q).2.2
  exact .inl (Eh m.fr.size q)
 rcases Vt hk' with h5|⟨h5,_⟩
 ·have hkl':k'<H.length:=by rw[m.hlen];simpa using(Fb.1 h5).1
  rw[Gj hkl']at z;rcases N7 hkl h5 with⟨rfl,rfl⟩|⟨hne',h6⟩
  ·cases Z
  rcases q with q|q
  ·exact hne' (m.E5 k' k e'' e0 h'' h c h6 hk Z M z hh L q)
  have :=(m.blk k' e'' h'' c h6 Z z L).2.1;omega
 simp at h5;exact Y (by rw[h5,m.hlen])
def vF {w:World} {e size n:Nat} {v:Value} {xs:List Value} (h:nG w e size v n xs) {g:Nat} (j:D8 v=some g):g<w.heap.size:=by
 rcases h.2 with⟨rfl,_⟩|⟨q,_,_,rfl,_,m,_⟩
 ·simp[D8]at j
 simp[D8]at j;subst j;exact(G6.1 m).1
def aNs {w:World} {e size n:Nat} {v:Value} {xs:List Value} (h:nG w e size v n xs):v.ownBlock=D8 v:=by
 rcases h.2 with⟨rfl,_⟩|⟨j,_,_,rfl,_⟩<;>rfl
def Ph {ok:Nat→Prop} {w:World} {H:List BO} {k:Nat} {v:Value} {h:BO} (m:R ok w H (.aZ k) v) (q:H[k]? =some h):v=h.v:=by
 cases m with
 |aZ _ ad n cap s j=>rw[q]at j;rw[CO j]
def arv {C:EN} {ok:Nat→Prop} {H:List BO} {w:World} (Z:Cb C ok H es w) {t ty e:TypeId} {size m k:Nat} {xs ys:List D} (hE:GN P t e size m) (hk:es[k]? =some (.arr e size xs))
 {v x:Value} (hv:R ok w H (.aZ k) v) {j:List Value} (J:VP w x ys.length size j) (z:Fg ok w H (flat ys) j) (hys:∀y∈ys,y.cells.length=size) (hb:(xs.length+ys.length)*m≤140737488355328) (hn:xs.length+ys.length≤maxLen):
 ∃v' w' H',(Builtin.append_ #[t,t] ty #[v,x]).run P w=.ok v' w'∧ES ok w ok w'∧Names H H'∧Cb C ok H' (es.set k .dead++[.arr e size (xs++ys)]) w'∧R ok w' H' (.aZ es.length) v':=by
 obtain⟨h,hh,hok⟩:=Fz Z.ent Z.hlen hk;obtain rfl:=Ph hv hh;obtain⟨h1,h2,DZ,u,hrs⟩:=hok;obtain⟨v',w',hr,I,L,M⟩:=aL2 (P:=P) (ty:=ty) hE u J hb hn
 obtain⟨h3,h4⟩:=Z.turn (h':=⟨v',size⟩) (e:=.arr e size (xs++ys)) hk rfl hh L.os L.tape L.output L.size (fun c hc hne=>L.block c hc (by rw[aNs u];exact fun e=>hne e.symm)) (fun g O=>⟨vF I O,M g O⟩) (fun U=>by
  refine⟨rfl,fun y hy=>?_,DZ++j,Qq,?_⟩
  ·rcases GU.1 hy with h|h
   ·exact h2 y h
   exact hys y h
  have Y:=hrs.mono U (Names.push H [⟨v',size⟩]);have a2:=z.mono U (Names.push H [⟨v',size⟩]);rw[l7];refine⟨by rw[EG,EG,Y.1,a2.1],fun i hi=>?_⟩;by_cases q:i<(flat xs).length
  ·have e1:(flat xs++flat ys).getD i .junk=(flat xs).getD i .junk:=by simp[List.getD,Gj q]
   have e2:(DZ++j).getD i undef=DZ.getD i undef:=by simp[List.getD,Gj (by rw[Y.1];exact q:i<DZ.length)]
   rw[e1,e2];exact Y.2 i q
  have hi3:i-(flat xs).length<(flat ys).length:=aIM
  have e1:(flat xs++flat ys).getD i .junk=(flat ys).getD (i-(flat xs).length) .junk:=by simp[List.getD,Jd (Uk q)]
  have e2:(DZ++j).getD i undef=j.getD (i-(flat xs).length) undef:=by simp[List.getD,Jd (by rw[Y.1];omega:DZ.length≤i),Y.1]
  rw[e1,e2];exact a2.2 _ hi3)
 refine⟨v',w',_,hr,h4,Names.push _ _,h3,?_⟩;have hH:(H++[(⟨v',size⟩:BO)])[es.length]? =some ⟨v',size⟩:=by rw[←Z.hlen];simp
 rcases I.2 with⟨rfl,_⟩|⟨g',c',_,rfl,_⟩
 ·exact .aZ _ _ _ _ size hH
 exact .aZ _ _ _ _ size hH
def anZ {s x:Operand} {t e:TypeId} {size j k:Nat} {xs ys:List D} (hE:GN P t e size j) (O:es[k]? =some (.arr e size xs)) (m:∀y∈ys,y.cells.length=size)
 (U:(xs.length+ys.length)*j≤140737488355328) (Y:xs.length+ys.length≤maxLen) (Z:o.op=.call { callee:=.builtin .append,args:= #[s,x],argTypes:= #[t,t] }):
 BU P o [(s,.aZ k),(x,.d (.sl ys))] es (.aZ es.length) (es.set k .dead++[.arr e size (xs++ys)]):=
 .eff fun C ok H a w hm q=>by
  have J:=(Ea q).1;have L:=(Ea q).2;simp only at J L;have z:DV ok w (.sl ys) (a.eval x):=by cases L with |d _ _ h=>exact h
  obtain⟨M,u,I⟩:=gJ H z m;obtain⟨v',w',H',hr,r1,r2,r3,r4⟩:=arv (ty:=o.type) hm hE O J u I m U Y;refine⟨v',w',ok,H',.inl ?_,r1,r2,r3,r4⟩;simp[execOp,Z,resolve,invoke,builtin,hr]
def aHe {C:EN} {ok:Nat→Prop} {H:List BO} {w:World} (m:Cb C ok H es w) (e:TypeId) (size:Nat):
 Cb C ok (H++[⟨.slice none 0 0,size⟩]) (es++[.arr e size []]) w∧R ok w (H++[⟨.slice none 0 0,size⟩]) (.aZ es.length) (.slice none 0 0):=by
 obtain⟨h,_⟩:=m.change (ok':=ok) (w':=w) (H':=H++[⟨.slice none 0 0,size⟩]) (es':=es++[.arr e size []]) (fun _=>False) rfl rfl rfl (Dk _) (fun _ _ _=>rfl) (fun _ h=>h.elim) (fun _ h=>h) (fun _ h=>.inl h) (Names.push _ _) (by simp[m.hlen]) (by
  intro k e' h' u j;rcases Vt u with q|⟨q,I⟩
  ·have z:k<H.length:=by rw[m.hlen];exact(Fb.1 q).1
   rw[Gj z]at j;exact .inl ⟨q,j,fun _ _ _ h=>h⟩
  subst I;have z:k=H.length:=by rw[m.hlen];exact q
  subst z;simp at j;subst j
  exact .inr ⟨⟨rfl,Ap,[],⟨Ap,.inl ⟨rfl,rfl⟩⟩,Tn,fun i hi=>aGV⟩,fun _ b J=>by simp[D8]at J⟩)
 exact⟨h,.aZ _ _ _ _ size aAB⟩
def D6 (e:TypeId) (size:Nat) (j:o.op=.assign (.const (.slice none 0 0))):BU P o [] es (.aZ es.length) (es++[.arr e size []]):=
 .eff fun C ok H a w m _=>by
  obtain⟨q,u⟩:=aHe m e size;exact⟨.slice none 0 0,w,ok,_,.inl aJD,.refl _ _,Names.push _ _,q,u⟩
def atd (j:o.op=.assign (.const (.slice none 0 0))):BU P o [] es (.d (.sl [])) es:=
 .pure fun _ _ a w _ _ _=>⟨.slice none 0 0,aJD,.d _ _ (.sl0 none 0)⟩
def akF (j:o.op=.move (.const (.slice none 0 0))):BU P o [] es (.d (.sl [])) es:=
 .pure fun _ _ a w _ _ _=>⟨.slice none 0 0,aJD,.d _ _ (.sl0 none 0)⟩
end
def aQ9 (off:Nat):∀(vs:List Value) (i:Nat) (cells:Array Value),off+i+vs.length≤cells.size→
 ((vs.zipIdx i).foldl (fun cs (p:Value×Nat)=>cs.setIfInBounds (off+p.2) p.1) cells).toList=setAt cells.toList (off+i) vs
 | [],i,cells,h=>by simp[setAt]
 |v::vs,i,cells,h=>by
  simp only[Fa]at h;rw[List.zipIdx_cons,Et];rw[aQ9 off vs (i+1) _ DU];simp only[aP1];have j:off+i<cells.toList.length:=DU
  unfold setAt;rw[aJK,CV j];have m:(cells.toList.take (off+i)).length=off+i:=DU
  have q:(List.take (off+i) cells.toList++v::List.drop (off+i+1) cells.toList).take (off+(i+1))=cells.toList.take (off+i)++[v]:=by
   rw[aGt,m,QN AA];have :off+(i+1)-(off+i)=1:=AA
   rw[this];simp
  have u:(List.take (off+i) cells.toList++v::List.drop (off+i+1) cells.toList).drop (off+(i+1)+vs.length)=cells.toList.drop (off+i+(vs.length+1)):=by
   rw[List.drop_append,m,aBm AA];have :off+(i+1)+vs.length-(off+i)=vs.length+1:=AA
   rw[this];simp[aPb];congr 1;omega
  rw[q,u];simp
def Nb :List (Nat×Operand)→List AY→List (Operand×AY)
 |(_,x)::j,v::vs=>(x,v)::Nb j vs
 |_,_=>[]
def Nl (place:Nat→Option (Nat×Nat)) (n:Nat):List (Nat×Operand)→List AY→Bool
 |(i,_)::j,v::vs=>(match place i with |some (off,s)=>decide (v.cells.length=s)&&decide (off+s≤n)&&v.cells.all AY.leaf|none=>false)&&Nl place n j vs
 | [],[]=>true
 |_,_=>false
def Jm (place:Nat→Option (Nat×Nat)):List AY→List (Nat×Operand)→List AY→List AY
 |cs,(i,_)::j,v::vs=>Jm place (setAt cs ((place i).getD (0,0)).1 v.cells) j vs
 |cs,_,_=>cs
def Fg.setAt {ok:Nat→Prop} {w:World} {H:List BO} {cs ys:List AY} {vs us:List Value} {off:Nat} (h:Fg ok w H cs vs) (k:Fg ok w H ys us) (j:off+ys.length≤cs.length):Fg ok w H (setAt cs off ys) (setAt vs off us):=by
 refine⟨by rw[RS (by rw[h.1,k.1];exact j),RS j,h.1],fun i hi=>?_⟩;rw[RS j]at hi;rw[XD j,XD (by rw[h.1,k.1];exact j),k.1];split
 ·exact k.2 _ AA
 exact h.2 i hi
def oJ {ok:Nat→Prop} {w:World} {H:List BO} {place:Nat→Option (Nat×Nat)} {a:Act}:∀(m:List (Nat×Operand)) (vs:List AY) (cs:List AY) (cells:Array Value),Fg ok w H cs cells.toList→Nl place cs.length m vs=true→
 (∀n∈Nb m vs,R ok w H n.2 (a.eval n.1))→∃j,Instr.fill place cells (m.map fun p=>(p.1,a.eval p.2))=some j∧Fg ok w H (Jm place cs m vs) j.toList
 | [],[],cs,cells,I,_,_=>⟨cells,rfl,I⟩
 | [],_::_,_,_,_,h,_=>by simp[Nl]at h
 |_::_,[],_,_,_,h,_=>by simp[Nl]at h
 |(i,x)::m,v::vs,cs,cells,I,h,M=>by
  simp only[Nl,CW]at h;obtain⟨q,Y⟩:=h;cases J:place i with
  |none=>rw[J]at q;cases q
  |some os=>
   obtain⟨off,s⟩:=os;rw[J]at q;simp only[CW,G8]at q;obtain⟨⟨h3,h4⟩,Z⟩:=q;have O:Fg ok w H v.cells (a.eval x).cells.toList:=(M (x,v) (by simp[Nb])).ajF Z;have hsz:(a.eval x).cells.size=s:=by have :=O.1;simp at this;omega
   have U:cells.size=cs.length:=by simpa using I.1
   have u:((a.eval x).cells.zipIdx.foldl (fun cs (p:Value×Nat)=>cs.setIfInBounds (off+p.2) p.1) cells).toList=setAt cells.toList off (a.eval x).cells.toList:=by
    rw[←Array.foldl_toList,Array.toList_zipIdx];exact aQ9 off (a.eval x).cells.toList 0 cells DU
   have z:=I.setAt O (off:=off) AA;rw[←u]at z;obtain⟨j,hc,hR⟩:=oJ m vs (setAt cs off v.cells) _ z (by rw[RS AA];exact Y) (fun n L=>M n (by simp[Nb,L]));refine⟨j,?_,?_⟩
   ·simp only[Ig,Instr.fill,J];rw[Cc DU];exact hc
   simp only[Jm,J,NP];exact hR
def Qn (z:Value) (n:Nat):List AY:=(List.range n).map fun k=>(FI z).getD (k % z.cells.size) .junk
def asf {ok:Nat→Prop} {w:World} {H:List BO} {z:Value} {n:Nat} (hl:z.cells.all (·.oneCell')=true) (q:0<z.cells.size):Fg ok w H (Qn z n) (((Array.range n).map (z.cells[· % z.cells.size]!)).toList):=by
 refine⟨by simp[Qn],fun i hi=>?_⟩;have j:i<n:=by simpa[Qn]using hi
 have m:i % z.cells.size<z.cells.size:=iT _ q;have u:(Qn z n).getD i .junk=.d (OX z.cells[i % z.cells.size]):=by simp[Qn,FI,List.getD,j,m]
 have I:(((Array.range n).map (z.cells[· % z.cells.size]!)).toList).getD i undef=z.cells[i % z.cells.size]:=by simp[List.getD,j,m]
 rw[u,I];exact⟨oG ((QW.1 hl) _ Ap),.d _ _ (gX _)⟩
def aIm {ok:Nat→Prop} {w:World} {H:List BO} {z:Value} (hl:z.cells.all (·.oneCell')=true):Fg ok w H (FI z) z.cells.toList:=by
 refine⟨by simp[FI],fun i hi=>?_⟩;simp only[FI,CM,TM]at hi;have j:(FI z).getD i .junk=.d (OX z.cells[i]):=by simp[FI,List.getD,hi]
 have m:z.cells.toList.getD i undef=z.cells[i]:=MG
 rw[j,m];exact⟨oG ((QW.1 hl) _ Ap),.d _ _ (gX _)⟩
def aID {P:Program} {w:World}:∀(l:List Field),(∀f∈l,(P.info? f.type).isSome=true)→
 (l.mapM fun f=>(do pure (f.offset,←sizeOf f.type):Sem (Nat×Nat))).run P w=.ok (l.map fun f=>(f.offset,P.cellsOf f.type)) w
 | [],_=>rfl
 |f::l,h=>by
  obtain⟨i,hi⟩:=TY.1 (h f Ap);have j:=aID (P:=P) (w:=w) l (fun g m=>h g (by simp[m]));have hs:(sizeOf f.type).run P w=.ok i.size w:=by simp[sizeOf,typeInfo,hi]
  have q:P.cellsOf f.type=i.size:=by simp[Program.cellsOf,hi]
  simp only[List.mapM_cons,FD,hs,FU,GK,j,Ig,q]
structure J8 (P:Program) (t:TypeId) (places:List (Nat×Nat)) (z:Value):Prop where
 fields:∃fs,P.underlying t=some (.struct fs)∧(∀f∈fs.toList,(P.info? f.type).isSome=true)∧(fs.toList.map fun f=>(f.offset,P.cellsOf f.type))=places
 zero:(P.info? t).bind (·.zero)=some z
 one:z.cells.all (·.oneCell')=true
def aS2 (P:Program) (t:TypeId) (j:List (Nat×Nat)):Bool:=
 match P.underlying t with
 |some (.struct m)=>m.toList.all (fun f=>(P.info? f.type).isSome)&&decide ((m.toList.map fun f=>(f.offset,P.cellsOf f.type))=j)
 |_=>false
def LY {P:Program} {t:TypeId} {j:List (Nat×Nat)} {z:Value} (h:aS2 P t j=true) (m:(P.info? t).bind (·.zero)=some z) (q:z.cells.all (·.oneCell')=true):J8 P t j z:=by
 unfold aS2 at h;split at h
 ·rename_i u I;simp only[CW,DT,G8]at h;exact⟨⟨u,I,h.1,h.2⟩,m,q⟩
 cases h
section
variable {P : Program} {o : Oper} {es : List Ar}
def zV {t:TypeId} {z:Value} (m:(P.info? t).bind (·.zero)=some z) (w:World):(zeroValue t).run P w=.ok z w:=by
 obtain⟨i,hi,j⟩:=jE.1 m;simp[zeroValue,typeInfo,hi,j]
def abg {l:List AY} (h:l.all AY.Az=true):l=(Iw l).map .d:=by
 rw[DT]at h;unfold Iw;rw[aI]
 conv=>lhs;rw[←List.map_id l]
 refine WM fun x j=>?_;have :=h x j;cases x<;>first|rfl|(simp[AY.Az]at this)
def aps {t:TypeId} {m:Array (Nat×Operand)} {j:List (Nat×Nat)} {z:Value} (Z:J8 P t j z) (vs:List AY) (hp:Nl (fun(i:Nat)=>j[i]?) (FI z).length m.toList vs=true) (ho:o.op=.build t m):
 BU P o (Nb m.toList vs) es (.ag (Jm (fun(i:Nat)=>j[i]?) (FI z) m.toList vs)) es:=
 .pure fun ok H a w _ _ hn=>by
  obtain⟨⟨U,hu,hf,I⟩,hz,h1⟩:=Z;have J:=zV (P:=P) hz w;have L:(underlying t).run P w=.ok (.struct U) w:=aBO
  have hm:(U.mapM fun f=>(do pure (f.offset,←sizeOf f.type):Sem (Nat×Nat))).run P w=.ok j.toArray w:=by
   rw[aOD];rw[sF,aID _ hf,I];rfl
  obtain⟨q,hc,u⟩:=oJ (place:=fun(i:Nat)=>j[i]?) m.toList vs (FI z) z.cells (aIm (ok:=ok) (w:=w) (H:=H) h1) hp hn;refine⟨.agg q,?_,.ag _ _ (by simpa using u.1) (fun i hi=>(u.2 i hi).1) (fun i hi=>?_)⟩
  rotate_left
  ·have Y:=(u.2 i hi).2;have M:i<q.size:=by have :=u.1;simp at this;omega
   have O:q.toList.getD i undef=q.getD i undef:=by simp[List.getD,Array.getD,M]
   rw[O]at Y;exact Y
  have e:(m.map fun(i,x)=>(i,a.eval x)).toList=m.toList.map fun p=>(p.1,a.eval p.2):=Ap
  have O:(fun(i:Nat)=>j.toArray[i]?)=(fun(i:Nat)=>j[i]?):=by funext i;simp
  simp only[execOp,ho,Instr.build,FD,J,L,hm,FU];rw[e,O,hc];rfl
def asH {t:TypeId} {m:Array (Nat×Operand)} {j:List (Nat×Nat)} {z:Value} (hS:J8 P t j z) (vs:List AY) (hp:Nl (fun(i:Nat)=>j[i]?) (FI z).length m.toList vs=true)
 (hd:(Jm (fun(i:Nat)=>j[i]?) (FI z) m.toList vs).all AY.Az=true) (ho:o.op=.build t m):
 BU P o (Nb m.toList vs) es (.d (.agg (Iw (Jm (fun(i:Nat)=>j[i]?) (FI z) m.toList vs)))) es:=
 .pure fun ok H a w _ _ hn=>by
  obtain⟨⟨Z,hu,hf,u⟩,hz,h1⟩:=hS;have I:=zV (P:=P) hz w;have J:(underlying t).run P w=.ok (.struct Z) w:=aBO
  have hm:(Z.mapM fun f=>(do pure (f.offset,←sizeOf f.type):Sem (Nat×Nat))).run P w=.ok j.toArray w:=by
   rw[aOD];rw[sF,aID _ hf,u];rfl
  obtain⟨q,hc,L⟩:=oJ (place:=fun(i:Nat)=>j[i]?) m.toList vs (FI z) z.cells (aIm (ok:=ok) (w:=w) (H:=H) h1) hp hn;refine⟨.agg q,?_,.d _ _ ?_⟩
  ·have e:(m.map fun(i,x)=>(i,a.eval x)).toList=m.toList.map fun p=>(p.1,a.eval p.2):=Ap
   have e2:(fun(i:Nat)=>j.toArray[i]?)=(fun(i:Nat)=>j[i]?):=by funext i;simp
   simp only[execOp,ho,Instr.build,FD,I,J,hm,FU];rw[e,e2,hc];rfl
  rw[abg hd]at L;generalize Iw (Jm (fun(i:Nat)=>j[i]?) (FI z) m.toList vs)=xs at L ⊢;obtain⟨h2,M⟩:=L;simp only[CM]at h2 M
  have hg:∀i,i<xs.length→(xs.map AY.d).getD i .junk=.d (xs.getD i DK):=by
   intro i hi;simp[List.getD,hi]
  have O:q.size=xs.length:=rY
  refine .agg xs q O ?_ ?_<;>intro i hi
  ·have :=(M i hi).1;rw[hg i hi]at this;exact this
  have U:=(M i hi).2;rw[hg i hi]at U;have Y:i<q.size:=AA
  have e:q.toList.getD i undef=q.getD i undef:=by simp[List.getD,Array.getD,Y]
  rw[e]at U;cases U with |d _ _ h=>exact h
def aiW {ok:Nat→Prop} {w:World} {H:List BO} {ys:List D} {size b:Nat} {cells:Array Value} {e:TypeId} {fr:Nat×Nat} (q:∀y∈ys,y.cells.length=size) (M:w.heap[b]? =some (.cells cells e fr)) (u:ok b) (z:Fg ok w H (flat ys) cells.toList):
 DV ok w (.sl ys) (.slice (some ⟨b,0,none⟩) ys.length ys.length):=by
 have hl:=Ro q;have I:cells.size=ys.length*size:=by have :=z.1;simp at this;omega
 have O:∀i,i<ys.length→ys.getD i DK∈ys:=fun i hi=>MG
 have J:∀i j,i<ys.length→j<size→i*size+j<ys.length*size:=by
  intro i j hi m
  calc i*size+j<i*size+size:=AA
   _=(i+1)*size:=by rw[UK]
   _≤ys.length*size:=Js _ hi
 have L:∀i j,i<ys.length→j<size→w.cell? ⟨b,0+(i*size+j),none⟩=some (cells.toList.getD (i*size+j) undef):=by
  intro i j hi m;have :=J i j hi m;rw[JI];simp[World.cell?,M,I,this,List.getD]
 refine .sl ys b 0 ys.length size (Dk _) (fun _ _=>u) (fun i hi=>q _ (O i hi)) (fun i hi j m=>?_) (fun i hi j m=>?_) (fun i hi j m=>?_)
 ·have :=(z.2 (i*size+j) (by rw[hl];exact J i j hi m)).1;rw[flat_get q i j hi m]at this;exact this
 ·rw[L i j hi m];rfl
 have :=(z.2 (i*size+j) (by rw[hl];exact J i j hi m)).2;rw[flat_get q i j hi m]at this;unfold cellAt;rw[L i j hi m];cases this with |d _ _ h=>exact h
def aT8 {t e:TypeId} {size q len:Nat} {z:Value} (hE:GN P t e size q) (hz:(P.info? e).bind (·.zero)=some z) (h1:z.cells.all (·.oneCell')=true) (U:z.cells.size=size) (hlen:len*size≤16777216) {j:Array (Nat×Operand)} {vs:List AY}
 (hp:Nl (fun i=>some (i*size,size)) (len*size) j.toList vs=true) {ok:Nat→Prop} {w:World} {H:List BO} {a:Act} (hn:∀n∈Nb j.toList vs,R ok w H n.2 (a.eval n.1)):
 ∃cells,(Instr.buildSlice t len (j.map fun(i,x)=>(i,a.eval x))).run P w=.ok (.slice (some ⟨w.heap.size,0,none⟩) len len) (w.alloc (.cells cells e))∧Fg ok w H (Jm (fun i=>some (i*size,size)) (Qn z (len*size)) j.toList vs) cells.toList:=by
 obtain⟨i,z',hi,_,hs,_,_⟩:=hE.info;have Y:=zV (P:=P) hz w;have u:(sizeOf e).run P w=.ok size w:=aMx
 have I:(underlying t).run P w=.ok (.slice e) w:=aJa
 have e0:(j.map fun(i,x)=>(i,a.eval x)).toList=j.toList.map fun p=>(p.1,a.eval p.2):=Ap
 have Z:(Qn z (len*size)).length=len*size:=by simp[Qn]
 have J:0<z.cells.size:=by rw[U];exact hE.pos
 obtain⟨m,hc,hR⟩:=oJ (place:=fun i=>some (i*size,size)) j.toList vs (Qn z (len*size)) _ (asf (ok:=ok) (w:=w) (H:=H) (n:=len*size) h1 J) (by rw[Z];exact hp) hn;refine⟨m,?_,hR⟩;have L:¬(len*size>2^24):=AA
 by_cases M:len*size=0
 ·have hr0:(Array.range (len*size)).map (fun k=>(z.cells[k % z.cells.size]! :Value))= #[]:=by rw[M];simp
  rw[hr0]at hc;have O:(Array.range (len*size)).map (fun k=>((#[]:Array Value)[k % (#[]:Array Value).size]! :Value))= #[]:=by rw[M];simp
  simp only[Instr.buildSlice,FD,I,FU,u,L,JE,Sem.run_ite,M,JZ,GK];simp only[M]at O;rw[O,e0,hc];rfl
 simp only[Instr.buildSlice,FD,I,FU,u,L,JE,Sem.run_ite,M,Y,GK];rw[e0,hc];rfl
def ajh {t e:TypeId} {size m len:Nat} {z:Value} (hE:GN P t e size m) (M:(P.info? e).bind (·.zero)=some z) (O:z.cells.all (·.oneCell')=true) (I:z.cells.size=size) (hlen:len*size≤16777216) {j:Array (Nat×Operand)} (vs:List AY) (ys:List D)
 (U:Nl (fun i=>some (i*size,size)) (len*size) j.toList vs=true) (J:Jm (fun i=>some (i*size,size)) (Qn z (len*size)) j.toList vs=flat ys) (hl:ys.length=len) (q:ys.all (fun y=>decide (y.cells.length=size))=true) (Y:o.op=.buildSlice t len j):
 BU P o (Nb j.toList vs) es (.d (.sl ys)) es:=
 .eff fun C ok H a w Z hn=>by
  obtain⟨cells,hr,u⟩:=aT8 hE M O I hlen U hn;rw[J]at u;obtain⟨h2,L⟩:=Z.fresh (.cells cells e);refine⟨.slice (some ⟨w.heap.size,0,none⟩) len len,_,_,H,.inl ?_,L,.refl _,h2,.d _ _ ?_⟩
  ·simp only[execOp,Y,FD,hr,FU,GK]
  rw[←hl];exact aiW (H:=H) (fun y J=>by rw[DT]at q;simpa using q y J) (dA w _) (.inr rfl) (u.mono L (.refl _))
def aSv {t e:TypeId} {size m len:Nat} {z:Value} (hE:GN P t e size m) (hz:(P.info? e).bind (·.zero)=some z) (h1:z.cells.all (·.oneCell')=true) (O:z.cells.size=size) (hlen:len*size≤16777216) {j:Array (Nat×Operand)} (vs:List AY) (ys:List D)
 (hp:Nl (fun i=>some (i*size,size)) (len*size) j.toList vs=true) (U:Jm (fun i=>some (i*size,size)) (Qn z (len*size)) j.toList vs=flat ys) (hl:ys.length=len) (u:ys.all (fun y=>decide (y.cells.length=size))=true) (ho:o.op=.buildSlice t len j):
 BU P o (Nb j.toList vs) es (.aZ es.length) (es++[.arr e size ys]):=
 .eff fun C ok H a w Y hn=>by
  obtain⟨cells,hr,q⟩:=aT8 hE hz h1 O hlen hp hn;rw[U]at q;have I:∀y∈ys,y.cells.length=size:=fun y U=>by rw[DT]at u;simpa using u y U
  have hfl:=Ro I;have J:cells.size=ys.length*size:=by have :=q.1;simp at this;omega
  have L:=hE.pos
  have Z:ys.length≤16777216:=by
   have :ys.length*1≤ys.length*size:=Nat.mul_le_mul_left _ L;rw[hl]at this ⊢;omega
  obtain⟨h2,h3⟩:=Y.push (.cells cells e) ⟨.slice (some ⟨w.heap.size,0,none⟩) len len,size⟩ (.arr e size ys) (fun b M=>by simpa[D8]using M.symm) (by
   refine⟨rfl,I,cells.toList,⟨Uu,.inr ⟨w.heap.size,len,cells,by rw[hl],EZ _,dA w _,AA,aEY,aT (by rw[J,hl]),?_⟩⟩,?_⟩
   ·rw[QN DU]
   exact q.mono (fun b M=>⟨M,Jk _ _ _ (Y.kL b M)⟩) (Names.push _ _))
  refine⟨.slice (some ⟨w.heap.size,0,none⟩) len len,_,ok,_,.inl ?_,h3,Names.push _ _,h2,.aZ _ _ _ _ size (by rw[←Y.hlen];simp)⟩;simp only[execOp,ho,FD,hr,FU,GK]
end
section
variable {P : Program} {ops : Array Oper} {Q : Exit → Act → World → Prop} {φ : Nat → Value → World → Prop} {W : World} {a0 : Act} {i : Nat}
variable {d : Option Tmp} {t : TypeId} {p : String} {af : Array Edge} {g : Option (Nat × Bool)}
def Enters (P:Program) (f:FuncId):Prop:=∀args w,(callFunc f args).run P w=.ok (.enter f args) w
def enters_of {f:FuncId} {fn:Func} {c:Code} (m:P.funcs[f]? =some fn) (j:(fn.name== "runtime.NumGoroutine")=false) (q:fn.body=some c):Enters P f:=by
 intro args w;have u:fn.name≠ "runtime.NumGoroutine" :=O7
 simp[callFunc,m,u,q]
def Dl (P:Program) (f:FuncId):Bool:=match P.funcs[f]? with
 |some fn=> !(fn.name== "runtime.NumGoroutine")&&fn.body.isSome
 |none=>false
def TL {f:FuncId} (h:Dl P f=true):Enters P f:=by
 unfold Dl at h;cases j:P.funcs[f]? with
 |none=>rw[j]at h;cases h
 |some fn=>
  rw[j]at h;simp only[CW,Sl]at h;obtain⟨c,m⟩:=TY.1 h.2;exact enters_of j h.1 m
def yI {o:Oper} {a:Act} {f:FuncId} {ats:Array TypeId} {aF8:Array Operand} (j:o.op=.call { callee:=.value (.func f),args:=aF8,argTypes:=ats }):execOp a.eval o=callFunc f (aF8.map a.eval):=by
 have m:a.eval (.func f)=.func (.func f) #[] #[]:=rfl;unfold execOp;simp[j,resolve,Deferred.ofValue,invoke,m]
end
inductive DW where
 |ent (k:Nat)
 |nil (size:Nat)
def DW.hd (H:List BO):DW→BO
 | .ent k=>H.getD k ⟨undef,0⟩
 | .nil s=>⟨.slice none 0 0,s⟩
def AY.Vo (srcs:List DW) (n:Nat):AY→AY
 | .d x=>.d x
 | .ptr k off=>match srcs[k]? with |some (.ent j)=>.ptr j off|some (.nil _)=>.junk|none=>.ptr (n+(k-srcs.length)) off
 | .aZ k=>match srcs[k]? with |some (.ent j)=>.aZ j|some (.nil _)=>.junk|none=>.aZ (n+(k-srcs.length))
 | .lX k i off=>match srcs[k]? with |some (.ent j)=>.lX j i off|some (.nil _)=>.junk|none=>.lX (n+(k-srcs.length)) i off
 | .mp k=>match srcs[k]? with |some (.ent j)=>.mp j|some (.nil _)=>.junk|none=>.mp (n+(k-srcs.length))
 | .xC k=>match srcs[k]? with |some (.ent j)=>.xC j|some (.nil _)=>.junk|none=>.xC (n+(k-srcs.length))
 | .clip xs=>.clip xs
 |_=>.junk
def AY.up (srcs:List DW) (n:Nat):AY→AY
 | .fB xs=>.fB (xs.map (AY.Vo srcs n))
 | .fn f fi ca=>.fn f (fi.map (AY.Vo srcs n)) (ca.map (AY.Vo srcs n))
 |x=>x.Vo srcs n
def aO3 (srcs:List DW):AY→AY→Prop
 | .d x,y=>y=.d x
 | .ptr k off,y=>∃i,y=.ptr i off∧srcs[i]? =some (.ent k)
 | .mp k,y=>∃i,y=.mp i∧srcs[i]? =some (.ent k)
 |_,_=>False
def nM (srcs:List DW):List AY→List AY→Prop
 |x::xs,y::ys=>aO3 srcs x y∧nM srcs xs ys
 | [],[]=>True
 |_,_=>False
def oQ {srcs:List DW}:∀{xs ys:List AY},nM srcs xs ys→xs.length=ys.length
 | [],[],_=>rfl
 |_::xs,_::ys,h=>by simp[oQ h.2]
 | [],_::_,h=>h.elim
 |_::_,[],h=>h.elim
def aML {srcs:List DW}:∀{xs ys:List AY},nM srcs xs ys→∀i,i<ys.length→aO3 srcs (xs.getD i .junk) (ys.getD i .junk)
 | [],[],_,i,hi=>OE
 |_::xs,_::ys,h,0,_=>by simpa using h.1
 |_::xs,_::ys,h,i+1,hi=>by simpa using aML h.2 i Fp
 | [],_::_,h,_,_=>h.elim
 |_::_,[],h,_,_=>h.elim
def aQK (srcs:List DW):AY→AY→Prop
 | .fn f fi ca,y=>∃j m,y=.fn f j m∧nM srcs fi j∧nM srcs ca m
 | .d x,y=>y=.d x∨(∃i s,x=.lit (.slice none 0 0)∧y=.aZ i∧srcs[i]? =some (.nil s))∨(x=.lit (.slice none 0 0)∧y=.d (.sl []))
 | .aZ k,y=>∃i,y=.aZ i∧srcs[i]? =some (.ent k)
 | .ptr k off,y=>∃i,y=.ptr i off∧srcs[i]? =some (.ent k)
 | .mp k,y=>∃i,y=.mp i∧srcs[i]? =some (.ent k)
 |_,_=>False
def Ar.closed:Ar→Bool
 | .box cs=>cs.all AY.Az
 | .loop .. =>false
 |_=>true
def Em.any {ok:Nat→Prop} {w:World} {H H2:List BO} {h:BO} {e:Ar} (m:Em ok w H h e) (z:e.closed=true):Em ok w H2 h e:=by
 cases e with
 |dead=>trivial
 |box cs=>
  obtain⟨b,vs,T,I,J,L,u⟩:=m;refine⟨b,vs,T,I,J,L,fun i hi=>⟨(u i hi).1,?_⟩⟩;have q:=(u i hi).2;simp only[Ar.closed,DT]at z;have j:=z (cs.getD i .junk) MG;cases O:cs.getD i .junk with
  |d x=>rw[O]at q;cases q with |d _ _ h=>exact .d _ _ h
  |_=>rw[O]at j;simp[AY.Az]at j
 |arr e s es=>
  obtain⟨I,J,xs,L,u,q⟩:=m;refine⟨I,J,xs,L,u,fun i hi=>⟨(q i hi).1,?_⟩⟩;have j:=(q i hi).2;have M:(flat es).getD i .junk∈flat es:=MG
  unfold flat at M ⊢;simp only[TW,Ee]at M;obtain⟨x,_,y,_,U⟩:=M;unfold flat at j;rw[←U]at j ⊢;cases j with |d _ _ h=>exact .d _ _ h
 |map es=>exact m
 |eY es=>exact m
 |iter es vis=>exact m
 |loop=>cases z
def Ar.up (srcs:List DW) (n:Nat):Ar→Ar
 | .box cs=>.box (cs.map (AY.Vo srcs n))
 |e=>e
def AY.arf (srcs:List DW):AY→Bool
 | .d _=>true
 | .mp k=>match srcs[k]? with |some (.ent _)=>true|_=>false
 | .ptr k _=>match srcs[k]? with |some (.ent _)=>true|_=>false
 |_=>false
def Ar.amP (srcs:List DW):Ar→Bool
 | .box cs=>cs.all (AY.arf srcs)
 | .loop .. =>false
 |_=>true
def Ar.aor (srcs:List DW) (n:Nat):Ar→Bool
 | .box cs=>cs.all fun x=>x.Az||(x.Vo srcs n).leaf
 | .loop .. =>false
 |_=>true
def Ar.adH (srcs:List DW) (n:Nat) (e:Ar):(e.up srcs n).live=e.live:=by cases e<;>rfl
def abo {srcs:List DW} {n:Nat} {x:AY} (h:x.Az=true):x.Vo srcs n=x:=by cases x<;>first|rfl|cases h
def Ar.ax5 {srcs:List DW} {n:Nat} {e:Ar} (h:e.closed=true):e.up srcs n=e:=by
 cases e with
 |box cs=>
  simp only[Ar.closed,DT]at h;show Ar.box (cs.map (AY.Vo srcs n))=Ar.box cs
  rw[show cs.map (AY.Vo srcs n)=cs from by
   conv=>rhs;rw[←List.map_id cs]
   exact WM fun x j=>abo (h x j)]
 |_=>rfl
def adR {srcs:List DW} {n:Nat}:∀{E:List Ar},E.all Ar.closed=true→E.map (Ar.up srcs n)=E
 | [],_=>rfl
 |e::E,h=>by
  simp only[oC,CW]at h;rw[Ig,Ar.ax5 h.1,adR h.2]
def afe {srcs:List DW} {n:Nat} {e:Ar} (h:e.closed=true):e.aor srcs n=true:=by
 cases e with
 |box cs=>
  simp only[Ar.closed,Ar.aor,DT]at h ⊢;intro x j;rw[h x j];rfl
 |loop=>cases h
 |_=>rfl
def Em.down {ok:Nat→Prop} {w:World} {H Hc:List BO} {h:BO} {srcs:List DW} {n:Nat} {e:Ar} (J:∀(j:Nat) (s:DW),srcs[j]? =some s→Hc[j]? =some (DW.hd H s)) (hd:e.amP srcs=true) (u:Em ok w H h (e.up srcs n)):Em ok w Hc h e:=by
 cases e with
 |dead=>trivial
 |arr=>exact u.any rfl
 |map=>exact u
 |eY=>exact u
 |iter=>exact u
 |loop=>cases hd
 |box cs=>
  obtain⟨b,vs,T,L,M,O,U⟩:=u;refine⟨b,vs,T,L,M,by rw[O,CM],fun i hi=>?_⟩;obtain⟨z,q⟩:=U i aNJ;rw[Uy _ _ _ hi]at q z;simp only[Ar.amP,DT]at hd;have m:=hd (cs.getD i .junk) MG;generalize cs.getD i .junk=x at q m z ⊢;generalize vs.toList.getD i undef=v at q ⊢;cases x with
  |d x=>exact⟨z,by cases q with |d _ _ h=>exact .d _ _ h⟩
  |mp k=>
   refine⟨rfl,?_⟩;simp only[AY.arf]at m;simp only[AY.Vo]at q;cases hs:srcs[k]? with
   |none=>rw[hs]at m;cases m
   |some s=>
    cases s with
    |nil _=>rw[hs]at m;cases m
    |ent j=>
     rw[hs]at q;cases q with
     |mp _ _ s hl I=>
      refine .mp k _ s hl ?_;rw[J k _ hs];simp[DW.hd,List.getD,I]
  |ptr k off=>
   refine⟨rfl,?_⟩;simp only[AY.arf]at m;simp only[AY.Vo]at q;cases hs:srcs[k]? with
   |none=>rw[hs]at m;cases m
   |some s=>
    cases s with
    |nil _=>rw[hs]at m;cases m
    |ent j=>
     rw[hs]at q;cases q with
     |ptr _ _ b s I=>
      refine .ptr k off b s ?_;rw[J k _ hs];simp[DW.hd,List.getD,I]
  |_=>simp[AY.arf]at m
def LW (srcs:List DW) (es E':List Ar):List Ar:=
 (es.zipIdx.map fun(e,j)=>match srcs.findIdx? (fun s=>match s with | .ent k=>k==j| .nil _=>false)with |some i=>(E'.getD i .dead).up srcs es.length|none=>e)++(E'.drop srcs.length).map (Ar.up srcs es.length)
def RY (srcs:List DW) (es E E':List Ar):Bool:=
 decide (srcs.length=E.length)&&decide (srcs.length≤E'.length)&&E.all (Ar.amP srcs)&&E'.all (Ar.aor srcs es.length)&&
 decide ((srcs.filterMap fun s=>match s with | .ent k=>some k| .nil _=>none).Nodup)&&
 ((srcs.zip E').all fun p=>match p.1 with | .ent _=>true| .nil _=> !p.2.live)&&(srcs.all fun s=>match s with | .ent k=>decide (k<es.length)&&(es.getD k .dead).live| .nil _=>true)
def sH (srcs:List DW) (es:List Ar):List Ar→Prop
 |E=>∀(i:Nat) (s:DW),srcs[i]? =some s→match s with | .ent k=>(E[i]?).map (Ar.up srcs es.length)=es[k]? | .nil sz=>∃e,E[i]? =some (.arr e sz [])
def VJ {ok:Nat→Prop} {w:World} {H Hc H':List BO} {srcs:List DW} {x:AY} {v:Value} (M:Hc=srcs.map (DW.hd H)) (z:∀(i k:Nat),srcs[i]? =some (.ent k)→k<H.length) (O:Names Hc H') (h:R ok w H' x v):R ok w (H++H'.drop srcs.length) (x.Vo srcs H.length) v:=by
 have key:∀(k:Nat) (hd:BO),H'[k]? =some hd→(∀(j:Nat),srcs[k]? =some (.ent j)→(H++H'.drop srcs.length)[j]? =some hd)∧(srcs[k]? =none→(H++H'.drop srcs.length)[H.length+(k-srcs.length)]? =some hd):=by
  intro k hd J;refine⟨fun j L=>?_,fun I=>?_⟩
  ·have u:=z k j L;have q:Hc[k]? =some (H.getD j ⟨undef,0⟩):=by rw[M,JC,L];rfl
   have m:=O _ _ q;rw[J]at m;rw[Gj u];simp[List.getD,u]at m;simp[u,m]
  have U:srcs.length≤k:=Qq
  rw[Jd AA,Pq];have :srcs.length+(H.length+(k-srcs.length)-H.length)=k:=AA
  rw[this,J]
 cases h with
 |d x v h=>exact .d x v h
 |ptr k off b s h=>
  obtain⟨q,m⟩:=key k _ h;simp only[AY.Vo];split<;>rename_i hs
  ·exact .ptr _ off b s (q _ hs)
  ·exact .junk _
  exact .ptr _ off b s (m hs)
 |aZ k ad n cap s h=>
  obtain⟨q,m⟩:=key k _ h;simp only[AY.Vo];split<;>rename_i hs
  ·exact .aZ _ ad n cap s (q _ hs)
  ·exact .junk _
  exact .aZ _ ad n cap s (m hs)
 |lX k i off b n cap s h=>
  obtain⟨q,m⟩:=key k _ h;simp only[AY.Vo];split<;>rename_i hs
  ·exact .lX _ i off b n cap s (q _ hs)
  ·exact .junk _
  exact .lX _ i off b n cap s (m hs)
 |mp k v s hl h=>
  obtain⟨q,m⟩:=key k _ h;simp only[AY.Vo];split<;>rename_i hs
  ·exact .mp _ v s hl (q _ hs)
  ·exact .junk _
  exact .mp _ v s hl (m hs)
 |clip xs ad h=>exact .clip xs ad h
 |xC k ad n cap s h=>
  obtain⟨q,m⟩:=key k _ h;simp only[AY.Vo];split<;>rename_i hs
  ·exact .xC _ ad n cap s (q _ hs)
  ·exact .junk _
  exact .xC _ ad n cap s (m hs)
 |fn f first cap vs us hl Y h h'=>exact .junk _
 |fB xs vs hl h=>exact .junk _
 |ag xs vs hl Z h=>exact .junk _
 |junk v=>exact .junk _
def acV {ok:Nat→Prop} {w:World} {H Hc H':List BO} {srcs:List DW} {x:AY} {v:Value} (m:Hc=srcs.map (DW.hd H)) (j:∀(i k:Nat),srcs[i]? =some (.ent k)→k<H.length) (q:Names Hc H') (h:R ok w H' x v):R ok w (H++H'.drop srcs.length) (x.up srcs H.length) v:=by
 cases h with
 |fB xs vs hl h=>exact .fB _ vs cV (fun i hi=>ad4)
 |ag xs vs hl z h=>exact .junk _
 |d x v h=>exact VJ m j q (.d x v h)
 |ptr k off b s h=>exact VJ m j q (.ptr k off b s h)
 |aZ k ad n cap s h=>exact VJ m j q (.aZ k ad n cap s h)
 |lX k i off b n cap s h=>exact VJ m j q (.lX k i off b n cap s h)
 |mp k v s hl h=>exact VJ m j q (.mp k v s hl h)
 |clip xs ad h=>exact VJ m j q (.clip xs ad h)
 |xC k ad n cap s h=>exact VJ m j q (.xC k ad n cap s h)
 |fn f first cap vs us hl u h h'=>exact .fn f _ _ vs us cV (by simp[u]) (fun i hi=>ad4) (fun i hi=>by rw[CM]at hi;rw[Uy _ _ _ hi];exact VJ m j q (h' i hi))
 |junk v=>exact .junk _
def Em.upw {ok:Nat→Prop} {w:World} {H Hc H':List BO} {h:BO} {srcs:List DW} {n:Nat} {e:Ar} (z:Hc=srcs.map (DW.hd H)) (q:∀(i k:Nat),srcs[i]? =some (.ent k)→k<H.length) (I:Names Hc H') (hl:H.length=n) (u:e.aor srcs n=true) (j:Em ok w H' h e):
 Em ok w (H++H'.drop srcs.length) h (e.up srcs n):=by
 cases e with
 |dead=>trivial
 |arr=>exact j.any rfl
 |map=>exact j
 |eY=>exact j
 |iter=>exact j
 |loop=>cases u
 |box cs=>
  obtain⟨b,vs,T,J,L,M,O⟩:=j;refine⟨b,vs,T,J,L,by rw[M,CM],fun i hi=>?_⟩;rw[CM]at hi;obtain⟨U,Y⟩:=O i hi;simp only[Ar.aor,DT]at u;have m:=u (cs.getD i .junk) MG;rw[Uy _ _ _ hi];refine⟨?_,by have :=VJ z q I Y;rwa [hl]at this⟩;rcases Bool.or_eq_true_iff.1 m with m|m
  ·rw[abo m];exact U
  exact m
def F9 :List Operand→List AY→List (Operand×AY)
 |x::xs,v::vs=>(x,v)::F9 xs vs
 |_,_=>[]
def Mc (srcs:List DW):List AY→List AY→Prop
 |x::xs,y::ys=>aQK srcs x y∧Mc srcs xs ys
 | [],[]=>True
 |_,_=>False
def aRi {srcs:List DW}:∀{xs ys:List AY},Mc srcs xs ys→xs.length=ys.length
 | [],[],_=>rfl
 |_::xs,_::ys,h=>by simp[aRi h.2]
 | [],_::_,h=>h.elim
 |_::_,[],h=>h.elim
def aq6 {srcs:List DW} {ops:List Operand}:∀{xs ys:List AY},ops.length=xs.length→Mc srcs xs ys→∀i,i<ys.length→∃o x,ops[i]? =some o∧(o,x)∈F9 ops xs∧aQK srcs x (ys.getD i .junk):=by
 induction ops with
 |nil=>
  intro xs ys hl h i hi;cases xs with
  |nil=>cases ys with |nil=>simp at hi|cons _ _=>exact h.elim
  |cons _ _=>simp at hl
 |cons o ops j=>
  intro xs ys hl h i hi;cases xs with
  |nil=>simp at hl
  |cons x xs=>
   cases ys with
   |nil=>exact h.elim
   |cons y ys=>
    cases i with
    |zero=>exact⟨o,x,rfl,by simp[F9],h.1⟩
    |succ i=>
     obtain⟨m,q,u,z,I⟩:=j MH h.2 i Fp;exact⟨m,q,MR,by simp[F9,z],Qq⟩
def ar4 {srcs:List DW} {H:List BO} {b:Nat}:b∈(srcs.filterMap fun s=>match s with | .ent k=>D8 (H.getD k ⟨undef,0⟩).v| .nil _=>none)↔∃k,.ent k∈srcs∧D8 (H.getD k ⟨undef,0⟩).v=some b:=by
 rw[U5];constructor
 ·rintro⟨s,hs,h⟩;cases s with
  |ent k=>exact⟨k,hs,h⟩
  |nil _=>cases h
 rintro⟨k,hs,h⟩;exact⟨_,hs,h⟩
section
variable {P : Program} {o : Oper} {es : List Ar}
def aSo :∀{srcs:List DW},(srcs.filterMap fun s=>match s with | .ent k=>some k| .nil _=>none).Nodup→∀(i j k:Nat),srcs[i]? =some (.ent k)→srcs[j]? =some (.ent k)→i=j
 | [],_,i,j,k,h,_=>I8
 |s::srcs,q,i,j,k,hi,u=>by
  have m:∀(n:Nat),srcs[n]? =some (.ent k)→k∈srcs.filterMap fun s=>match s with | .ent k=>some k| .nil _=>none:=fun n h=>by
   rw[U5];exact⟨_,WL h,rfl⟩
  have z:(srcs.filterMap fun s=>match s with | .ent k=>some k| .nil _=>none).Nodup:=by
   cases s with
   |ent k'=>simp only[OV]at q;exact(Jy.1 q).2
   |nil _=>simpa only[OV]using q
  match i,j with
  |0,0=>rfl
  |0,j+1=>
   simp at hi u;subst hi;simp only[OV]at q;exact absurd (m j u) (Jy.1 q).1
  |i+1,0=>
   simp at hi u;subst u;simp only[OV]at q;exact absurd (m i hi) (Jy.1 q).1
  |i+1,j+1=>rw[aSo z i j k Fp MR]
def aSN {f:FuncId} {C:EN} {ok:Nat→Prop} {H:List BO} {w:World} (Y:Cb C ok H es w) (srcs:List DW) {eH gK:List AY} {E E':List Ar} {res:AY} (hr:Am P f gK E res E')
 (hb:RY srcs es E E'=true) (hE:sH srcs es E) (ha:Mc srcs eH gK) {ops:List Operand} (hl:ops.length=eH.length) {a:Act} (hn:∀n∈F9 ops eH,R ok w H n.2 (a.eval n.1)):
 Calls P f (ops.map a.eval).toArray w fun e w'=>∃v ok' H',e=.returned v∧ES ok w ok' w'∧Names H H'∧Cb C ok' H' (LW srcs es E') w'∧R ok' w' H' (res.up srcs es.length) v:=by
 unfold RY at hb;simp only[CW,G8,DT]at hb;obtain⟨⟨⟨⟨⟨⟨hb1,hb2⟩,hb3⟩,hb4⟩,hb5⟩,hb6⟩,hb7⟩:=hb;have hidx:=aSo hb5
 let Hc:=srcs.map (DW.hd H)
 let X:=srcs.filterMap fun s=>match s with | .ent k=>D8 (H.getD k ⟨undef,0⟩).v| .nil _=>none
 have hX:∀b,b∈X↔∃k,.ent k∈srcs∧D8 (H.getD k ⟨undef,0⟩).v=some b:=fun b=>ar4
 have O:∀(i k:Nat),srcs[i]? =some (.ent k)→k<es.length∧(es.getD k .dead).live=true:=by
  intro i k hi;have :=hb7 _ (WL hi);simpa using this
 have hlt:∀(i k:Nat),srcs[i]? =some (.ent k)→k<H.length:=fun i k hi=>by rw[Y.hlen];exact(O i k hi).1
 have hHk:∀(k:Nat),k<H.length→H[k]? =some (H.getD k ⟨undef,0⟩):=fun k hk=>by simp[List.getD,hk]
 have aos:∀(k:Nat),k<es.length→es[k]? =some (es.getD k .dead):=fun k hk=>by simp[List.getD,hk]
 have J:∀b,b∈X→∃(i k:Nat),srcs[i]? =some (.ent k)∧D8 (H.getD k ⟨undef,0⟩).v=some b∧¬ok b∧b<w.heap.size∧(C.w0.heap.size≤b∨b∈C.X):=by
  intro b hb;obtain⟨k,hk,hbk⟩:=(hX b).1 hb;obtain⟨i,hi,L⟩:=GZ hk;have hi':srcs[i]? =some (.ent k):=by simp[hi,L]
  have :=Y.blk k _ _ b (aos k (O i k hi').1) (O i k hi').2 (hHk k (hlt i k hi')) hbk;exact⟨i,k,hi',hbk,this⟩
 have hmc:Cb ⟨w,ok,X,Hc⟩ ok Hc E w:=by
  refine⟨.refl _ _,fun _ h=>h,fun _ h=>.inl h,Y.kL,.refl _,by simp[Hc,hb1],?_,?_,?_⟩
  ·intro i e h L z;have hi:i<srcs.length:=aP2
   have hcl:e.amP srcs=true:=hb3 e (WL L);have aFg:∀(j:Nat) (s:DW),srcs[j]? =some s→Hc[j]? =some (DW.hd H s):=fun j s hs=>by simp[Hc,hs]
   have hs:srcs[i]? =some srcs[i]:=Qp
   have hd:=hE i _ hs;simp only[Hc,JC,hs,IW,Ll]at z;cases hsi:srcs[i]with
   |ent k=>
    rw[hsi]at hd z hs;simp only[DW.hd]at z;subst z;simp only at hd;rw[L,IW]at hd;exact Em.down aFg hcl (Y.ent k _ _ hd.symm (hHk k (hlt i k hs)))
   |nil sz=>
    rw[hsi]at hd z;simp only[DW.hd]at z;subst z;obtain⟨e',he'⟩:=hd;rw[L]at he';obtain rfl:=CO he';exact⟨rfl,Ap,[],⟨Ap,.inl ⟨rfl,rfl⟩⟩,Tn,fun i hi=>aGV⟩
  ·intro i e h b L I z q;have hi:i<srcs.length:=aP2
   have hs:srcs[i]? =some srcs[i]:=Qp
   simp only[Hc,JC,hs,IW,Ll]at z;cases hsi:srcs[i]with
   |ent k=>
    rw[hsi]at z hs;simp only[DW.hd]at z;subst z;have hbX:b∈X:=(hX b).2 ⟨k,WL hs,q⟩;obtain⟨_,_,_,_,M,U,_⟩:=J b hbX;exact⟨M,U,.inr hbX⟩
   |nil sz=>
    rw[hsi]at z;simp only[DW.hd]at z;subst z;simp[D8]at q
  intro i j e e' h h' b L he' I Z z hh' q alr;have hi:i<srcs.length:=aP2
  have hj:j<srcs.length:=by rw[hb1];exact(Fb.1 he').1
  have hs:srcs[i]? =some srcs[i]:=Qp
  have hs':srcs[j]? =some srcs[j]:=by simp[hj]
  simp only[Hc,JC,hs,IW,Ll]at z;simp only[Hc,JC,hs',IW,Ll]at hh';cases hsi:srcs[i]with
  |nil sz=>rw[hsi]at z;simp only[DW.hd]at z;subst z;simp[D8]at q
  |ent k=>
   cases hsj:srcs[j]with
   |nil sz=>rw[hsj]at hh';simp only[DW.hd]at hh';subst hh';simp[D8]at alr
   |ent k'=>
    rw[hsi]at z hs;rw[hsj]at hh' hs';simp only[DW.hd]at z hh';subst z;subst hh';have hkk:=Y.E5 k k' _ _ _ _ b (aos k (O i k hs).1) (aos k' (O j k' hs').1) (O i k hs).2 (O j k' hs').2 (hHk k (hlt i k hs)) (hHk k' (hlt j k' hs')) q alr;subst hkk;exact hidx i j k hs hs'
 have hargs:∀i,i<gK.length→R ok w Hc (gK.getD i .junk) ((ops.map a.eval).toArray.getD i undef):=by
  intro i hi;obtain⟨op,x,ho,hmem,harg⟩:=aq6 hl ha i hi;have hR:=hn _ hmem
  have e:(ops.map a.eval).toArray.getD i undef=a.eval op:=by
   obtain⟨M,U⟩:=Fb.1 ho;simp[Array.getD,M,U]
  rw[e];simp only at hR;generalize gK.getD i .junk=y at harg ⊢;generalize a.eval op=u at hR ⊢;have hHc:∀(j:Nat) (s:DW),srcs[j]? =some s→Hc[j]? =some (DW.hd H s):=fun j s hs=>by simp[Hc,hs]
  cases x with
  |d x=>
   rcases harg with rfl|⟨j,s,rfl,rfl,hs⟩|⟨rfl,rfl⟩
   ·cases hR with |d _ _ h=>exact .d _ _ h
   ·have :=hR.lit;rw[this];exact .aZ j none 0 0 s (hHc j _ hs)
   have :=hR.lit;rw[this];exact .d _ _ (.sl0 none 0)
  |aZ k=>
   obtain⟨j,rfl,hs⟩:=harg;cases hR with
   |aZ _ ad n cap s hH=>
    refine .aZ j ad n cap s ?_;rw[hHc j _ hs];simp[DW.hd,List.getD,hH]
  |ptr k off=>
   obtain⟨j,rfl,hs⟩:=harg;cases hR with
   |ptr _ _ b s hH=>
    refine .ptr j off b s ?_;rw[hHc j _ hs];simp[DW.hd,List.getD,hH]
  |mp k=>
   obtain⟨j,rfl,hs⟩:=harg;cases hR with
   |mp _ _ s hl hH=>
    refine .mp j _ s hl ?_;rw[hHc j _ hs];simp[DW.hd,List.getD,hH]
  |fn f fi ca=>
   obtain⟨fi',ca',rfl,M,U⟩:=harg
   have one:∀(x y:AY) (v:Value),aO3 srcs x y→R ok w H x v→R ok w Hc y v:=by
    intro x y v hxy hx;cases x with
    |d x=>obtain rfl:=hxy;cases hx with |d _ _ h=>exact .d _ _ h
    |mp k=>
     obtain⟨j,rfl,hs⟩:=hxy;cases hx with
     |mp _ _ s hl hH=>
      refine .mp j _ s hl ?_;rw[hHc j _ hs];simp[DW.hd,List.getD,hH]
    |ptr k off=>
     obtain⟨j,rfl,hs⟩:=hxy;cases hx with
     |ptr _ _ b s hH=>
      refine .ptr j off b s ?_;rw[hHc j _ hs];simp[DW.hd,List.getD,hH]
    |_=>exact hxy.elim
   cases hR with
   |fn _ _ _ vs us hl1 hl2 h3 h4=>
    refine .fn f fi' ca' vs us (by rw[hl1,oQ M]) (by rw[hl2,oQ U]) (fun i hi=>?_) (fun i hi=>?_)
    ·exact one _ _ _ (aML M i hi) (h3 i (by rw[oQ M];exact hi))
    exact one _ _ _ (aML U i hi) (h4 i (by rw[oQ U];exact hi))
  |_=>exact harg.elim
 refine(hr ok X Hc w _ hmc (by simp[hl,aRi ha]) hargs).mono ?_;rintro e w' ⟨v,ok',H',rfl,m,hR⟩;have hgr:ES ok w ok' w':=fun b hb=>⟨m.yR b hb,m.fr.block b (Y.kL b hb) (fun hbX=>by obtain⟨_,_,_,_,M,_⟩:=J b hbX;exact M hb)⟩
 have aFY:srcs.length≤H'.length:=by rw[m.hlen];exact hb2
 refine⟨v,ok',H++H'.drop srcs.length,rfl,hgr,Names.push _ _,?_,by have :=acV rfl hlt m.names hR;rwa [Y.hlen]at this⟩
 let idx:Nat→Option Nat:=fun j=>srcs.findIdx? (fun s=>match s with | .ent k=>k==j| .nil _=>false)
 have aEb:∀(j i:Nat),idx j=some i→srcs[i]? =some (.ent j):=by
  intro j i h;simp only[idx,acH]at h;obtain⟨M,U,_⟩:=h;have :srcs[i]? =some srcs[i]:=by simp[M]
  cases hs:srcs[i]with
  |ent k=>rw[hs]at U this;simp at U;rw[this,U]
  |nil _=>rw[hs]at U;simp at U
 have aEc:∀(j:Nat),idx j=none→∀(i:Nat),srcs[i]? ≠some (.ent j):=by
  intro j h i hi;simp only[idx,List.findIdx?_eq_none_iff]at h;have :=h _ (WL hi);simp at this
 have hlow:∀(j:Nat),j<es.length→(LW srcs es E')[j]? =some (match idx j with |some i=>(E'.getD i .dead).up srcs es.length|none=>es.getD j .dead):=by
  intro j hj;unfold LW;rw[Gj (by simpa using hj)];simp only[JC,List.getElem?_zipIdx,aos j hj,IW,JI];rfl
 have aC0:(LW srcs es E').length=es.length+(E'.length-srcs.length):=by simp[LW]
 have hhigh:∀(j:Nat),es.length≤j→(LW srcs es E')[j]? =(E'[srcs.length+(j-es.length)]?).map (Ar.up srcs es.length):=by
  intro j hj;unfold LW;rw[Jd (by simpa using hj),JC,Pq];simp
 have aEd:∀(j:Nat),j<es.length→(H++H'.drop srcs.length)[j]? =H[j]? :=fun j hj=>Gj (by rw[Y.hlen];exact hj)
 have aC1:∀(j:Nat),es.length≤j→(H++H'.drop srcs.length)[j]? =H'[srcs.length+(j-es.length)]? :=by
  intro j hj;rw[Jd (by rw[Y.hlen];exact hj),Pq,Y.hlen]
 have hcls:∀(j:Nat) (e:Ar) (h:BO),(LW srcs es E')[j]? =some e→e.live=true∨True→(H++H'.drop srcs.length)[j]? =some h→
  (∃(i:Nat) (e0:Ar),e=e0.up srcs es.length∧E'[i]? =some e0∧H'[i]? =some h∧((j<es.length∧srcs[i]? =some (.ent j))∨(es.length≤j∧i=srcs.length+(j-es.length))))∨(j<es.length∧es[j]? =some e∧H[j]? =some h∧∀(i:Nat),srcs[i]? ≠some (.ent j)):=by
  intro j e h L _ z;by_cases hj:j<es.length
  ·rw[hlow j hj]at L;rw[aEd j hj]at z;cases hi:idx j with
   |none=>
    rw[hi]at L;simp only[Ll]at L;exact .inr ⟨hj,by rw[aos j hj,L],z,aEc j hi⟩
   |some i=>
    rw[hi]at L;simp only[Ll]at L;have hs:=aEb j i hi;have hil:i<srcs.length:=(Fb.1 hs).1;have hiE:i<E'.length:=AA
    refine .inl ⟨i,_,L.symm,by simp[List.getD,hiE],?_,.inl ⟨hj,hs⟩⟩;refine m.names i h ?_;simp only[Hc,JC,hs,IW,DW.hd];simp[List.getD,z]
  rw[hhigh j AA]at L;rw[aC1 j AA]at z;rw[Ux]at L;obtain⟨e0,L,rfl⟩:=L;exact .inl ⟨_,_,rfl,L,z,.inr ⟨AA,rfl⟩⟩
 have hold:∀(j:Nat) (e:Ar) (h:BO) (b:Nat),es[j]? =some e→H[j]? =some h→(∀(i:Nat),srcs[i]? ≠some (.ent j))→e.live=true→D8 h.v=some b→b<w.heap.size∧b∉X∧¬ok b∧(C.w0.heap.size≤b∨b∈C.X):=by
  intro j e h b L z hno I q;have M:=Y.blk j e h b L I z q;refine⟨M.2.1,fun hbX=>?_,M.1,M.2.2⟩;obtain⟨i,k,hs,hbk,_⟩:=J b hbX;have :=Y.E5 j k e _ h _ b L (aos k (O i k hs).1) I (O i k hs).2 z (hHk k (hlt i k hs)) q hbk;subst this;exact hno i hs
 have aot:∀(i:Nat) (e:Ar) (h:BO) (b:Nat),E'[i]? =some e→H'[i]? =some h→e.live=true→D8 h.v=some b→¬ok' b∧b<w'.heap.size∧(w.heap.size≤b∨b∈X):=fun i e h b L z I q=>m.blk i e h b L I z q;refine⟨⟨m.fr.os.trans Y.fr.os,m.fr.tape.trans Y.fr.tape,m.fr.output.trans Y.fr.output,Eh Y.fr.size m.fr.size,fun k hk hx=>?_⟩,fun b hb=>m.yR b (Y.yR b hb),?_,m.kL,Y.names.trans (Names.push _ _),?_,?_,?_,?_⟩
 ·have hkw:k<w.heap.size:=WG hk Y.fr.size
  rw[m.fr.block k hkw (fun hkX=>by
   obtain⟨_,_,_,_,_,_,h⟩:=J k hkX;rcases h with h|h
   ·omega
   exact hx h)]
  exact Y.fr.block k hk hx
 ·intro b hb;rcases m.yS b hb with h|h|h
  ·exact Y.yS b h
  ·exact .inr (.inl (Eh Y.fr.size h))
  obtain⟨_,_,_,_,_,_,h⟩:=J b h;exact .inr h
 ·rw[aC0,EG,Kw,Y.hlen,m.hlen]
 ·intro j e h L z;rcases hcls j e h L (.inr trivial) z with⟨i,e0,rfl,M,U,_⟩|⟨_,M,U,h3⟩
  ·exact Em.upw rfl hlt m.names Y.hlen (hb4 e0 (WL M)) (m.ent i e0 h M U)
  refine(Y.ent j e h M U).mono hgr (Names.push _ _) (fun I b q=>?_);have h4:=hold j e h b M U h3 I q;exact m.fr.block b h4.1 h4.2.1
 ·intro j e h b L I z q;rcases hcls j e h L (.inr trivial) z with⟨i,e0,rfl,M,U,_⟩|⟨_,M,U,h3⟩
  ·have h4:=aot i e0 h b M U aKn q;refine⟨h4.1,h4.2.1,?_⟩;rcases h4.2.2 with h5|h5
   ·exact .inl (Eh Y.fr.size h5)
   obtain⟨_,_,_,_,_,_,h⟩:=J b h5;exact h
  have h4:=hold j e h b M U h3 I q;refine⟨fun hok'=>?_,WG h4.1 m.fr.size,h4.2.2.2⟩;rcases m.yS b hok' with h5|h5|h5
  ·exact h4.2.2.1 h5
  ·have :w.heap.size≤b:=h5;omega
  exact h4.2.1 h5
 intro j j' e e' h h' b L he' I Z z hh' q alr;rcases hcls j e h L (.inr trivial) z with⟨i,e0,rfl,M,U,h3⟩|⟨_,M,U,h3⟩
 ·rcases hcls j' e' h' he' (.inr trivial) hh' with⟨i',e0',rfl,h1',h2',h3'⟩|⟨_,h1',h2',h3'⟩
  ·have hii:=m.E5 i i' e0 e0' h h' b M h1' aKn (by rw[Ar.adH]at Z;exact Z) U h2' q alr;subst hii;rcases h3 with⟨_,h4⟩|⟨h4,h5⟩
   ·rcases h3' with⟨_,h4'⟩|⟨h4',h5'⟩
    ·rw[h4]at h4';simpa using h4'
    have :=(Fb.1 h4).1;omega
   rcases h3' with⟨_,h4'⟩|⟨h4',h5'⟩
   ·have :=(Fb.1 h4').1;omega
   omega
  have h4:=hold j' e' h' b h1' h2' h3' Z alr;rcases(aot i e0 h b M U aKn q).2.2 with h5|h5
  ·omega
  exact absurd h5 h4.2.1
 rcases hcls j' e' h' he' (.inr trivial) hh' with⟨i',e0',rfl,h1',h2',h3'⟩|⟨_,h1',h2',h3'⟩
 ·have h4:=hold j e h b M U h3 I q;rcases(aot i' e0' h' b h1' h2' (by rw[Ar.adH]at Z;exact Z) alr).2.2 with h5|h5
  ·omega
  exact absurd h5 h4.2.1
 exact Y.E5 j j' e e' h h' b M h1' I Z U h2' q alr
def aSD {f:FuncId} {ops:Array Operand} {ats:Array TypeId} (srcs:List DW) {eH gK:List AY} {E E':List Ar} {j:AY} (m:Am P f gK E j E') (q:Dl P f=true) (u:RY srcs es E E'=true) (hE:sH srcs es E) (ha:Mc srcs eH gK) (hl:ops.toList.length=eH.length)
 (z:o.op=.call { callee:=.value (.func f),args:=ops,argTypes:=ats }):BU P o (F9 ops.toList eH) es (j.up srcs es.length) (LW srcs es E'):=by
 intro C ok H a w Q I J;unfold Oper.wp;rw[yI z,TL q,bW];have e:ops.map a.eval=(ops.toList.map a.eval).toArray:=aDw
 rw[e];refine(aSN I srcs m u hE ha hl J).mono ?_;rintro e w' ⟨v,ok',H',rfl,L,M,O,U⟩;exact⟨v,ok',H',rfl,L,M,O,U⟩
end
def Aa (n:Int):D:=.lit (.int .i64 n)
def Eo (n:Int):D:=.lit (.int .u8 n)
def DL (b:Bool):D:=.lit (.bool b)
def DY (s:ByteArray):D:=.lit (.string s)
def BF {α:Type} (e:α→D) (l:List α):D:=.sl (l.map e)
def BD (x:D):List AY:=x.cells.map .d
def Ae {α:Type} (l:List α) (i:Int):Option α:=if 0≤i then l[i.toNat]? else none
def Bz {α:Type} (j:Nat) (l m:List α):Option (List α):=if(l.length+m.length)*j≤140737488355328 then some (l++m)else none
def Gx (s:ByteArray) (i:Int):Option Int:=if 0≤i then(s[i.toNat]?).map fun c=>(c.toNat:Int)else none
def Hg {α:Type} (l:List α) (lo hi:Int):Option (List α):=if 0≤lo∧lo≤hi∧hi≤l.length then some ((l.drop lo.toNat).take (hi.toNat-lo.toNat))else none
def NU (s:ByteArray) (lo hi:Int):Option ByteArray:=if 0≤lo∧lo≤hi∧hi≤s.size then some (s.extract lo.toNat hi.toNat)else none
def Il {α:Type} (j:Nat) (z:α) (n c:Int):Option (List α):=if 0≤n∧n≤c∧(j:Int)*c≤140737488355328 then some (List.replicate n.toNat z)else none
def KQ {α:Type} {l:List α} {i:Int} {x:α} (h:Ae l i=some x):0≤i∧l[i.toNat]? =some x:=by
 unfold Ae at h;split at h
 ·exact⟨‹_›,h⟩
 cases h
def aiC {α β:Type} {l:List α} {i:Nat} {x:α} (f:α→β) (h:l[i]? =some x):(l.map f)[i]? =some (f x):=by simp[h]
def dK {α:Type} {b:Bool} {x y z:α} (j:b=true) (h:(bif b then x else y)=z):x=z:=by subst j;exact h
def Zx {α:Type} {b:Bool} {x y z:α} (j:b=false) (h:(bif b then x else y)=z):y=z:=by subst j;exact h
def CY {α β:Type} {x:Option α} {f:α→Option β} {z:β} (h:x.bind f=some z):∃a,x=some a∧f a=some z:=jE.1 h
def Af :Nat:=9223372036854775808
section
variable {P : Program} {o : Oper} {es : List Ar} {α : Type}
def BN {x:Operand} {t e:TypeId} (enc:α→D) (l:List α) (j:P.underlying t=some (.slice e)) (m:o.op=.call { callee:=.builtin .len,args:= #[x],argTypes:= #[t] }):
 BU P o [(x,.d (BF enc l))] es (.d (Aa l.length)) es:=by
 have :=afh (es:=es) (xs:=l.map enc) j m;rw[CM]at this;exact this
def RH {x:Operand} {t e e':TypeId} {k s:Nat} (enc:α→D) (l:List α) (j:es[k]? =some (.arr e' s (l.map enc))) (m:P.underlying t=some (.slice e)) (q:o.op=.call { callee:=.builtin .len,args:= #[x],argTypes:= #[t] }):
 BU P o [(x,.aZ k)] es (.d (Aa l.length)) es:=by
 have :=ahK j m q;rw[CM]at this;exact this
def aif {x:Operand} {t:TypeId} (s:ByteArray) (j:P.underlying t=some .string) (m:o.op=.call { callee:=.builtin .len,args:= #[x],argTypes:= #[t] }):
 BU P o [(x,.d (DY s))] es (.d (Aa s.size)) es:=asG j m
def amq {x y:Operand} {t e:TypeId} {k:IntKind} {i:Int} {agg:Bool} {size:Nat} (enc:α→D) {l:List α} {a:α} (h:Ae l i=some a) (j:P.underlying t=some (.slice e)) (m:EL P e agg size) (hs:(enc a).cells.length=size) (q:o.op=.indexAddr t x y):
 BU P o [(x,.d (BF enc l)),(y,.d (.lit (.int k i)))] es (.d (.ref (enc a).cells 0)) es:=
 ahB j m (KQ h).1 (aiC enc (KQ h).2) hs q
def PV {x y:Operand} {t e e':TypeId} {kd:IntKind} {i:Int} {k size:Nat} {agg:Bool} (enc:α→D) {l:List α} {a:α} (h:Ae l i=some a) (j:es[k]? =some (.arr e' size (l.map enc))) (m:P.underlying t=some (.slice e)) (q:EL P e agg size) (u:o.op=.indexAddr t x y):
 BU P o [(x,.aZ k),(y,.d (.lit (.int kd i)))] es (.lX k i.toNat 0) es:=
 aqP j m q (KQ h).1 (by have :=(Fb.1 (KQ h).2).1;simpa using this) u
def aiu {s:ByteArray} {i n:Int} (h:Gx s i=some n):∃c,0≤i∧s[i.toNat]? =some c∧n=c.toNat:=by
 unfold Gx at h;split at h
 ·rename_i j;rw[Ux]at h;obtain⟨c,m,q⟩:=h;exact⟨c,j,m,q.symm⟩
 cases h
def VT {x y:Operand} {t:TypeId} {k:IntKind} {i n:Int} {s:ByteArray} (h:Gx s i=some n) (j:P.underlying t=some .string) (m:o.op=.index t x y):
 BU P o [(x,.d (DY s)),(y,.d (.lit (.int k i)))] es (.d (Eo n)) es:=by
 obtain⟨c,q,u,rfl⟩:=aiu h;exact agb j q u m
def aGM {b:Nat} {l m r:List α} (h:Bz b l m=some r):r=l++m∧(l.length+m.length)*b≤140737488355328:=by
 unfold Bz at h;split at h
 ·exact⟨(CO h).symm, ‹_›⟩
 cases h
def aJB {n b:Nat} (j:0<b) (h:n*b≤140737488355328):n≤maxLen:=by
 have :n*1≤n*b:=Nat.mul_le_mul_left _ j;unfold maxLen;omega
def El {s x:Operand} {t e:TypeId} {size j k:Nat} (enc:α→D) {l m r:List α} (h:Bz j l m=some r) (hE:GN P t e size j) (u:es[k]? =some (.arr e size (l.map enc))) (z:∀a,(enc a).cells.length=size) (I:0<j)
 (J:o.op=.call { callee:=.builtin .append,args:= #[s,x],argTypes:= #[t,t] }):
 BU P o [(s,.aZ k),(x,.d (BF enc m))] es (.aZ es.length) (es.set k .dead++[.arr e size (r.map enc)]):=by
 obtain⟨rfl,q⟩:=aGM h;have :=anZ (ys:=m.map enc) hE u (fun y L=>by obtain⟨a,_,rfl⟩:=Ee.1 L;exact z a) Nz (by simpa using aJB I q) J;rw[←JU]at this;exact this
def asi {s r:ByteArray} {lo hi:Int} (h:NU s lo hi=some r):(0≤lo∧lo≤hi∧hi≤s.size)∧r=s.extract lo.toNat hi.toNat:=by
 unfold NU at h;split at h
 ·exact⟨‹_›,(CO h).symm⟩
 cases h
def xU (x:Option Operand) (n:Int):List (Operand×AY):=match x with |some y=>[(y,.d (Aa n))]|none=>[]
def aIF {t:TypeId} {x:Operand} {lo hi:Option Operand} {l h:Int} {s r:ByteArray} (hr:NU s l h=some r) (hl:lo=none→l=0) (Y:hi=none→h=s.size) (ht:P.underlying t=some .string) (I:o.op=.slice t x lo hi none):
 BU P o ((x,.d (DY s))::(xU lo l++xU hi h)) es (.d (DY r)) es:=
 .pure fun ok H a w _ _ L=>by
  obtain⟨⟨M,h1,h2⟩,rfl⟩:=asi hr;have m:=(L (x,.d (DY s)) Ap).lit;simp only at m;have J:(underlying t).run P w=.ok .string w:=aFr
  refine⟨.string (s.extract l.toNat h.toNat),?_,.d _ _ (.lit _)⟩;have q:∀y,lo=some y→a.eval y=.int .i64 l:=fun y e=>(L (y,.d (Aa l)) zs).lit;have u:∀y,hi=some y→a.eval y=.int .i64 h:=fun y e=>(L (y,.d (Aa h)) zs).lit;have Z:((0:Int)≤h∧h≤(s.size:Int)):=⟨AA,h2⟩
  have e2:((0:Int)≤l∧l≤(h.toNat:Int)):=⟨M,AA⟩
  cases lo with
  |none=>
   have O:=hl rfl;subst O;cases hi with
   |none=>
    have j:=Y rfl;subst j;simp[execOp,I,m,Instr.sliceAt,Instr.slice,J,Instr.sliceBounds]
   |some y=>
    simp[execOp,I,m,Instr.sliceAt,Instr.slice,J,Instr.sliceBounds,Instr.sliceBound,u y rfl,asIntOf,Z]
  |some z=>
   cases hi with
   |none=>
    have j:=Y rfl;subst j;have U:((0:Int)≤l∧l≤(s.size:Int)):=⟨M,AA⟩
    simp[execOp,I,m,Instr.sliceAt,Instr.slice,J,Instr.sliceBounds,Instr.sliceBound,q z rfl,asIntOf,U]
   |some y=>
    simp[execOp,I,m,Instr.sliceAt,Instr.slice,J,Instr.sliceBounds,Instr.sliceBound,q z rfl,u y rfl,asIntOf,Z];intro hc;have :=hc M;omega
def aeG {l r:List α} {lo hi:Int} (h:Hg l lo hi=some r):(0≤lo∧lo≤hi∧hi≤l.length)∧r=(l.drop lo.toNat).take (hi.toNat-lo.toNat):=by
 unfold Hg at h;split at h
 ·exact⟨‹_›,(CO h).symm⟩
 cases h
def aaq {ok:Nat→Prop} {w:World} {xs:List D} {ad:Option Addr} {cap size l h:Nat} (U:DV ok w (.sl xs) (.slice ad xs.length cap)) (hs:∀x∈xs,x.cells.length=size) (Y:l≤h) (Z:h≤xs.length):
 DV ok w (.sl ((xs.drop l).take (h-l))) (.slice (if cap=l then ad else ad.map (·.add (l*size))) (h-l) (cap-l)):=by
 have hlen:((xs.drop l).take (h-l)).length=h-l:=DU
 by_cases hz:h-l=0
 ·have :(xs.drop l).take (h-l)=[]:=by rw[hz];rfl
  rw[this,hz];exact .sl0 _ _
 have u:0<xs.length:=AA
 generalize hn:xs.length=n at U;cases U with
 |sl0=>simp at u
 |sl _ b off _ m hcap J z hf hx hc=>
  have L:m=size:=by
   rw[←z 0 u];exact hs _ (by simp[List.getD,u])
  subst L;have M:cap≠l:=AA
  rw[Cc M];simp only[IW,addr_add]
  have O:∀i,i<h-l→((xs.drop l).take (h-l)).getD i DK=xs.getD (l+i) DK:=by
   intro i hi;simp[List.getD,Na hi,Pq]
  have q:∀i j,off+l*m+(i*m+j)=off+((l+i)*m+j):=by
   intro i j;rw[Xn];omega
  have :=DV.sl ((xs.drop l).take (h-l)) b (off+l*m) (cap-l) m (ok:=ok) (w:=w) (by rw[hlen];omega) (fun Y Z=>J (by rw[hlen]at Y;omega) Z) (fun i hi=>by rw[hlen]at hi;rw[O i hi];exact z _ AA)
   (fun i hi j I=>by rw[hlen]at hi;rw[O i hi];exact hf _ AA j I) (fun i hi j I=>by rw[hlen]at hi;rw[q];exact hx _ AA j I)
   (fun i hi j I=>by rw[hlen]at hi;rw[O i hi,q];exact hc _ AA j I)
  rw[hlen]at this;exact this
def aGC {t e:TypeId} {agg:Bool} {size:Nat} {x:Operand} {lo hi:Option Operand} {l h:Int} (enc:α→D) {xs r:List α} (hr:Hg xs l h=some r) (hl:lo=none→l=0) (hh:hi=none→h=xs.length) (ht:P.underlying t=some (.slice e)) (M:EL P e agg size)
 (hc:∀a,(enc a).cells.length=size) (O:o.op=.slice t x lo hi none):BU P o ((x,.d (BF enc xs))::(xU lo l++xU hi h)) es (.d (BF enc r)) es:=
 .pure fun ok H a w _ _ Z=>by
  obtain⟨⟨h0,h1,h2⟩,rfl⟩:=aeG hr;have hx:=Z (x,.d (BF enc xs)) Ap;simp only at hx;generalize U:a.eval x=v at hx;have Y:(underlying t).run P w=.ok (.slice e) w:=aFr
  have J:∀y,lo=some y→a.eval y=.int .i64 l:=fun y e=>(Z (y,.d (Aa l)) zs).lit;have L:∀y,hi=some y→a.eval y=.int .i64 h:=fun y e=>(Z (y,.d (Aa h)) zs).lit;have q:DV ok w (.sl (xs.map enc)) v:=by cases hx with |d _ _ h=>exact h
  have u:∃ad cap,v=.slice ad (xs.map enc).length cap∧(xs.map enc).length≤cap:=by
   generalize hys:xs.map enc=ys at q;cases q with
   |sl0 ad cap=>exact⟨ad,cap,rfl,EZ _⟩
   |sl _ b off cap size j=>exact⟨_,cap,rfl,j⟩
  obtain⟨ad,cap,rfl,j⟩:=u;have m:=aaq (l:=l.toNat) (h:=h.toNat) q (size:=size) (fun y hy=>aHu) AA DU;rw[←cG,←Ym]at m;rw[CM]at j;refine⟨_,?_,.d _ _ m⟩;have e1:((0:Int)≤h∧h≤(cap:Int)):=⟨AA,AA⟩
  cases lo with
  |none=>
   have hl0:=hl rfl;subst hl0;cases hi with
   |none=>
    have I:=hh rfl;subst I;simp[execOp,O,U,Instr.sliceAt,Instr.slice,Y,Instr.sliceBounds,M.size]
   |some y=>
    simp[execOp,O,U,Instr.sliceAt,Instr.slice,Y,Instr.sliceBounds,Instr.sliceBound,L y rfl,asIntOf,e1,M.size]
  |some z=>
   cases hi with
   |none=>
    have I:=hh rfl;subst I;have e2':((0:Int)≤l∧l≤(xs.length:Int)):=⟨h0,AA⟩
    simp[execOp,O,U,Instr.sliceAt,Instr.slice,Y,Instr.sliceBounds,Instr.sliceBound,J z rfl,asIntOf,e2',M.size]
   |some y=>
    simp[execOp,O,U,Instr.sliceAt,Instr.slice,Y,Instr.sliceBounds,Instr.sliceBound,J z rfl,L y rfl,asIntOf,e1,M.size];intro hc';have :=hc' h0;omega
def mJ (P:Program) (t:TypeId) (f off:Nat) (agg:Bool) (n:Nat):Bool:=
 match P.underlying t with
 |some (.struct m)=>match m[f]? with
  |some j=>decide (j.offset=off)&&aOQ P j.type agg n
  |none=>false
 |_=>false
def apS {x:Operand} {t:TypeId} {f off n:Nat} {agg:Bool} {cs:List D} (m:mJ P t f off agg n=true) (hn:off+n≤cs.length) (Z:agg=false→n=1) (M:o.op=.field t x f):BU P o [(x,.d (.agg cs))] es (.d (Pv agg cs off n)) es:=
 .pure fun ok H a w _ _ I=>by
  have J:=LH I;simp only at J;generalize O:a.eval x=v at J;unfold mJ at m;split at m
  ·rename_i fs hu;split at m
   ·rename_i j U;simp only[CW,G8]at m;obtain⟨rfl,q⟩:=m;have q:=Fq q;have u:(underlying t).run P w=.ok (.struct fs) w:=aBO
    cases J with
    |d _ _ h=>
     cases h with
     |agg _ vs hl L Y=>
      cases agg with
      |false=>
       have :=Z rfl;subst this;have z:j.offset<vs.size:=AA
       refine⟨vs[j.offset],?_,?_⟩
       ·simp[execOp,M,O,Instr.field,u,U,asAgg,part,q.agg,z]
       have :=Y j.offset AA;simp[Array.getD,z]at this;exact .d _ _ this
      |true=>
       refine⟨.agg (vs.extract j.offset (j.offset+n)),?_,?_⟩
       ·simp[execOp,M,O,Instr.field,u,U,asAgg,part,q.agg,q.size]
       simp only[Pv,JZ];have hlen:((cs.drop j.offset).take n).length=n:=DU
       have hg:∀i,i<n→((cs.drop j.offset).take n).getD i DK=cs.getD (j.offset+i) DK:=by
        intro i hi;simp[List.getD,Na hi,Pq]
       refine .d _ _ (.agg _ _ (by rw[hlen];simp;omega) ?_ ?_)<;>intro i hi<;>rw[hlen]at hi<;>rw[hg i hi]
       ·exact L _ AA
       have :=Y (j.offset+i) AA
       have e:(vs.extract j.offset (j.offset+n)).getD i undef=vs.getD (j.offset+i) undef:=by
        have h3:j.offset+i<vs.size:=AA
        have h4:i<(vs.extract j.offset (j.offset+n)).size:=DU
        have h5:i<min (j.offset+n) vs.size-j.offset:=AA
        simp[Array.getD,h3,h5]
       rw[e];exact this
   cases m
  cases m
def AY.flat:AY→Bool
 | .d (.lit _)=>true
 | .fB xs=>xs.all fun x=>match x with | .d (.lit _)=>true|_=>false
 |_=>false
def aSM (es:List Ar):AY→AY→Prop
 | .d x,y=>y=.d x
 | .aZ k,y=>∃e s xs,es[k]? =some (.arr e s xs)∧y=.d (.sl xs)
 |_,_=>False
def dY (es:List Ar):List AY→List AY→Prop
 |x::xs,y::ys=>aSM es x y∧dY es xs ys
 | [],[]=>True
 |_,_=>False
def aJT :∀{xs ys:List AY},dY es xs ys→xs.length=ys.length
 | [],[],_=>rfl
 |_::xs,_::ys,h=>by simp[aJT h.2]
 | [],_::_,h=>h.elim
 |_::_,[],h=>h.elim
def aUa {ops:List Operand}:∀{xs ys:List AY},ops.length=xs.length→dY es xs ys→∀i,i<ys.length→∃o x,ops[i]? =some o∧(o,x)∈F9 ops xs∧aSM es x (ys.getD i .junk):=by
 induction ops with
 |nil=>
  intro xs ys hl h i hi;cases xs with
  |nil=>cases ys with |nil=>simp at hi|cons _ _=>exact h.elim
  |cons _ _=>simp at hl
 |cons o ops j=>
  intro xs ys hl h i hi;cases xs with
  |nil=>simp at hl
  |cons x xs=>
   cases ys with
   |nil=>exact h.elim
   |cons y ys=>
    cases i with
    |zero=>exact⟨o,x,rfl,by simp[F9],h.1⟩
    |succ i=>
     obtain⟨m,q,u,z,I⟩:=j MH h.2 i Fp;exact⟨m,q,MR,by simp[F9,z],Qq⟩
def mG {ok ok':Nat→Prop} {w:World} {H:List BO} {h:BO} {e s:Nat} {xs:List D} (he:Em ok w H h (.arr e s xs)) (u:∀b,ok b→ok' b) (M:∀b,D8 h.v=some b→ok' b):DV ok' w (.sl xs) h.v:=by
 obtain⟨h1,J,ys,⟨h3,h4⟩,h5⟩:=he;rcases h4 with⟨L,h7⟩|⟨g,cap,q,L,h7,h8,h9,h10,O,U⟩
 ·rw[Gg h7,L];exact .sl0 none 0
 rw[L];have z:=M g (by rw[L];rfl);have I:=Ro J
 have Y:∀i j,i<xs.length→j<s→i*s+j<xs.length*s:=by
  intro i j hi m
  calc i*s+j<i*s+s:=AA
   _=(i+1)*s:=by rw[UK]
   _≤xs.length*s:=Js _ hi
 have hcur:xs.length*s≤q.size:=by
  exact Eh (Js _ h9) O
 have hc:∀i j,i<xs.length→j<s→w.cell? ⟨g,0+(i*s+j),none⟩=some (ys.getD (i*s+j) undef):=by
  intro i j hi m;have Z:=Y i j hi m;rw[JI]
  have e1:ys.getD (i*s+j) undef=q[i*s+j]' AA:=by
   rw[←U];simp[List.getD,Na Z,show i*s+j<q.size by omega]
  rw[e1];simp[World.cell?,h8,show i*s+j<q.size by omega]
 have hg:∀i,i<xs.length→xs.getD i DK∈xs:=fun i hi=>MG
 refine .sl xs g 0 cap s h9 (fun _ _=>z) (fun i hi=>J _ (hg i hi)) (fun i hi j m=>?_) (fun i hi j m=>?_) (fun i hi j m=>?_)
 ·have :=(h5.2 (i*s+j) (by rw[I];exact Y i j hi m)).1;rw[flat_get J i j hi m]at this;exact this
 ·rw[hc i j hi m];rfl
 have :=(h5.2 (i*s+j) (by rw[I];exact Y i j hi m)).2;rw[flat_get J i j hi m]at this;unfold cellAt;rw[hc i j hi m];cases this with |d _ _ h=>exact h.mono (fun b M=>⟨u b M,rfl⟩)
def ae1 {f:FuncId} {ops:Array Operand} {ats:Array TypeId} {eH gK:List AY} {z:AY} (hr:Am P f gK [] z []) (hf:Dl P f=true) (q:z.flat=true) (ha:dY es eH gK) (hl:ops.toList.length=eH.length)
 (ho:o.op=.call { callee:=.value (.func f),args:=ops,argTypes:=ats }):BU P o (F9 ops.toList eH) es z es:=by
 intro C ok H a w Q I hn;unfold Oper.wp;rw[yI ho,TL hf,bW];have e:ops.map a.eval=(ops.toList.map a.eval).toArray:=aDw
 rw[e]
 let J:Nat→Prop:=fun b=>b<w.heap.size
 have hmc:Cb ⟨w,J,[],[]⟩ J [] [] w:=
  ⟨.refl _ _,fun _ h=>h,fun _ h=>.inl h,fun _ h=>h,.refl _,rfl,fun k e h L _=>by simp at L,fun k e h b L=>by simp at L,fun k k' e e' h h' b L=>by simp at L⟩
 refine(hr J [] [] w _ hmc (by simp[hl,aJT ha]) (fun i hi=>?_)).mono ?_
 ·obtain⟨op,x,ho',U,j⟩:=aUa hl ha i hi;have O:=hn _ U
  have e:(ops.toList.map a.eval).toArray.getD i undef=a.eval op:=by
   obtain⟨h1,h2⟩:=Fb.1 ho';have Y:i<ops.size:=by simpa using h1
   have Z:ops[i]=op:=rY
   simp[Array.getD,Y,Z]
  rw[e];simp only at O;generalize gK.getD i .junk=y at j;generalize a.eval op=u at O;cases x with
  |d x=>
   obtain rfl:=j;cases O with |d _ _ h=>exact .d _ _ (h.mono (fun b M=>⟨I.kL b M,rfl⟩))
  |aZ k=>
   obtain⟨e',s,xs,hk,rfl⟩:=j;obtain⟨h,hh,hok⟩:=Fz I.ent I.hlen hk;obtain rfl:=Ph O hh;exact .d _ _ (mG hok (fun b M=>I.kL b M) (fun b M=>(I.blk k _ h b hk rfl hh M).2.1))
  |_=>exact j.elim
 rintro e w' ⟨v,ok',H',rfl,m,O⟩;have hblk:∀b,b<w.heap.size→¬False→w'.heap[b]? =w.heap[b]? :=fun b M _=>m.fr.block b M Ap;obtain⟨h1,h2⟩:=I.change (ok':=ok) (H':=H) (es':=es) (w':=w') (fun _=>False) m.fr.os m.fr.tape m.fr.output m.fr.size hblk (fun _ h=>h.elim) (fun _ h=>h) (fun _ h=>.inl h) (.refl _) I.hlen (fun k e h L hh=>.inl ⟨L,hh,fun _ _ _ h=>h⟩);refine⟨v,ok,H,rfl,h2,.refl _,h1,?_⟩;cases O with
 |d x v h=>
  cases x with
  |lit u=>cases h;exact .d _ _ (.lit _)
  |_=>simp[AY.flat]at q
 |fB xs vs hl' h=>
  refine .fB xs vs hl' (fun i hi=>?_);simp only[AY.flat,DT]at q;have Y:=q (xs.getD i .junk) MG;have Z:=h i hi;generalize xs.getD i .junk=x at Y Z;generalize vs.getD i undef=u at Z;cases Z with
  |d y _ h5=>
   cases y with
   |lit u=>cases h5;exact .d _ _ (.lit _)
   |_=>simp at Y
  |_=>simp at Y
 |_=>simp[AY.flat]at q
end
def AY.thaw (k:Nat) (xs:List D):AY→AY
 | .aZ j=>if j=k then .d (.sl xs)else .aZ j
 | .lX j i off=>if j=k then .junk else .lX j i off
 |x=>x
def Ak.thaw (σ:Ak) (k:Nat) (xs:List D):Ak:=⟨σ.slots.map (AY.thaw k xs),σ.ents.set k .dead,σ.base⟩
def PD {σ:Ak} (k:Nat) {e s:Nat} {xs:List D} (hk:σ.ents[k]? =some (.arr e s xs)):∀C ok H a w,Holds C ok H σ a w→∃ok',Holds C ok' H (σ.thaw k xs) a w:=by
 intro C ok H a w q;obtain⟨hd,M,hok⟩:=Fz q.mem.ent q.mem.hlen hk;have z:k<σ.ents.length:=(Fb.1 hk).1
 let ok':Nat→Prop:=fun b=>ok b∨D8 hd.v=some b
 have L:=fun b m=>q.mem.blk k _ hd b hk rfl M m;have hg:ES ok w ok' w:=fun b m=>⟨.inl m,rfl⟩
 refine⟨ok',⟨q.mem.fr,fun b m=>.inl (q.mem.yR b m),?_,?_,q.mem.names,by simp[Ak.thaw,q.mem.hlen],?_,?_,?_⟩,by simp[Ak.thaw,q.size],q.defers.mono hg,q.base,?_⟩
 ·rintro b (m|m)
  ·exact q.mem.yS b m
  exact .inr (L b m).2.2
 ·rintro b (m|m)
  ·exact q.mem.kL b m
  exact(L b m).2.1
 ·intro j e' h' he I;rcases N7 z he with⟨rfl,rfl⟩|⟨_,J⟩
  ·trivial
  exact(q.mem.ent j e' h' J I).mono hg (.refl _) (fun _ _ _=>rfl)
 ·intro j e' h' b he hl I m;rcases N7 z he with⟨rfl,rfl⟩|⟨hne,J⟩
  ·cases hl
  have h3:=q.mem.blk j e' h' b J hl I m;refine⟨fun u=>?_,h3.2⟩;rcases u with u|u
  ·exact h3.1 u
  exact hne (q.mem.E5 j k e' _ h' hd b J hk hl rfl I M m u)
 ·intro i j e1 e2 h1 h2 b he1 he2 U Y hh1 hh2 hb1 hb2;rcases N7 z he1 with⟨rfl,rfl⟩|⟨_,Z⟩
  ·cases U
  rcases N7 z he2 with⟨rfl,rfl⟩|⟨_,arR⟩
  ·cases Y
  exact q.mem.E5 i j e1 e2 h1 h2 b Z arR U Y hh1 hh2 hb1 hb2
 intro t ht;simp only[Ak.thaw,CM]at ht
 have e1:(σ.thaw k xs).slots.getD t .junk=(σ.slots.getD t .junk).thaw k xs:=by
  simp only[Ak.thaw];exact Uy _ _ _ ht
 rw[e1];have O:=(q.slot t ht).mono hg (Names.refl H);generalize σ.slots.getD t .junk=x at O ⊢;generalize a.tmps.getD t undef=v at O ⊢;cases x with
 |aZ j=>
  simp only[AY.thaw];split
  ·rename_i hj;subst hj;obtain rfl:=Ph O M;exact .d _ _ (mG hok (fun b m=>.inl m) (fun b m=>.inr m))
  exact O
 |lX j i off=>
  simp only[AY.thaw];split
  ·exact .junk _
  exact O
 |_=>exact O
def AP.thaw {P:Program} {c:Code} {σ:Ak} {Q:Exit→Ak→Prop} (k:Nat) {e s:Nat} {xs:List D} (m:σ.ents[k]? =some (.arr e s xs)) (h:AP P c (σ.thaw k xs) Q):AP P c σ Q:=by
 refine⟨fun ro q C ok H a w u=>?_⟩;obtain⟨ok',j⟩:=PD k m C ok H a w u;exact h.run ro q C ok' H a w j
def Am.view {P:Program} {f:FuncId} {args:List AY} {e s:Nat} {xs:List D} (h:Am P f args [] (.aZ 0) [.arr e s xs]):Am P f args [] (.d (.sl xs)) []:=by
 intro ok X H w m J hs ha;refine(h ok X H w m J hs ha).mono ?_;rintro e' w' ⟨v,ok',H',rfl,j,L⟩;have M:H=[]:=Gg J.hlen;have hl:H'.length=1:=j.hlen
 match H',hl with
 | [hd],_=>
   obtain rfl:=Ph L (h:=hd) rfl;have z:=j.ent 0 _ hd rfl rfl;have u:=fun b u=>j.blk 0 _ hd b rfl rfl rfl u
   let I:Nat→Prop:=fun b=>ok' b∨D8 hd.v=some b
   refine⟨hd.v,I,[],rfl,⟨j.fr,fun b h=>.inl (j.yR b h),?_,?_,by intro k v O;subst M;simp at O,rfl,fun k e h q=>VI,fun k e h b q=>VI,fun k k' e e' h h' b q=>VI⟩,.d _ _ (mG z (fun b h=>.inl h) (fun b h=>.inr h))⟩
   ·rintro b (h|h)
    ·exact j.yS b h
    exact .inr (u b h).2.2
   rintro b (h|h)
   ·exact j.kL b h
   exact(u b h).2.1
def aii (es E':List Ar) (j:E'.all Ar.closed=true):LW [] es E'=es++E':=by
 unfold LW;simp only[List.findIdx?_nil,Md,vg];rw[adR j];congr 1;apply ZB;intro i;simp only[JC,List.getElem?_zipIdx];cases es[i]? <;>rfl
def aQv {P:Program} {o:Oper} {es:List Ar} {f:FuncId} {ops:Array Operand} {ats:Array TypeId} {eH gK:List AY} {j res':AY} {E':List Ar} (u:Am P f gK [] j E') (z:Dl P f=true) (m:E'.all Ar.closed=true)
 (ha:Mc [] eH gK) (hl:ops.toList.length=eH.length) (I:j.up [] es.length=res') (J:o.op=.call { callee:=.value (.func f),args:=ops,argTypes:=ats }):BU P o (F9 ops.toList eH) es res' (es++E'):=by
 have :=aSD (es:=es) [] u z (by
  have q:E'.all (Ar.aor [] es.length)=true:=by
   rw[DT]at m ⊢;exact fun e L=>afe (m e L)
  simp[RY,q]) (fun i s h=>I8) ha hl J
 rw[aii _ _ m,I]at this;exact this
def adM {P:Program} {o:Oper} {es:List Ar} {f:FuncId} {ops:Array Operand} {ats:Array TypeId} {eH gK:List AY} {j res':AY} (m:Am P f gK [] j []) (q:Dl P f=true)
 (ha:Mc [] eH gK) (hl:ops.toList.length=eH.length) (u:j.up [] es.length=res') (z:o.op=.call { callee:=.value (.func f),args:=ops,argTypes:=ats }):BU P o (F9 ops.toList eH) es res' es:=by
 have :=aQv (es:=es) m q rfl ha hl u z;rw[P6]at this;exact this
section
variable {P : Program} {σ : Ak} {Q : Exit → Ak → Prop}
def aK9 (P:Program) (σ:Ak):ResultVar→AY→Prop
 | .tmp t,x=>x=σ.slots.getD t .junk
 | .cell t T,x=>∃k cs agg n,σ.slots.getD t .junk=.ptr k 0∧σ.ents[k]? =some (.box cs)∧cs.all AY.Az=true∧EL P T agg n∧n≤cs.length∧(agg=false→n=1)∧x=.d (Pv agg (Iw cs) 0 n)
def WV {P:Program} {σ:Ak} {t:Tmp} {x:AY} (h:x=σ.slots.getD t .junk):aK9 P σ (.tmp t) x:=h
def Xg (P:Program) (σ:Ak):List ResultVar→List AY→Prop
 |r::rs,x::xs=>aK9 P σ r x∧Xg P σ rs xs
 | [],[]=>True
 |_,_=>False
def iR :List AY→AY
 | [x]=>x
 |xs=>.fB xs
def aTs (P:Program) (fn:Func) (j:AY) (E':List Ar):Exit→Ak→Prop
 | .ret,σ=>∃xs π,Xg P σ fn.results.toList xs∧Us σ.base σ.ents π=true∧j=(iR xs).back π∧E'=Rs σ.ents π
 | .normal,σ=>∃xs π,Xg P σ fn.results.toList xs∧Us σ.base σ.ents π=true∧j=(iR xs).back π∧E'=Rs σ.ents π
 |_,_=>False
def aNB (tmps:Array Value):ResultVar→Sem Value
 | .tmp t=>pure (tmps.getD t undef)
 | .cell t T=>do loadVar T (←asAddr (tmps.getD t undef))
def aqV {C:EN} {ok:Nat→Prop} {H:List BO} {a:Act} {w:World} (h:Holds C ok H σ a w) {r:ResultVar} {x:AY} (j:aK9 P σ r x):
 ∃v,(aNB a.tmps r).run P w=.ok v w∧R ok w H x v:=by
 cases r with
 |tmp t=>
  obtain rfl:=j;exact⟨_,rfl,h.avz t⟩
 |cell t T=>
  obtain⟨k,cs,agg,n,hs,J,hd,L,hn,M,rfl⟩:=j;have q:=hs▸h.avz t;obtain⟨O,U,m⟩:=Fz h.mem.ent h.mem.hlen J;obtain⟨b,z,Y,Z,hc⟩:=aNW m hd;generalize hu:a.tmps.getD t undef=u at q;cases q with
  |ptr _ _ b' s I=>
   rw[U]at I;obtain rfl:=CO I;simp at z;subst z;show ∃v,((do loadVar T (←asAddr (a.tmps.getD t undef)):Sem Value)).run P w=.ok v w∧_;rw[hu];obtain⟨v,j,hD⟩:=aEt L (off:=0) (by rw[uw];omega) M Y Z hc;refine⟨v,?_,.d _ _ hD⟩;simp only[Instr.loadAt,Instr.sureAddr,FD,GK,FU,JI]at j;simp only[asAddr,FD,GK,FU];exact j
def aUR {C:EN} {ok:Nat→Prop} {H:List BO} {a:Act} {w:World} (h:Holds C ok H σ a w):∀(rs:List ResultVar) (xs:List AY),Xg P σ rs xs→
 ∃vs:List Value,(rs.mapM (aNB a.tmps)).run P w=.ok vs w∧vs.length=xs.length∧∀i,i<xs.length→R ok w H (xs.getD i .junk) (vs.getD i undef)
 | [],[],_=>⟨[],rfl,rfl,fun i hi=>OE⟩
 | [],_::_,h'=>h'.elim
 |_::_,[],h'=>h'.elim
 |r::rs,x::xs,h'=>by
  obtain⟨v,q,u⟩:=aqV (P:=P) h h'.1;obtain⟨vs,j,hl,m⟩:=aUR h rs xs h'.2;refine⟨v::vs,?_,cV,fun i hi=>?_⟩
  ·simp only[List.mapM_cons,FD,q,j,FU,GK]
  cases i with
  |zero=>exact u
  |succ i=>simpa using m i Fp
def alO {C:EN} {ok:Nat→Prop} {H:List BO} {a:Act} {w:World} (h:Holds C ok H σ a w) {fn:Func} {xs:List AY} (z:Xg P σ fn.results.toList xs):
 ∃v,(results fn a.tmps).run P w=.ok v w∧R ok w H (iR xs) v:=by
 obtain⟨vs,q,hl,j⟩:=aUR (P:=P) h _ _ z
 have I:(results fn a.tmps).run P w=.ok (if h:vs.toArray.size=1 then vs.toArray[0]else .tuple vs.toArray) w:=by
  have e:results fn a.tmps=(do let vs ←fn.results.mapM (aNB a.tmps);pure (if h:vs.size=1 then vs[0]else .tuple vs)):=rfl;rw[e,aOD];simp only[FD,sF,q,FU,GK]
 refine⟨_,I,?_⟩
 match xs,hl,j with
 | [x],hl,j=>
   have m:vs.toArray.size=1:=MH
   rw[dif_pos m];have :=j 0 Ap
   have e:vs.getD 0 undef=vs.toArray[0]:=by
    have :0<vs.length:=cV
    simp[List.getD,this]
   rw[e]at this;exact this
 | [],hl,j=>
   have m:¬vs.toArray.size=1:=by simp at hl;simp[hl]
   rw[dif_neg m];exact .fB [] _ MH (fun i hi=>OE)
 |x::y::xs,hl,j=>
  have m:¬vs.toArray.size=1:=by simp at hl;simp[hl]
  rw[dif_neg m];refine .fB _ _ MH (fun i hi=>?_);have :=j i hi;have u:i<vs.length:=AA
  have e:vs.toArray.getD i undef=vs.getD i undef:=by simp[Array.getD,List.getD,u]
  rw[e];exact this
def ajw {w:World} {D:Nat} {x:Option (List Deferred)} (h:w.heap[D]? =some (.deferred x)) (o:Nat):w.cell? ⟨D,o,none⟩=none:=by
 unfold World.cell?;rw[h]
def Holds.take {C:EN} {ok:Nat→Prop} {H:List BO} {σ:Ak} {a:Act} {w:World} (hC:∀b,C.ok0 b→b<C.w0.heap.size) (h:Holds C ok H σ a w) {D:Nat} {Ds:List Nat} (hd:∀d∈Ds,ok d∧C.w0.heap.size≤d∧w.heap[d]? =some (.deferred (some [])))
 (hD:ok D∧C.w0.heap.size≤D∧w.heap[D]? =some (.deferred (some []))) (I:(D::Ds).Nodup):
 ∃ok',Holds C ok' H σ { a with defers:=Ds.map fun D=>{ target:=.collected D,args:= #[] } } (w.putObj D (.deferred none))∧∀d∈Ds,ok' d∧C.w0.heap.size≤d∧(w.putObj D (.deferred none)).heap[d]? =some (.deferred (some [])):=by
 obtain⟨h1,h2,Z⟩:=hD;have m:∀b,b≠D→(w.putObj D (.deferred none)).heap[b]? =w.heap[b]? :=fun b j=>XR j;have J:∀b o,ok b→(w.cell? ⟨b,o,none⟩).isSome=true→ok b∧b≠D:=fun b o j L=>⟨j,fun e=>by subst e;rw[ajw Z]at L;cases L⟩
 have hg:ES (fun b=>ok b∧b≠D) w (fun b=>ok b∧b≠D) (w.putObj D (.deferred none)):=fun b j=>⟨j,m b j.2⟩
 have U:∀(k:Nat) (e:Ar) (hd:BO) (b:Nat),σ.ents[k]? =some e→e.live=true→H[k]? =some hd→D8 hd.v=some b→b≠D:=fun k e hd b u hl z j Y=>(h.mem.blk k e hd b u hl z j).1 (Y▸h1)
 have M:∀d∈Ds,(ok d∧d≠D)∧C.w0.heap.size≤d∧(w.putObj D (.deferred none)).heap[d]? =some (.deferred (some [])):=fun d q=>by
  have O:d≠D:=fun e=>(Jy.1 I).1 (e▸q);exact⟨⟨(hd d q).1,O⟩,(hd d q).2.1,by rw[m d O];exact(hd d q).2.2⟩
 refine⟨fun b=>ok b∧b≠D,⟨⟨⟨h.mem.fr.os,h.mem.fr.tape,h.mem.fr.output,by simpa[World.putObj]using h.mem.fr.size,fun k hk hX=>by rw[m k AA];exact h.mem.fr.block k hk hX⟩,fun b j=>⟨h.mem.yR b j,fun e=>by have :=hC b j;omega⟩,fun b j=>h.mem.yS b j.1,fun b j=>by simpa[World.putObj]using h.mem.kL b j.1,h.mem.names,h.mem.hlen,?_,?_,?_⟩,h.size,⟨Ds,rfl,(Jy.1 I).2,M⟩,h.base,fun t ht=>((h.slot t ht).shrink J).mono hg (.refl _)⟩,M⟩
 ·intro k e hd u z;exact((h.mem.ent k e hd u z).shrink J (fun b ms c j L=>⟨j,fun e=>by subst e;rw[Z]at L;cases L⟩)).mono hg (.refl _) fun hl b j=>m b (U k e hd b u hl z j)
 ·intro k e hd b u hl z j;obtain⟨h4,h5,h6⟩:=h.mem.blk k e hd b u hl z j;exact⟨fun hx=>h4 hx.1,by simpa[World.putObj]using h5,h6⟩
 exact h.mem.E5
def aHn {fn:Func} {Rr:Ending→World→Prop} {C:EN} (q:∀b,C.ok0 b→b<C.w0.heap.size) {H:List BO} {σ:Ak}
 (u:∀ok a w,Holds C ok H σ a w→∃v,(results fn a.tmps).run P w=.ok v w∧Rr (.returned v) w):∀(Ds:List Nat) {ok:Nat→Prop} {a:Act} {w:World},Holds C ok H σ a w→(∀d∈Ds,ok d∧C.w0.heap.size≤d∧w.heap[d]? =some (.deferred (some [])))→Ds.Nodup→
  LeavesInM (Iz none) 0 P fn a.tmps Rr (Ds.map fun D=>{ target:=.collected D,args:= #[] }) .returning w
 | [],ok,a,w,h,_,_=>u ok a w h
 |D::Ds,ok,a,w,h,hd,z=>by
  obtain⟨ok',h',j⟩:=h.take q (fun d m=>hd d (FW _ m)) (hd D (Ep ..)) z;have I:=aHn q u Ds h' j (Jy.1 z).2;exact⟨Ap,.inl ⟨D,_,rfl,run_takeDeferred (hd D (Ep ..)).2.2,I⟩⟩
def Am.aN {f:FuncId} {fn:Func} {c:Code} {args:List AY} {E E':List Ar} {q:AY} (hf:P.funcs[f]? =some fn) (hb:fn.body=some c)
 (h:AP P c (.enter args fn.ntmps E) (aTs P fn q E')):Am P f args E q E':=by
 intro ok X H w j I hs ha;refine(aA3 (ro:=none) (n:=0)).1 (aNo hf hb trivial (Uc (h.run none (.inl rfl) ⟨w,ok,X,H⟩ ok H _ w ?_) ?_) rfl)
 ·refine⟨I,?_,.nil _ _ _,I.hlen,fun t ht=>?_⟩
  ·simp[Ak.enter,hs]
  simp only[Ak.enter];by_cases e:t<args.length
  ·have J:(args++List.replicate (fn.ntmps-args.length) AY.junk).getD t .junk=args.getD t .junk:=aMp
   have e2:(j++Array.replicate (fn.ntmps-j.size) undef).getD t undef=j.getD t undef:=by
    simp[H8,dc (show t<j.size by omega)]
   rw[J,e2];exact ha t e
  have J:(args++List.replicate (fn.ntmps-args.length) AY.junk).getD t .junk=.junk:=by
   simp only[List.getD,Jd (Uk e),aNg];split<;>rfl
  rw[J];exact .junk _
 rintro e a' w' ⟨ok',H',σ',h1,L⟩;obtain⟨Ds,M,O,U⟩:=h1.defers
 have key:∀(x:List AY) (π:List (Nat×Bool)),Xg P σ' fn.results.toList x→Us σ'.base σ'.ents π=true→q=(iR x).back π→E'=Rs σ'.ents π→
  LeavesInM (Iz none) 0 P fn a'.tmps (fun e w'=>∃v ok' H',e=.returned v∧Cb ⟨w,ok,X,H⟩ ok' H' E' w'∧R ok' w' H' q v) a'.defers .returning w':=by
  rintro x π z m rfl rfl;rw[M];refine aHn (P:=P) (C:=⟨w,ok,X,H⟩) I.kL (fun Y a2 w2 u=>?_) Ds h1 U O;obtain⟨v,hv,hR⟩:=alO (P:=P) u z;exact⟨v,hv,v,Y,_,rfl,u.mem.norm π (u.base▸m),hR.back π⟩
 cases e with
 |ret=>obtain⟨x,π,z,m,u,Z⟩:=L;exact key x π z m u Z
 |normal=>obtain⟨x,π,z,m,u,Z⟩:=L;exact key x π z m u Z
 |_=>exact L.elim
def Ac {x y:Code} (j:AP P x σ (Ko (fun s=>AP P y s Q) Q)):AP P (.seq x y) σ Q:=AP.seq _ j (fun _ h=>h)
def DN {x y:Code} (K:Ak→Prop) (j:∀s,K s→AP P y s Q) (m:(∀s,K s→AP P y s Q)→AP P x σ (Ko (fun s=>AP P y s Q) Q)):AP P (.seq x y) σ Q:=AP.seq _ (m j) (fun _ h=>h)
def Ql {c:Operand} {x y:Code} (j:σ.get c=.d (.lit (.bool true))) (h:AP P x σ Q):AP P (.cond c x y) σ Q:=AP.cond true j (fun _=>h) (fun h=>GL)
def NM {c:Operand} {x y:Code} (j:σ.get c=.d (.lit (.bool false))) (h:AP P y σ Q):AP P (.cond c x y) σ Q:=AP.cond false j (fun h=>GL) (fun _=>h)
def Gt {id:Nat} {ops:Array Oper} {y:Code} {σ':Ak} {rs:List AY} {ess:List (List Ar)} {bs:List Bool} (q:P.follows .mixedOrders=true) (j:(Vs ops&&VX ops&&V9 ops σ.slots.length&&X9 ops)=true) (m:Xj ops bs=true)
 (h:Ew P ops ops.toList σ rs ess bs σ') (u:AP P y σ' Q):AP P (.seq (.region id ops true) y) σ Q:=
 AP.seq (fun s=>s=σ') (.draw q j m h rfl) (fun _ e=>e▸u)
end
section
variable {P : Program} {o : Oper} {es : List Ar}
def aqQ {x:Operand} {t:TypeId} {agg:Bool} {n off:Nat} {cs:List D} {y:D} (j:y=Pv agg cs off n) (m:EL P t agg n) (q:off+n≤cs.length) (u:agg=false→n=1) (z:o.op=.load t x):BU P o [(x,.d (.ref cs off))] es (.d y) es:=j▸ah6 m q u z
def arp {x:Operand} {t:TypeId} {agg:Bool} {k n off:Nat} {cs:List AY} {y:D} (j:y=Pv agg (Iw cs) off n) (m:es[k]? =some (.box cs)) (hd:cs.all AY.Az=true) (q:EL P t agg n) (u:off+n≤cs.length) (z:agg=false→n=1) (I:o.op=.load t x):
 BU P o [(x,.ptr k off)] es (.d y) es:=j▸anA m hd q u z I
def akR {x:Operand} {t:TypeId} {f off n:Nat} {agg:Bool} {cs:List D} {y:D} (j:y=Pv agg cs off n) (m:mJ P t f off agg n=true) (q:off+n≤cs.length) (u:agg=false→n=1) (z:o.op=.field t x f):BU P o [(x,.d (.agg cs))] es (.d y) es:=j▸apS m q u z
def agw {t:TypeId} {m:Array (Nat×Operand)} {j:List (Nat×Nat)} {z:Value} {y:D} (q:J8 P t j z) (vs:List AY) (u:o.op=.build t m) (I:y=.agg (Iw (Jm (fun(i:Nat)=>j[i]?) (FI z) m.toList vs))) (J:Nl (fun(i:Nat)=>j[i]?) (FI z).length m.toList vs=true)
 (hd:(Jm (fun(i:Nat)=>j[i]?) (FI z) m.toList vs).all AY.Az=true):BU P o (Nb m.toList vs) es (.d y) es:=I▸asH q vs J hd u
def anP {s t:TypeId} {x:Operand} {j k:IntKind} {n:Int} (hs:P.underlying s=some (.int j)) (m:P.underlying t=some (.int k)) (q:o.op=.convert s t x):BU P o [(x,.d (.lit (.int j n)))] es (.d (.lit (.int k (k.wrap n)))) es:=
 aes q fun w=>by simp[convert,underlying,hs,m,Conv.intToInt]
def ahs {s t:TypeId} {x:Operand} {u:ByteArray} (hs:P.underlying s=some .string) (j:P.underlying t=some .string) (m:o.op=.convert s t x):BU P o [(x,.d (DY u))] es (.d (DY u)) es:=
 aes m fun w=>by simp[convert,underlying,hs,j]
def aql {t t':TypeId} {x y:Operand} {a b:Bool} (j:P.underlying t=some .bool) (m:o.op=.binOp .eql t x y t'):BU P o [(x,.d (DL a)),(y,.d (DL b))] es (.d (DL (a==b))) es:=
 Nk (u:=.bool a) (v:=.bool b) (r:=.bool (a==b)) m (fun w=>by
  show((do pure (.bool (←Op.equal t (.bool a) (.bool b))):Sem Value)).run P w=_
  simp only[FD,run_equal_bool w t a b j,FU,GK]) ⟨rfl,rfl⟩
def aj8 {t t':TypeId} {x y:Operand} {a b:Bool} (j:P.underlying t=some .bool) (m:o.op=.binOp .neq t x y t'):BU P o [(x,.d (DL a)),(y,.d (DL b))] es (.d (DL (!(a==b)))) es:=
 Nk (u:=.bool a) (v:=.bool b) (r:=.bool (!(a==b))) m (fun w=>by
  show((do pure (.bool (!(←Op.equal t (.bool a) (.bool b)))):Sem Value)).run P w=_
  simp only[FD,run_equal_bool w t a b j,FU,GK]) ⟨rfl,rfl⟩
end
def bg {A Rr:Type} (body:(A→Option Rr)→A→Option Rr):Nat→A→Option Rr
 |0,_=>none
 |n+1,a=>body (bg body n) a
def En {P:Program} {σ:Ak} {Q:Exit→Ak→Prop} {m:Code} {A Rr:Type} (S:A→Ak) (body:(A→Option Rr)→A→Option Rr) (r:Rr) (a0:A) (hs:CS σ (S a0)) (h:Go.Proofs.YtldfpencimjjlaaGreat.bg body Af a0=some r)
 (round:∀(J:Ak→Prop) (k:A→Option Rr),(∀σ' a,CS σ' (S a)→k a=some r→J σ')→∀a,body k a=some r→AP P m (S a) (Ko J Q)):AP P (.loop m) σ Q:=by
 refine AP.loop (fun n s=>∃a,CS s (S a)∧Go.Proofs.YtldfpencimjjlaaGreat.bg body n a=some r) Af ⟨a0,hs,h⟩ ?_;rintro n s ⟨a,j,q⟩;refine Cm j ?_;cases n with
 |zero=>cases q
 |succ n=>exact round _ (Go.Proofs.YtldfpencimjjlaaGreat.bg body n) (fun σ' a u z=>⟨n,YE n,a,u,z⟩) a q
def aQ {A B Rr:Type} (body:(A→B→Option Rr)→A→B→Option Rr):Nat→A→B→Option Rr
 |0,_,_=>none
 |n+1,a,b=>body (aQ body n) a b
def EW {P:Program} {σ:Ak} {Q:Exit→Ak→Prop} {q:Code} {A B Rr:Type} (S:A→B→Ak) (body:(A→B→Option Rr)→A→B→Option Rr) (r:Rr) (a0:A) (m:B) (hs:CS σ (S a0 m)) (h:Go.Proofs.YtldfpencimjjlaaGreat.aQ body Af a0 m=some r)
 (round:∀(J:Ak→Prop) (k:A→B→Option Rr),(∀σ' a b,CS σ' (S a b)→k a b=some r→J σ')→∀a b,body k a b=some r→AP P q (S a b) (Ko J Q)):AP P (.loop q) σ Q:=by
 refine AP.loop (fun n s=>∃a b,CS s (S a b)∧Go.Proofs.YtldfpencimjjlaaGreat.aQ body n a b=some r) Af ⟨a0,m,hs,h⟩ ?_;rintro n s ⟨a,b,j,u⟩;refine Cm j ?_;cases n with
 |zero=>cases u
 |succ n=>exact round _ (Go.Proofs.YtldfpencimjjlaaGreat.aQ body n) (fun σ' a b z I=>⟨n,YE n,a,b,z,I⟩) a b u
def ku {A B C Rr:Type} (body:(A→B→C→Option Rr)→A→B→C→Option Rr):Nat→A→B→C→Option Rr
 |0,_,_,_=>none
 |n+1,a,b,c=>body (ku body n) a b c
def jM {P:Program} {σ:Ak} {Q:Exit→Ak→Prop} {u:Code} {A B C Rr:Type} (S:A→B→C→Ak) (body:(A→B→C→Option Rr)→A→B→C→Option Rr) (r:Rr) (a0:A) (m:B) (q:C) (hs:CS σ (S a0 m q)) (h:Go.Proofs.YtldfpencimjjlaaGreat.ku body Af a0 m q=some r)
 (round:∀(J:Ak→Prop) (k:A→B→C→Option Rr),(∀σ' a b c,CS σ' (S a b c)→k a b c=some r→J σ')→∀a b c,body k a b c=some r→AP P u (S a b c) (Ko J Q)):AP P (.loop u) σ Q:=by
 refine AP.loop (fun n s=>∃a b c,CS s (S a b c)∧Go.Proofs.YtldfpencimjjlaaGreat.ku body n a b c=some r) Af ⟨a0,m,q,hs,h⟩ ?_;rintro n s ⟨a,b,c,j,z⟩;refine Cm j ?_;cases n with
 |zero=>cases z
 |succ n=>exact round _ (Go.Proofs.YtldfpencimjjlaaGreat.ku body n) (fun σ' a b c I L=>⟨n,YE n,a,b,c,I,L⟩) a b c z
def XY {A B C D Rr:Type} (body:(A→B→C→D→Option Rr)→A→B→C→D→Option Rr):Nat→A→B→C→D→Option Rr
 |0,_,_,_,_=>none
 |n+1,a,b,c,d=>body (XY body n) a b c d
def AP.XY {P:Program} {σ:Ak} {Q:Exit→Ak→Prop} {z:Code} {A B C D Rr:Type} (S:A→B→C→D→Ak) (body:(A→B→C→D→Option Rr)→A→B→C→D→Option Rr) (r:Rr) (a0:A) (m:B) (q:C) (u:D) (hs:CS σ (S a0 m q u)) (h:Go.Proofs.YtldfpencimjjlaaGreat.XY body Af a0 m q u=some r)
 (round:∀(J:Ak→Prop) (k:A→B→C→D→Option Rr),(∀σ' a b c d,CS σ' (S a b c d)→k a b c d=some r→J σ')→∀a b c d,body k a b c d=some r→AP P z (S a b c d) (Ko J Q)):AP P (.loop z) σ Q:=by
 refine AP.loop (fun n s=>∃a b c d,CS s (S a b c d)∧Go.Proofs.YtldfpencimjjlaaGreat.XY body n a b c d=some r) Af ⟨a0,m,q,u,hs,h⟩ ?_;rintro n s ⟨a,b,c,d,j,I⟩;refine Cm j ?_;cases n with
 |zero=>cases I
 |succ n=>exact round _ (Go.Proofs.YtldfpencimjjlaaGreat.XY body n) (fun σ' a b c d L M=>⟨n,YE n,a,b,c,d,L,M⟩) a b c d I
def BR {A B C D E Rr:Type} (body:(A→B→C→D→E→Option Rr)→A→B→C→D→E→Option Rr):Nat→A→B→C→D→E→Option Rr
 |0,_,_,_,_,_=>none
 |n+1,a,b,c,d,e=>body (BR body n) a b c d e
def aA1 {P:Program} {σ:Ak} {Q:Exit→Ak→Prop} {I:Code} {A B C D E Rr:Type} (S:A→B→C→D→E→Ak) (body:(A→B→C→D→E→Option Rr)→A→B→C→D→E→Option Rr) (r:Rr) (a0:A) (m:B) (q:C) (u:D) (z:E) (hs:CS σ (S a0 m q u z)) (h:Go.Proofs.YtldfpencimjjlaaGreat.BR body Af a0 m q u z=some r)
 (round:∀(J:Ak→Prop) (k:A→B→C→D→E→Option Rr),(∀σ' a b c d e,CS σ' (S a b c d e)→k a b c d e=some r→J σ')→∀a b c d e,body k a b c d e=some r→AP P I (S a b c d e) (Ko J Q)):AP P (.loop I) σ Q:=by
 refine AP.loop (fun n s=>∃a b c d e,CS s (S a b c d e)∧Go.Proofs.YtldfpencimjjlaaGreat.BR body n a b c d e=some r) Af ⟨a0,m,q,u,z,hs,h⟩ ?_;rintro n s ⟨a,b,c,d,e,j,L⟩;refine Cm j ?_;cases n with
 |zero=>cases L
 |succ n=>exact round _ (Go.Proofs.YtldfpencimjjlaaGreat.BR body n) (fun σ' a b c d e M O=>⟨n,YE n,a,b,c,d,e,M,O⟩) a b c d e L
def FB {A B C D E F Rr:Type} (body:(A→B→C→D→E→F→Option Rr)→A→B→C→D→E→F→Option Rr):Nat→A→B→C→D→E→F→Option Rr
 |0,_,_,_,_,_,_=>none
 |n+1,a,b,c,d,e,f=>body (FB body n) a b c d e f
def AP.FB {P:Program} {σ:Ak} {Q:Exit→Ak→Prop} {L:Code} {A B C D E F Rr:Type} (S:A→B→C→D→E→F→Ak) (body:(A→B→C→D→E→F→Option Rr)→A→B→C→D→E→F→Option Rr) (r:Rr) (a0:A) (m:B) (q:C) (u:D) (z:E) (I:F) (hs:CS σ (S a0 m q u z I)) (h:Go.Proofs.YtldfpencimjjlaaGreat.FB body Af a0 m q u z I=some r)
 (round:∀(J:Ak→Prop) (k:A→B→C→D→E→F→Option Rr),(∀σ' a b c d e f,CS σ' (S a b c d e f)→k a b c d e f=some r→J σ')→∀a b c d e f,body k a b c d e f=some r→AP P L (S a b c d e f) (Ko J Q)):AP P (.loop L) σ Q:=by
 refine AP.loop (fun n s=>∃a b c d e f,CS s (S a b c d e f)∧Go.Proofs.YtldfpencimjjlaaGreat.FB body n a b c d e f=some r) Af ⟨a0,m,q,u,z,I,hs,h⟩ ?_;rintro n s ⟨a,b,c,d,e,f,j,M⟩;refine Cm j ?_;cases n with
 |zero=>cases M
 |succ n=>exact round _ (Go.Proofs.YtldfpencimjjlaaGreat.FB body n) (fun σ' a b c d e f O U=>⟨n,YE n,a,b,c,d,e,f,O,U⟩) a b c d e f M
def aaW {A B C D E F G Rr:Type} (body:(A→B→C→D→E→F→G→Option Rr)→A→B→C→D→E→F→G→Option Rr):Nat→A→B→C→D→E→F→G→Option Rr
 |0,_,_,_,_,_,_,_=>none
 |n+1,a,b,c,d,e,f,g=>body (aaW body n) a b c d e f g
def AP.aaW {P:Program} {σ:Ak} {Q:Exit→Ak→Prop} {M:Code} {A B C D E F G Rr:Type} (S:A→B→C→D→E→F→G→Ak) (body:(A→B→C→D→E→F→G→Option Rr)→A→B→C→D→E→F→G→Option Rr) (r:Rr) (a0:A) (m:B) (q:C) (u:D) (z:E) (I:F) (L:G) (hs:CS σ (S a0 m q u z I L)) (h:Go.Proofs.YtldfpencimjjlaaGreat.aaW body Af a0 m q u z I L=some r)
 (round:∀(J:Ak→Prop) (k:A→B→C→D→E→F→G→Option Rr),(∀σ' a b c d e f g,CS σ' (S a b c d e f g)→k a b c d e f g=some r→J σ')→∀a b c d e f g,body k a b c d e f g=some r→AP P M (S a b c d e f g) (Ko J Q)):AP P (.loop M) σ Q:=by
 refine AP.loop (fun n s=>∃a b c d e f g,CS s (S a b c d e f g)∧Go.Proofs.YtldfpencimjjlaaGreat.aaW body n a b c d e f g=some r) Af ⟨a0,m,q,u,z,I,L,hs,h⟩ ?_;rintro n s ⟨a,b,c,d,e,f,g,j,O⟩;refine Cm j ?_;cases n with
 |zero=>cases O
 |succ n=>exact round _ (Go.Proofs.YtldfpencimjjlaaGreat.aaW body n) (fun σ' a b c d e f g U Y=>⟨n,YE n,a,b,c,d,e,f,g,U,Y⟩) a b c d e f g O
section
variable {P : Program} {o : Oper} {es : List Ar} {α : Type}
def ata {b:Nat} {z:α} {n c:Int} {r:List α} (h:Il b z n c=some r):(0≤n∧n≤c∧(b:Int)*c≤140737488355328)∧r=List.replicate n.toNat z:=by
 unfold Il at h;split at h
 ·exact⟨‹_›,(CO h).symm⟩
 cases h
def XA {x y:Operand} {t e:TypeId} {size j:Nat} {m:Value} {n c:Int} {r:List α} (enc:α→D) (z:α) (h:Il j z n c=some r) (hE:GN P t e size j) (hz:(P.info? e).bind (·.zero)=some m) (h1:m.cells.all (·.oneCell')=true) (L:m.cells.size=size)
 (q:FI m=(enc z).cells.map .d) (hb:0<j) (ho:o.op=.makeSlice t x y):BU P o [(x,.d (Aa n)),(y,.d (Aa c))] es (.aZ es.length) (es++[.arr e size (List.map enc r)]):=
 .eff fun C ok H a w hm hn=>by
  obtain⟨⟨h0,hnc,hbc⟩,rfl⟩:=ata h;have hx:=(Ea hn).1.lit;have M:=(Ea hn).2.lit;simp only at hx M;obtain⟨i,z',hi,hz',hs,hby,_⟩:=hE.info;have hzv:i.zero=some m:=by rw[hi]at hz;simpa using hz
  have O:c≤9223372036854775807:=by
   have h2:(1:Int)*c≤(j:Int)*c:=Int.mul_le_mul_of_nonneg_right AA AA;omega
  have hr:=run_make (P:=P) w t e i m hE.und hi hzv .i64 .i64 n c h0 hnc (by rw[hby];omega) O;rw[hs]at hr
  let cells:=madeCells m.cells (c.toNat*size)
  have U:=hE.pos;have u:cells.size=c.toNat*size:=size_madeCells _ _;have Y:(FI m).length=size:=by simp[FI,L]
  have I:∀y∈List.map enc (List.replicate n.toNat z),y.cells.length=size:=by
   intro y M;simp only[List.map_replicate,List.mem_replicate]at M;rw[M.2,←Y,q];simp
  have J:=Ro I;have hlen:(List.map enc (List.replicate n.toNat z)).length=n.toNat:=Ap
  rw[hlen]at J;have aF0:n.toNat*size≤c.toNat*size:=Js _ AA
  have hrs:∀{ok:Nat→Prop} {w:World} {H:List BO},Fg ok w H (flat (List.map enc (List.replicate n.toNat z))) (cells.toList.take (n.toNat*size)):=by
   intro ok w H;refine⟨by rw[J,FY,TM,u];omega,fun k hk=>?_⟩;rw[J]at hk;have hd:=aGY k size;have hq:k/size<n.toNat:=nS (by rwa [UZ]at hk);have hm':k % size<size:=iT _ U;have e0:k=k/size*size+k % size:=by rw[UZ];exact hd.symm
   have e1:(flat (List.map enc (List.replicate n.toNat z))).getD k .junk=.d ((enc z).cells.getD (k % size) DK):=by
    have hg:=flat_get I (k/size) (k % size) (by rw[hlen];exact hq) hm';rw[←e0]at hg;rw[hg];congr 3;simp[List.getD,hq]
   have hcl:(enc z).cells.length=size:=by rw[←Y,q];simp
   have e2:(AY.d ((enc z).cells.getD (k % size) DK))=(FI m).getD (k % size) .junk:=by
    rw[q];have :k % size<(enc z).cells.length:=AA
    simp[List.getD,this]
   have Z:k % size<m.cells.size:=AA
   have e3:(cells.toList.take (n.toNat*size)).getD k undef=m.cells[k % size]:=by
    have hk2:k<c.toNat*size:=AA
    have e:cells.toList=(List.range (c.toNat*size)).map fun i=>m.cells[i % m.cells.size]! :=by
     show(madeCells m.cells (c.toNat*size)).toList=_;simp[madeCells]
    rw[e];simp only[List.getD,Na hk];simp[hk2,L];rw[og m.cells (k % size) Z]
   rw[e1,e2,e3];have e4:(FI m).getD (k % size) .junk=.d (OX m.cells[k % size]):=by simp[FI,List.getD,Z]
   rw[e4];exact⟨oG ((QW.1 h1) _ Ap),.d _ _ (gX _)⟩
  obtain⟨h2,h3⟩:=hm.push (.cells cells e) ⟨.slice (some ⟨w.heap.size,0,none⟩) n.toNat c.toNat,size⟩ (.arr e size (List.map enc (List.replicate n.toNat z))) (fun b hb=>by simpa[D8]using hb.symm) (by
   refine⟨rfl,I,cells.toList.take (n.toNat*size),⟨?_,.inr ⟨w.heap.size,c.toNat,cells,by rw[hlen],EZ _,dA w _,by rw[hlen];omega,aEY,aT u.symm,by rw[hlen]⟩⟩,hrs⟩
   rw[hlen,FY,TM,u];omega)
  refine⟨.slice (some ⟨w.heap.size,0,none⟩) n.toNat c.toNat,_,ok,_,.inl ?_,h3,Names.push _ _,h2,.aZ _ _ _ _ size aI4⟩;simp only[execOp,ho,hx,M,FD,hr,FU,GK];rfl
def gCopy (l m:List α):List α:=m.take l.length++l.drop m.length
def aqF {x y:Operand} {t e:TypeId} {size bytes k:Nat} (enc:α→D) (l m:List α) (hE:GN P t e size bytes) (hk:es[k]? =some (.arr e size (List.map enc l))) (hc:∀a,(enc a).cells.length=size) (ho:o.op=.call { callee:=.builtin .copy,args:= #[x,y],argTypes:= #[t,t] }):
 BU P o [(x,.aZ k),(y,.d (BF enc m))] es .junk (es.set k (.arr e size (List.map enc (gCopy l m)))):=
 .eff fun C ok H a w hm hn=>by
  have hx:=(Ea hn).1;have hy:=(Ea hn).2;simp only at hx hy;obtain⟨h,hh,hok⟩:=Fz hm.ent hm.hlen hk;have hxv:=Ph hx hh;obtain⟨i,z',hi,hz',hs,hby,_⟩:=hE.info;have hu:(underlying t).run P w=.ok (.slice e) w:=aJa
  have hsz:(sizeOf e).run P w=.ok size w:=aMx
  have Y:∀(q:List α),∀y∈q.map enc,y.cells.length=size:=fun q y hy=>aHu
  have hyR:DV ok w (.sl (m.map enc)) (a.eval y):=by cases hy with |d _ _ h=>exact h
  obtain⟨z,U,aFh⟩:=gJ H hyR (Y m);obtain⟨h1,h2,ys,Z,hrs⟩:=hok;have hlm:(m.map enc).length=m.length:=Ap
  have hll:(l.map enc).length=l.length:=Ap
  have hnl:z.length=m.length*size:=by rw[U.len,hlm]
  let n:=Nat.min m.length l.length
  have hlenx:(Builtin.lenOf (a.eval y)).run P w=.ok m.length w:=by
   rcases U.at_ with⟨ad,c,e1,_⟩|⟨c,e1,e2⟩
   ·rw[e1];simp[Builtin.lenOf]
   rw[e1];rw[hlm]at e2;simp[Builtin.lenOf,e2]
  have J:(Builtin.firstCells size n (a.eval y)).run P w=.ok (z.take (n*size)).toArray w:=by
   rcases U.at_ with⟨ad,c,e1,hcells⟩|⟨c,e1,e2⟩
   ·rw[e1];refine run_firstCells_some (P:=P) w size n ad _ c (z.take (n*size)) ?_ ?_
    ·rw[FY,hnl];have :n*size≤m.length*size:=Js _ (aLU _ _);omega
    intro j v hj;rw[oZ]at hj;split at hj
    ·exact hcells j v hj
    cases hj
   rw[e1];rw[hlm]at e2;have :z=[]:=Gg (by rw[hnl,e2];simp);simp[Builtin.firstCells,this]
  have hone:∀u∈z.take (n*size),u.oneCell'=true:=fun u hu=>U.one u (ig hu);have hn1:n≤m.length:=aLU _ _;have hn2:n≤l.length:=Nat.min_le_right _ _
  have I:(z.take (n*size)).length=n*size:=by
   rw[FY,hnl];have :n*size≤m.length*size:=Js _ hn1;omega
  have hgc:gCopy l m=m.take n++l.drop n:=by
   unfold gCopy;by_cases hle:m.length≤l.length
   ·have e1:n=m.length:=yL hle;rw[e1,QN hle,GI]
   have e1:n=l.length:=Nat.min_eq_right AA;rw[e1,aBm AA,Om]
  have L:(gCopy l m).length=l.length:=by rw[hgc];simp;omega
  rcases Z.2 with⟨hv,hl0⟩|⟨g,cap,M,hv,_,hg,hncap,hcm,hcs,htake⟩
  ·
   rw[hll]at hl0;have hn0:n=0:=AA
   have hl:l=[]:=Gg hl0;have hge:gCopy l m=l:=by rw[hgc,hn0];simp
   rw[hge]
   have hset:es.set k (.arr e size (List.map enc l))=es:=by
    apply ZB;intro j;by_cases hj:k=j
    ·subst hj;have hkl:=(Fb.1 hk).1;rw[List.getElem?_set_self hkl,hk]
    rw[YJ hj]
   rw[hset];refine⟨goInt n,w,ok,H,.inl ?_,.refl _ _,.refl _,hm,.junk _⟩;have e0:Nat.min m.length 0=n:=by rw[hn0];simp
   have hf0:(Builtin.firstCells size 0 (a.eval y)).run P w=.ok #[] w:=by rw[hn0]at J;simpa using J
   simp[execOp,ho,resolve,invoke,builtin,Builtin.copy_,hxv,hv,hu,hlenx,hsz,hf0,hn0]
  ·rw[hll]at hv hncap htake;have hlt:g<w.heap.size:=(G6.1 hg).1
   have hfit:n*size≤M.size:=by
    exact Eh (Js _ AA) hcs
   have hst:=aN0 (P:=P) g 0 e (z.take (n*size)) 0 M w hg (by rw[I];omega) hone;have azJ:∀y∈(gCopy l m).map enc,y.cells.length=size:=Y _
   obtain⟨h3,h4⟩:=hm.upd (e:=.arr e size (List.map enc (gCopy l m))) (w':=w.setRow g (M.toList.take (0+0)++z.take (n*size)++M.toList.drop (0+0+(z.take (n*size)).length)).toArray) hk rfl hh (by rw[hv];rfl) rfl rfl rfl aPJ (fun c hc=>aI3 _ _ _ _ hc) (fun hg'=>by
    refine⟨h1,azJ,z.take (n*size)++ys.drop (n*size),?_,?_⟩
    ·refine⟨?_,.inr ⟨g,cap,_,by rw[CM,L];exact hv,EZ _,oH w g M _ e (0,0) hg,by rw[CM,L];exact hncap,hcm,?_,?_⟩⟩
     ·simp only[EG,I,Kw,Z.1,CM,L];have :n*size≤l.length*size:=Js _ hn2;omega
     ·simp only[PG,aAn,IV,JI,I];simp only[kD,EG,I,Kw,TM];rw[show n*size+(M.size-n*size)=M.size by omega];exact hcs
     simp only[PG,aAn,IV,JI,I,aBY];rw[CM,L,←htake];rw[aGt,I,QN (by rw[I];exact Js _ hn2)];congr 1;rw[List.drop_take]
    have ha:=aFh.mono hg' (Names.refl H);have hb:=hrs.mono hg' (Names.refl H);have aFi:=Ro (Y l);have aFj:=Ro (Y m);have aC5:=Ro azJ;have aF1:n*size≤l.length*size:=Js _ hn2;have aF2:n*size≤m.length*size:=Js _ hn1;refine⟨by simp only[aC5,EG,I,Kw,Z.1,CM,L];omega,fun j hj=>?_⟩;rw[aC5,CM,L]at hj;have hpos:=hE.pos;have e0:j=j/size*size+j % size:=by rw[UZ];exact(aGY j size).symm
    have hq:j/size<l.length:=nS (by rwa [UZ]at hj);have hr:j % size<size:=iT _ hpos;have hg3:=flat_get azJ (j/size) (j % size) (by rw[CM,L];exact hq) hr;rw[←e0]at hg3;by_cases hjn:j<n*size
    ·have hqn:j/size<n:=nS (by rwa [UZ]at hjn);have hg2:=flat_get (Y m) (j/size) (j % size) (by rw[hlm];omega) hr;rw[←e0]at hg2
     have O:((gCopy l m).map enc).getD (j/size) DK=(m.map enc).getD (j/size) DK:=by
      rw[hgc];simp only[List.getD,JU];rw[Gj DU,Ym,Na hqn]
     rw[hg3,O,←hg2]
     have e5:(z.take (n*size)++ys.drop (n*size)).getD j undef=z.getD j undef:=by
      simp only[List.getD];rw[Gj (by rw[I];exact hjn),Na hjn]
     rw[e5];exact ha.2 j (by rw[aFj,hlm];omega)
    have hqn:n≤j/size:=(Nat.le_div_iff_mul_le hpos).2 AA;have hg1:=flat_get (Y l) (j/size) (j % size) (by rw[hll];exact hq) hr;rw[←e0]at hg1
    have O:((gCopy l m).map enc).getD (j/size) DK=(l.map enc).getD (j/size) DK:=by
     rw[hgc];have hlt':(m.take n).length=n:=DU
     simp only[List.getD,JU];rw[Jd (by rw[CM,hlt'];exact hqn),CM,hlt',cG,Pq];congr 2;omega
    rw[hg3,O,←hg1]
    have e5:(z.take (n*size)++ys.drop (n*size)).getD j undef=ys.getD j undef:=by
     simp only[List.getD];rw[Jd (by rw[I];omega),I,Pq];congr 2;omega
    rw[e5]
    exact hb.2 j (by rw[aFi,hll];omega))
   refine⟨goInt n,_,ok,H,.inl ?_,h4,.refl _,h3,.junk _⟩;have e0:Nat.min m.length l.length=n:=rfl;simp[execOp,ho,resolve,invoke,builtin,Builtin.copy_,hxv,hv,hu,hlenx,hsz,e0,J];rw[hst];simp
end
def BZ (s:ByteArray):List Int:=s.data.toList.map fun c=>(c.toNat:Int)
def IK (s:ByteArray):(BZ s).length=s.size:=by unfold BZ;rw[CM,TM];rfl
section
variable {P : Program} {o : Oper} {es : List Ar} {α : Type}
def aCn :∀(l:List Int),flat (l.map Eo)=l.map fun n=>.d (Eo n)
 | []=>rfl
 |n::l=>by rw[Ig,WR,aCn l];rfl
def anY {w:World} {t u ty e:TypeId} {i:TypeInfo} (ht:P.underlying t=some (.slice e)) (hu:P.underlying u=some .string) (hi:P.info? e=some i) (hz:i.zero=some (.int .u8 0)) (j:i.size=1) (Y:i.bytes=1)
 {v:Value} {n:Nat} {xs:List Value} (q:nG w e 1 v n xs) (s:ByteArray) (M:n+s.size≤maxLen) (J:n+s.size≤140737488355328):
 ∃v' w',(Builtin.append_ #[t,u] ty #[v,.string s]).run P w=.ok v' w'∧nG w' e 1 v' (n+s.size) (xs++Lib.strCells s)∧w.grownBy w' v.ownBlock∧(∀U,D8 v'=some U→D8 v=some U∨w.heap.size≤U):=by
 have L:xs.length=n:=by simpa using q.1
 have hlen:(xs++Lib.strCells s).length=(n+s.size)*1:=by rw[EG,L,aMH,kF]
 rcases q.2 with⟨rfl,rfl⟩|⟨g,cap,Z,rfl,_,hg,hnc,O,hcs,z⟩
 ·have hx:xs=[]:=Gg L;subst hx;obtain⟨v',w',q1,q2,q3,q4⟩:=Lib.run_append_own_string (P:=P) w w.heap.size t u ty e i ht hu hi hz j Y _ 0 [] (aCN w w.heap.size e 1) s M J (Dk _);refine⟨v',w',q1,.of q2,q3,fun U m=>.inr ?_⟩;rcases q2.2 with⟨rfl,_⟩|⟨g2,_,_,rfl,hle,_⟩
  ·simp[D8]at m
  simp[D8]at m;subst m;exact hle
 rw[kF]at hcs z;by_cases I:n+s.size≤cap
 ·have hr:=Lib.run_append_room_string (P:=P) w t u ty e i ht hu hi j g n cap Z hg s I AA;refine⟨_,_,hr,⟨hlen,.inr ⟨g,cap,_,rfl,EZ _,oH w g Z _ e _ hg,I,O,?_,?_⟩⟩,⟨rfl,rfl,rfl,Ap,fun k _ hk=>setRow_other w g k _ (fun e=>hk (by simp[Value.ownBlock,e]))⟩,fun U m=>.inl m⟩
  ·simp only[kD,EG,FY,Kw,TM,aMH];omega
  rw[z,←hlen];exact aN8
 have hr:=Lib.run_append_grow_string (P:=P) w t u ty e i (.int .u8 0) ht hu hi hz ⟨g,0,none⟩ n cap xs (by rw[j];simpa using L) (q.cells (g:=g) rfl) s AA (by unfold maxLen at M;omega) (by rw[Y];exact growslice_fits AA AA);have hge:=grownCap_ge w (n+s.size) cap e;have O:grownCap w (n+s.size) cap e≤maxLen:=grownCap_le_maxLen w (n+s.size) cap e M;refine⟨_,_,hr,⟨hlen,.inr ⟨w.heap.size,_,_,rfl,EZ _,dA w.drew _,hge,O,aT ?_,?_⟩⟩,⟨rfl,rfl,rfl,Ap,fun k hk _=>Jk w.drew _ k hk⟩,fun U m=>.inr (by simp[D8]at m;omega)⟩
 ·have hz1:(Value.int IntKind.u8 0).cells.size=1:=rfl;simp only[Array.size_append,kD,size_zeroCells,hz1,L,aMH];omega
 simp only[Array.toList_append,Hr];rw[←Hr,←hlen];exact aN8
def afU {s x:Operand} {t u e:TypeId} {k:Nat} {l r:List Int} {j:ByteArray} (h:Bz 1 l (BZ j)=some r) (hE:GN P t e 1 1) (hz:(P.info? e).bind (·.zero)=some (.int .u8 0)) (hu:P.underlying u=some .string) (hk:es[k]? =some (.arr e 1 (List.map Eo l)))
 (ho:o.op=.call { callee:=.builtin .append,args:= #[s,x],argTypes:= #[t,u] }):BU P o [(s,.aZ k),(x,.d (DY j))] es (.aZ es.length) (es.set k .dead++[.arr e 1 (List.map Eo r)]):=
 .eff fun C ok H a w hm hn=>by
  obtain⟨rfl,hlen⟩:=aGM h;rw[IK,kF]at hlen;have hs:=(Ea hn).1;have hx:=(Ea hn).2.lit;simp only at hs hx;obtain⟨hd,hh,hok⟩:=Fz hm.ent hm.hlen hk;have hsv:=Ph hs hh;obtain⟨h1,h2,ys,z,hrs⟩:=hok;obtain⟨i,z',hi,hz',hs1,hby,_⟩:=hE.info;have hz2:i.zero=some (.int .u8 0):=by rw[hi]at hz;simpa using hz
  have J:(l.map Eo).length=l.length:=Ap
  have L:(l.map Eo).length+j.size≤maxLen:=by rw[J];unfold maxLen;omega
  obtain⟨v',w',hr,I,M,O⟩:=anY (P:=P) (ty:=o.type) hE.und hu hi hz2 hs1 hby z j L (by rw[J];exact hlen)
  obtain⟨h3,h4⟩:=hm.turn (h':=⟨v',1⟩) (e:=.arr e 1 (List.map Eo (l++BZ j))) hk rfl hh M.os M.tape M.output M.size (fun c hc hne=>M.block c hc (by rw[aNs z];exact fun e=>hne e.symm)) (fun g U=>⟨vF I U,O g U⟩) (fun hgr=>by
   refine⟨rfl,fun y hy=>by obtain⟨q,_,rfl⟩:=Ee.1 hy;rfl,ys++Lib.strCells j,?_,?_⟩
   ·have e:(List.map Eo (l++BZ j)).length=(l.map Eo).length+j.size:=by simp[IK]
    rw[e];exact I
   have Y:=hrs.mono hgr (Names.push H [⟨v',1⟩]);have hfl:(flat (l.map Eo)).length=l.length:=by rw[aCn];simp
   have hcl:(Lib.strCells j)=(BZ j).map (.int .u8):=by unfold Lib.strCells BZ;rw[aI];rfl
   rw[JU,l7,aCn (BZ j),hcl];refine⟨by rw[EG,EG,Y.1,CM,CM],fun i hi=>?_⟩;by_cases m:i<(flat (l.map Eo)).length
   ·have e1:(flat (l.map Eo)++(BZ j).map fun n=>AY.d (Eo n)).getD i .junk=(flat (l.map Eo)).getD i .junk:=by simp[List.getD,Gj m]
    have e2:(ys++(BZ j).map (Value.int .u8)).getD i undef=ys.getD i undef:=by simp[List.getD,Gj (by rw[Y.1];exact m:i<ys.length)]
    rw[e1,e2];exact Y.2 i m
   have Z:i-(flat (l.map Eo)).length<(BZ j).length:=by rw[EG,CM]at hi;omega
   have e1:(flat (l.map Eo)++(BZ j).map fun n=>AY.d (Eo n)).getD i .junk=.d (Eo (BZ j)[i-(flat (l.map Eo)).length]):=by simp[List.getD,Jd (Uk m),Z]
   have e2:(ys++(BZ j).map (Value.int .u8)).getD i undef=.int .u8 (BZ j)[i-(flat (l.map Eo)).length]:=by simp[List.getD,Jd (by rw[Y.1];omega:ys.length≤i),Y.1,Z]
   rw[e1,e2]
   exact⟨rfl,.d _ _ (.lit _)⟩)
  have hH:(H++[(⟨v',1⟩:BO)])[es.length]? =some ⟨v',1⟩:=aI4
  refine⟨v',w',ok,_,.inl ?_,h4,Names.push _ _,h3,?_⟩
  ·simp[execOp,ho,resolve,invoke,builtin,hx,hsv,hr]
  rcases I.2 with⟨rfl,_⟩|⟨g',c',_,rfl,_⟩
  ·exact .aZ _ _ _ _ 1 hH
  exact .aZ _ _ _ _ 1 hH
def EO (op:BinOp) (k:IntKind) (x y:Int):Int:=
 match op with
 | .and=>k.wrap ((BitVec.ofInt k.bits x&&& BitVec.ofInt k.bits y).toNat)
 | .or=>k.wrap ((BitVec.ofInt k.bits x|||BitVec.ofInt k.bits y).toNat)
 | .xor=>k.wrap ((BitVec.ofInt k.bits x^^^BitVec.ofInt k.bits y).toNat)
 |_=>k.wrap ((BitVec.ofInt k.bits x&&& ~~~(BitVec.ofInt k.bits y)).toNat)
def QK {t t':TypeId} {x y:Operand} {k:IntKind} {u v:Int} (j:o.op=.binOp .and t x y t'):BU P o [(x,.d (.lit (.int k u))),(y,.d (.lit (.int k v)))] es (.d (.lit (.int k (EO .and k u v)))) es:=
 Nk j (fun w=>aAO) ⟨rfl,rfl⟩
def Wh {t t':TypeId} {x y:Operand} {k:IntKind} {u v:Int} (j:o.op=.binOp .or t x y t'):BU P o [(x,.d (.lit (.int k u))),(y,.d (.lit (.int k v)))] es (.d (.lit (.int k (EO .or k u v)))) es:=
 Nk j (fun w=>aAO) ⟨rfl,rfl⟩
def ao4 {t t':TypeId} {x y:Operand} {k:IntKind} {u v:Int} (j:o.op=.binOp .xor t x y t'):BU P o [(x,.d (.lit (.int k u))),(y,.d (.lit (.int k v)))] es (.d (.lit (.int k (EO .xor k u v)))) es:=
 Nk j (fun w=>aAO) ⟨rfl,rfl⟩
def apQ {t t':TypeId} {x y:Operand} {k:IntKind} {u v:Int} (j:o.op=.binOp .andNot t x y t'):BU P o [(x,.d (.lit (.int k u))),(y,.d (.lit (.int k v)))] es (.d (.lit (.int k (EO .andNot k u v)))) es:=
 Nk j (fun w=>aAO) ⟨rfl,rfl⟩
def jY (k:IntKind) (x:Int):Int:=EO .xor k (if k.signed then -1 else k.max) x
def akf {t:TypeId} {x:Operand} {k:IntKind} {u:Int} (j:o.op=.unOp .xor t x):BU P o [(x,.d (.lit (.int k u)))] es (.d (.lit (.int k (jY k u)))) es:=
 aOw j (fun w=>by simp[Op.unary,Op.intBits,jY,EO])
def Og (op:BinOp) (k:IntKind) (x y:Int):Option Int:=
 if y<0 then none else some (match op with | .shl=>k.wrap (x*2^(min y.toNat k.bits))|_=>x.fdiv (2^(min y.toNat k.bits)))
def aJ6 {t t':TypeId} {x y:Operand} {k k':IntKind} {u v r:Int} (h:Og .shl k u v=some r) (j:o.op=.binOp .shl t x y t'):BU P o [(x,.d (.lit (.int k u))),(y,.d (.lit (.int k' v)))] es (.d (.lit (.int k r))) es:=by
 unfold Og at h;split at h
 ·cases h
 rename_i m;obtain rfl:=CO h;exact Nk j (fun w=>by simp[binOp,Op.shift,m]) ⟨rfl,rfl⟩
def afS {t t':TypeId} {x y:Operand} {k k':IntKind} {u v r:Int} (h:Og .shr k u v=some r) (j:o.op=.binOp .shr t x y t'):BU P o [(x,.d (.lit (.int k u))),(y,.d (.lit (.int k' v)))] es (.d (.lit (.int k r))) es:=by
 unfold Og at h;split at h
 ·cases h
 rename_i m;obtain rfl:=CO h;exact Nk j (fun w=>by simp[binOp,Op.shift,m]) ⟨rfl,rfl⟩
def aMf (k:IntKind) (a b:Int):Option Int:=if b=0 then none else some (k.wrap (a.tdiv b))
def Zn (a b:Int):Option Int:=if b=0 then none else some (a.tmod b)
end
section
variable {P : Program} {o : Oper} {es : List Ar} {α : Type}
def aUt {ok:Nat→Prop} {w:World} {H:List BO} {h:BO} {e size k i off:Nat} {xs:List D} {v:Value} (O:H[k]? =some h) (u:Em ok w H h (.arr e size xs)) (hi:i<xs.length) (U:R ok w H (.lX k i off) v):
 ∃g cap j ys,h.v=.slice (some ⟨g,0,none⟩) xs.length cap∧w.heap[g]? =some (.cells j e (0,0))∧xs.length≤cap∧cap≤maxLen∧xs.length*size≤j.size∧cap*size≤j.size∧j.toList.take (xs.length*size)=ys∧ys.length=xs.length*size∧Fg ok w H (flat xs) ys∧(∀x∈xs,x.cells.length=size)∧v=.pointer (some ⟨g,i*size+off,none⟩):=by
 obtain⟨J,Y,ys,⟨Z,h4⟩,h5⟩:=u;rcases h4 with⟨q,h7⟩|⟨g,cap,j,q,h7,h8,L,z,m,I⟩
 ·omega
 refine⟨g,cap,j,ys,q,h8,L,z,Eh (Js _ L) m,m,I,Z,h5,Y,?_⟩;cases U with
 |lX _ _ _ b n c s M=>
  rw[O]at M;obtain rfl:=CO M;simp only[kS,Ll,Addr.mk.injEq]at q;simp only at J;rw[q.1.1,J]
def aSL {size n i j:Nat} (hi:i<n) (m:j<size):i*size+j<n*size:=
 calc i*size+j<i*size+size:=AA
  _=(i+1)*size:=by rw[UK]
  _≤n*size:=Js _ hi
def WT {x:Operand} {t:TypeId} {agg:Bool} {k n i off e size:Nat} {y:D} (enc:α→D) {l:List α} {a:α} (hy:y=Pv agg (enc a).cells off n) (hk:es[k]? =some (.arr e size (List.map enc l))) (ha:l[i]? =some a) (hT:EL P t agg n) (hn:off+n≤(enc a).cells.length) (h1:agg=false→n=1)
 (ho:o.op=.load t x):BU P o [(x,.lX k i off)] es (.d y) es:=
 .pure fun ok H ac w M hl Y=>by
  have hx:=LH Y;simp only at hx;subst hy;obtain⟨h,hh,Z⟩:=Fz M hl hk;obtain⟨I,O⟩:=Fb.1 ha;have m:i<(List.map enc l).length:=Qq
  obtain⟨g,cap,q,ys,e1,e2,e3,e4,e5,e5',e6,e7,e8,e9,e10⟩:=aUt hh Z m hx;have J:(List.map enc l).getD i DK=enc a:=by simp[List.getD,I,O]
  have hsz:(enc a).cells.length=size:=by
   refine e9 _ ?_;exact Ee.2 ⟨a,by rw[←O];exact Df I,rfl⟩
  have hfl:=Ro e9
  have u:∀j,j<size→w.cell? ⟨g,i*size+j,none⟩=some (ys.getD (i*size+j) undef):=by
   intro j L;have z:=aSL m L;have hcur:(List.map enc l).length*size≤q.size:=e5;have h15:i*size+j<q.size:=AA
   have e11:ys.getD (i*size+j) undef=q[i*size+j]'(h15):=by
    rw[←e6];have h14:i*size+j<l.length*size:=U3
    simp[List.getD,Na h14,show i*size+j<q.size by omega]
   rw[e11];simp[World.cell?,e2,show i*size+j<q.size by omega]
  have U:∀j,j<size→((enc a).cells.getD j DK).leaf=true∧DV ok w ((enc a).cells.getD j DK) (ys.getD (i*size+j) undef):=by
   intro j L;have z:=e8.2 (i*size+j) (by rw[hfl];exact aSL m L);rw[flat_get e9 i j m L,J]at z;refine⟨z.1,?_⟩;cases z.2 with |d _ _ h=>exact h
  obtain⟨v,hr,hD⟩:=aEt (ok:=ok) (w:=w) (b:=g) (p:=i*size) (cs:=(enc a).cells) hT hn h1 (fun j L=>(U j AA).1) (fun j L=>by rw[u j AA];rfl) (fun j L=>by unfold cellAt;rw[u j AA];exact(U j AA).2);exact⟨v,by simp only[execOp,ho,e10,FD,hr,FU,GK],.d _ _ hD⟩
def nO {t:TypeId} {x y:Operand} {k i off n e size:Nat} (enc:α→D) {l:List α} {a a':α} {v:AY} (hk:es[k]? =some (.arr e size (List.map enc l))) (ha:l[i]? =some a) (hl:v.cells.all AY.leaf=true) (hs:∀w,(sizeOf t).run P w=.ok n w) (hn:v.cells.length=n)
 (hle:off+n≤(enc a).cells.length) (hset:(enc a').cells.map AY.d=setAt ((enc a).cells.map AY.d) off v.cells) (hc:∀b,(enc b).cells.length=size) (ho:o.op=.store t x y):
 BU P o [(x,.lX k i off),(y,v)] es .junk (es.set k (.arr e size (List.map enc (l.set i a')))):=
 .eff fun C ok H I w hm hn'=>by
  have h1:=(Ea hn').1;have h2:=(Ea hn').2;simp only at h1 h2;obtain⟨h,hh,hok⟩:=Fz hm.ent hm.hlen hk;obtain⟨U,hia⟩:=Fb.1 ha;have aFk:i<(List.map enc l).length:=ZP
  have hok1:=hok.1;obtain⟨g,cap,m,ys,e1,e2,e3,e4,e5,e5',e6,e7,e8,e9,e10⟩:=aUt hh hok aFk h1;have z:=h2.ajF hl;have hll:(List.map enc l).length=l.length:=Ap
  rw[hll]at e1 e3 e6 e7;have hea:(enc a).cells.length=size:=hc a;have Y:(I.eval y).cells.toList.length=n:=by rw[z.1,hn]
  have hsz:(I.eval y).cells.size=n:=aDZ
  have hcur:l.length*size≤m.size:=by simpa using e5
  have hend:i*size+off+n≤l.length*size:=by
   have :(i+1)*size≤l.length*size:=Js _ U;rw[UK]at this;omega
  have hst:=aN0 (P:=P) g (i*size+off) e (I.eval y).cells.toList 0 m w e2 (by rw[Y];omega) (fun u hu=>by
   obtain⟨j,J,rfl⟩:=GZ hu;have h5:=z.2 j (by rw[←z.1];exact J);have :=h5.2.leaf h5.1
   rwa [aCj J]at this)
  simp only[PG]at hst;have M:∀(q:List α),∀y∈q.map enc,y.cells.length=size:=fun q y hy=>aHu
  obtain⟨h3,h4⟩:=hm.upd (e:=.arr e size (List.map enc (l.set i a'))) (w':=w.setRow g (m.toList.take (i*size+off)++(I.eval y).cells.toList++m.toList.drop (i*size+off+(I.eval y).cells.toList.length)).toArray) hk rfl hh (by rw[e1];rfl) rfl rfl rfl aPJ (fun c hc=>aI3 _ _ _ _ hc) (fun hg'=>by
   have esz:(setAt m.toList (i*size+off) (I.eval y).cells.toList).length=m.toList.length:=RS (by have :=m.length_toList;omega);refine⟨hok1,M _,setAt ys (i*size+off) (I.eval y).cells.toList,⟨?_,.inr ⟨g,cap,_,by simp;exact e1,EZ _,oH w g m _ e (0,0) e2,by simpa using e3,e4,?_,?_⟩⟩,?_⟩
   ·rw[RS AA];simpa using e7
   ·have h9:(setAt m.toList (i*size+off) (I.eval y).cells.toList).toArray.size=m.size:=by rw[kD,esz];simp
    show _≤(setAt m.toList (i*size+off) (I.eval y).cells.toList).toArray.size;rw[h9];exact e5'
   ·rw[aBY];show(setAt m.toList (i*size+off) (I.eval y).cells.toList).take _=_;rw[←e6];have hlen':(List.map enc (l.set i a')).length=l.length:=Ap
    rw[hlen'];apply ZB;intro j;have hcl:=m.length_toList;by_cases J:j<l.length*size
    ·have a1:((setAt m.toList (i*size+off) (I.eval y).cells.toList).take (l.length*size))[j]? =some ((setAt m.toList (i*size+off) (I.eval y).cells.toList).getD j undef):=by
      rw[Na J];simp[List.getD,show j<(setAt m.toList (i*size+off) (I.eval y).cells.toList).length by rw[esz];omega]
     have tl:(m.toList.take (l.length*size)).length=l.length*size:=DU
     have sl:(setAt (m.toList.take (l.length*size)) (i*size+off) (I.eval y).cells.toList).length=l.length*size:=by rw[RS AA,tl]
     have a2:(setAt (m.toList.take (l.length*size)) (i*size+off) (I.eval y).cells.toList)[j]? =some ((setAt (m.toList.take (l.length*size)) (i*size+off) (I.eval y).cells.toList).getD j undef):=by
      simp[List.getD,show j<(setAt (m.toList.take (l.length*size)) (i*size+off) (I.eval y).cells.toList).length by omega]
     rw[a1,a2,XD AA,XD AA];congr 1;split
     ·rfl
     simp[List.getD,Na J]
    have tl:(m.toList.take (l.length*size)).length=l.length*size:=DU
    have sl:(setAt (m.toList.take (l.length*size)) (i*size+off) (I.eval y).cells.toList).length=l.length*size:=by rw[RS AA,tl]
    rw[I7 DU,I7 AA]
   have hb:=e8.mono hg' (Names.refl H);have hcr:=z.mono hg' (Names.refl H);have hfl:=Ro (M l);have Z:=Ro (M (l.set i a'));refine⟨by rw[RS AA,e7,Z];simp,fun j J=>?_⟩;rw[Z]at J;simp only[CM,eS]at J
   have hpos:0<size:=by
    rcases YB size with h0|h0
    ·rw[h0,Nat.mul_zero]at J;omega
    exact h0
   have e0:j=j/size*size+j % size:=by rw[UZ];exact(aGY j size).symm
   have hq:j/size<l.length:=nS (by rwa [UZ]at J);have hr:j % size<size:=iT _ hpos
   have hdiv:j/size=i↔i*size≤j∧j<i*size+size:=by
    rw[Nat.div_eq_iff hpos,UZ];omega
   rw[Y]at hb hcr;generalize j/size=qd at e0 hq hdiv;generalize j % size=L at e0 hr;have hg3:=flat_get (M (l.set i a')) qd L (by simpa using hq) hr;rw[←e0]at hg3;have hg1:=flat_get (M l) qd L (by simpa using hq) hr;rw[←e0]at hg1;rw[hg3,XD AA,Y];by_cases O:qd=i
   ·have hnew:(List.map enc (l.set i a')).getD (qd) DK=enc a':=by rw[O];simp[List.getD,U]
    have hold:(List.map enc l).getD (qd) DK=enc a:=by rw[O];simp[List.getD,U,hia]
    rw[hnew];have aF3:(enc a').cells.length=size:=hc a'
    have e11:AY.d ((enc a').cells.getD (L) DK)=(setAt ((enc a).cells.map AY.d) off v.cells).getD (L) .junk:=by
     rw[←hset];simp[List.getD,show L<(enc a').cells.length by omega]
    rw[e11,XD (by rw[CM,hn];exact hle),hn];have hji:j=i*size+L:=by rw[←O];exact e0
    by_cases hin:off≤L∧L<off+n
    ·rw[CV hin,CV AA];have :j-(i*size+off)=L-off:=AA
     rw[this];exact hcr.2 _ AA
    rw[Cc hin,Cc AA];have e12:((enc a).cells.map AY.d).getD (L) .junk=.d ((enc a).cells.getD (L) DK):=by simp[List.getD,show L<(enc a).cells.length by omega]
    rw[e12,←hold,←hg1];exact hb.2 j (by rw[hfl];simpa using J)
   have hsame:(List.map enc (l.set i a')).getD (qd) DK=(List.map enc l).getD (qd) DK:=by
    simp[List.getD,YJ (Ne.symm O)]
   have hnot:¬(i*size+off≤j∧j<i*size+off+n):=by
    rintro⟨ha1,ha2⟩;exact O (hdiv.2 ⟨AA,AA⟩)
   rw[Cc hnot,hsame,←hg1]
   exact hb.2 j (by rw[hfl];simpa using J))
  refine⟨undef,_,ok,H,.inr ⟨rfl,?_⟩,h4,.refl _,h3,.junk _⟩;simp only[execOp,ho,e10,Instr.storeAt,Instr.sureAddr,storeVar,FD,GK,FU,hs,hsz,ne_eq,not_true_eq_false,JE,hst]
end
def AY.UF (k:Nat) (cs:List D):AY→AY
 | .ptr j off=>if j=k then .d (.ref cs off)else .ptr j off
 |x=>x
def Ak.UF (σ:Ak) (k:Nat) (cs:List D):Ak:=⟨σ.slots.map (AY.UF k cs),σ.ents.set k .dead,σ.base⟩
def UU {σ:Ak} (k:Nat) {cs:List AY} (hk:σ.ents[k]? =some (.box cs)) (hd:cs.all AY.Az=true):∀C ok H a w,Holds C ok H σ a w→∃ok',Holds C ok' H (σ.UF k (Iw cs)) a w:=by
 intro C ok H a w m;obtain⟨h,M,hok⟩:=Fz m.mem.ent m.mem.hlen hk;have z:k<σ.ents.length:=(Fb.1 hk).1;obtain⟨b0,O,hf,hx,hc⟩:=aNW hok hd
 let ok':Nat→Prop:=fun b=>ok b∨D8 h.v=some b
 have L:=fun b q=>m.mem.blk k _ h b hk rfl M q;have hg:ES ok w ok' w:=fun b q=>⟨.inl q,rfl⟩
 refine⟨ok',⟨m.mem.fr,fun b q=>.inl (m.mem.yR b q),?_,?_,m.mem.names,by simp[Ak.UF,m.mem.hlen],?_,?_,?_⟩,by simp[Ak.UF,m.size],m.defers.mono hg,m.base,?_⟩
 ·rintro b (q|q)
  ·exact m.mem.yS b q
  exact .inr (L b q).2.2
 ·rintro b (q|q)
  ·exact m.mem.kL b q
  exact(L b q).2.1
 ·intro j e' h' he I;rcases N7 z he with⟨rfl,rfl⟩|⟨_,J⟩
  ·trivial
  exact(m.mem.ent j e' h' J I).mono hg (.refl _) (fun _ _ _=>rfl)
 ·intro j e' h' b he hl I q;rcases N7 z he with⟨rfl,rfl⟩|⟨hne,J⟩
  ·cases hl
  have h3:=m.mem.blk j e' h' b J hl I q;refine⟨fun u=>?_,h3.2⟩;rcases u with u|u
  ·exact h3.1 u
  exact hne (m.mem.E5 j k e' _ h' h b J hk hl rfl I M q u)
 ·intro i j e1 e2 h1 h2 b he1 he2 U Y hh1 hh2 hb1 hb2;rcases N7 z he1 with⟨rfl,rfl⟩|⟨_,Z⟩
  ·cases U
  rcases N7 z he2 with⟨rfl,rfl⟩|⟨_,arR⟩
  ·cases Y
  exact m.mem.E5 i j e1 e2 h1 h2 b Z arR U Y hh1 hh2 hb1 hb2
 intro t ht;simp only[Ak.UF,CM]at ht
 have e1:(σ.UF k (Iw cs)).slots.getD t .junk=(σ.slots.getD t .junk).UF k (Iw cs):=by
  simp only[Ak.UF];exact Uy _ _ _ ht
 rw[e1];have hR:=(m.slot t ht).mono hg (Names.refl H);generalize σ.slots.getD t .junk=x at hR ⊢;generalize a.tmps.getD t undef=v at hR ⊢;cases x with
 |ptr j off=>
  simp only[AY.UF];split
  ·rename_i hj;subst hj;cases hR with
   |ptr _ _ b s hH=>
    rw[M]at hH;obtain rfl:=CO hH;simp at O;subst O;have :=DV.ref (ok:=ok') (w:=w) (Iw cs) off b 0 (fun _=>.inr rfl) hf hx (fun j hj=>(hc j hj).mono hg);rw[JI]at this;exact .d _ _ this
  exact hR
 |_=>exact hR
section
variable {P : Program} {o : Oper} {es : List Ar} {α β γ : Type}
def oh {ok:Nat→Prop} {w:World} {H:List BO} {a:Act}:∀{xs:List Operand} {vs:List AY},xs.length=vs.length→(∀n∈F9 xs vs,R ok w H n.2 (a.eval n.1))→∀i,i<vs.length→R ok w H (vs.getD i .junk) ((xs.map a.eval).getD i undef)
 | [],[],_,_,i,hi=>OE
 | [],_::_,h,_,_,_=>I8
 |_::_,[],h,_,_,_=>I8
 |x::xs,v::vs,h,j,0,_=>by simpa using j (x,v) (by simp[F9])
 |x::xs,v::vs,h,j,i+1,hi=>by
  have :=oh Jz (fun n m=>j n (by simp[F9,m])) i Fp;simpa using this
def Va {fn:Fn} {j:Array Operand} (m:List D) (hl:j.toList.length=m.length) (z:o.op=.makeFunc fn #[] j):BU P o (F9 j.toList (m.map .d)) es (.d (.fn fn [] m)) es:=
 .pure fun ok H a w _ _ I=>by
  refine⟨.func fn #[] (j.map a.eval),by simp[execOp,z,Instr.makeFunc],.d _ _ (.fn fn [] m #[] _ rfl MH (fun i hi=>OE) (fun i hi=>?_))⟩;have u:=oh (xs:=j.toList) (vs:=m.map .d) MH I i Fp;have J:(m.map AY.d).getD i .junk=.d (m.getD i DK):=MG
  have q:i<j.size:=by have :j.size=m.length:=MH
                      omega
  have L:(j.toList.map a.eval).getD i undef=(j.map a.eval).getD i undef:=by simp[List.getD,Array.getD,q]
  rw[J,L]at u;cases u with |d _ _ h=>exact h
def aTZ {f:FuncId} {C:EN} {ok:Nat→Prop} {H:List BO} {w:World} (L:Cb C ok H es w) {u:List D} {q:AY} (Z:Am P f (u.map .d) [] q []) (m:Array Value) (hs:m.size=u.length) (O:∀i,i<u.length→DV ok w (u.getD i DK) (m.getD i undef)) (I:q.up [] es.length=q):
 Calls P f m w fun e w'=>∃v ok' H',e=.returned v∧ES ok w ok' w'∧Names H H'∧Cb C ok' H' es w'∧R ok' w' H' q v:=by
 have U:Cb ⟨w,ok,[],[]⟩ ok [] [] w:=
  ⟨.refl _ _,fun _ h=>h,fun _ h=>.inl h,L.kL,.refl _,rfl,fun k e h z _=>by simp at z,fun k e h b z=>by simp at z,fun k k' e e' h h' b z=>by simp at z⟩
 refine(Z ok [] [] w m U qR (fun i hi=>?_)).mono ?_
 ·have J:i<u.length:=Fp
  have e1:(u.map AY.d).getD i .junk=.d (u.getD i DK):=by simp[List.getD,J]
  rw[e1];exact .d _ _ (O i J)
 rintro e w' ⟨v,ok',H',rfl,j,hR⟩;have Y:H'=[]:=Gg j.hlen
 obtain⟨h1,h2⟩:=L.change (ok':=ok') (H':=H) (es':=es) (w':=w') (fun _=>False) j.fr.os j.fr.tape j.fr.output j.fr.size (fun b M _=>j.fr.block b M Ap) (fun _ h=>h.elim) j.yR (fun b M=>by
  rcases j.yS b M with h|h|h
  ·exact .inl h
  ·exact .inr ⟨h,j.kL b M⟩
  simp at h) (.refl _) L.hlen (fun k e h z hh=>.inl ⟨z,hh,fun _ _ _ h=>h⟩)
 refine⟨v,ok',H,rfl,h2,.refl _,h1,?_⟩;have :=acV (srcs:=[]) (H:=H) (Hc:=[]) (H':=H') rfl (fun i k h=>I8) (fun k v O=>by simp at O) hR;rw[L.hlen,I,Y]at this;simpa using this
def aUn {f:FuncId} {x:Operand} {ops:Array Operand} {ats:Array TypeId} (j cs:List D) {m:AY} (hr:Am P f ((j++cs).map .d) [] m []) (hf:Dl P f=true) (hl:ops.toList.length=j.length) (I:m.up [] es.length=m)
 (ho:o.op=.call { callee:=.value x,args:=ops,argTypes:=ats }):BU P o ((x,.d (.fn (.func f) [] cs))::F9 ops.toList (j.map .d)) es m es:=by
 intro C ok H a w Q hm hn;have M:=hn (x,.d (.fn (.func f) [] cs)) Ap;simp only at M;have u:=oh (xs:=ops.toList) (vs:=j.map .d) MH (fun n O=>hn n (FW _ O));generalize hv:a.eval x=v at M;cases M with
 |d _ _ h=>
  cases h with
  |fn _ _ _ vs us U Y h1 h2=>
   have Z:vs= #[]:=dG ZP;subst Z;unfold Oper.wp
   have he:(execOp a.eval o).run P w=.ok (.enter f ((ops.map a.eval)++us)) w:=by
    have :=TL hf (ops.map a.eval++us) w;simp[execOp,ho,resolve,hv,Deferred.ofValue,invoke,this]
   rw[he,bW];have J:(ops.map a.eval).size=j.length:=MH
   refine(aTZ hm hr _ (by simp[J,Y]) (fun i hi=>?_) I).mono ?_
   ·by_cases q:i<j.length
    ·have L:=u i Nz;have e1:(j.map AY.d).getD i .junk=.d (j.getD i DK):=aLS
     have z:i<ops.size:=aaU
     have e2:(ops.toList.map a.eval).getD i undef=(ops.map a.eval++us).getD i undef:=by
      simp[List.getD,H8,dc,z]
     have e3:(j++cs).getD i DK=j.getD i DK:=by simp[List.getD,Gj q]
     rw[e1,e2]at L;rw[e3];cases L with |d _ _ h=>exact h
    have z:i-j.length<cs.length:=aIM
    have e3:(j++cs).getD i DK=cs.getD (i-j.length) DK:=by simp[List.getD,Jd (Uk q)]
    have e4:(ops.map a.eval++us).getD i undef=us.getD (i-j.length) undef:=by
     simp only[H8];rw[aHy AA,J]
    rw[e3,e4];exact h2 _ z
   rintro e w' ⟨v,ok',H',rfl,L,h4,h5,h6⟩;exact⟨v,ok',H',rfl,L,h4,h5,h6⟩
def UA (P:Program) (j:α→D) (m:β→D) (d:D) (g:α→Option β):Prop:=∃f cs,d=.fn (.func f) [] cs∧Dl P f=true∧∀a b,g a=some b→Am P f (([j a]++cs).map .d) [] (.d (m b)) []
def Wv (P:Program) (j:α→D) (m:β→D) (q:γ→D) (d:D) (g:α→β→Option γ):Prop:=∃f cs,d=.fn (.func f) [] cs∧Dl P f=true∧∀a b c,g a b=some c→Am P f (([j a,m b]++cs).map .d) [] (.d (q c)) []
def pI {x y:Operand} {ats:Array TypeId} {j:α→D} {m:β→D} {d:D} {g:α→Option β} {a:α} {b:β} (hd:UA P j m d g) (h:g a=some b) (q:o.op=.call { callee:=.value x,args:= #[y],argTypes:=ats }):
 BU P o [(x,.d d),(y,.d (j a))] es (.d (m b)) es:=by
 obtain⟨f,cs,rfl,u,z⟩:=hd;exact aUn [j a] cs (z a b h) u rfl rfl q
def YR {x y z:Operand} {ats:Array TypeId} {j:α→D} {m:β→D} {q:γ→D} {d:D} {g:α→β→Option γ} {a:α} {b:β} {c:γ} (hd:Wv P j m q d g) (h:g a b=some c) (u:o.op=.call { callee:=.value x,args:= #[y,z],argTypes:=ats }):
 BU P o [(x,.d d),(y,.d (j a)),(z,.d (m b))] es (.d (q c)) es:=by
 obtain⟨f,cs,rfl,I,J⟩:=hd;exact aUn [j a,m b] cs (J a b c h) I rfl rfl u
end
end Go.Proofs.YtldfpencimjjlaaGreat
end
