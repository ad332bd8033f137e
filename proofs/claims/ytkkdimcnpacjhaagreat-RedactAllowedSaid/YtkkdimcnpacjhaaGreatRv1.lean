/- Part 1 of what the laws' proofs lean on: states of the walk, typed functions of the program and their laws (short forms written by wip/shrink.py; no condition). -/
import Derived.Test.YtkkdimcnpacjhaaGreatRows
import Derived.WalkKit
import Derived.WalkSpells
import Derived.WalkLawsBesides
import Derived.Lib.Hide
import Derived.Laws.AppendOwnNone
import Derived.Laws.CopyOwn
import Derived.Lib.AppendStr
import Derived.Laws.IdiomStrings
import Derived.Laws.BitsAllLaws
import Derived.OrdersIn
import Derived.ControlIn
import Derived.TacticsIn
import Derived.ArgAppend
import Derived.RangeFuncLeaves
import Derived.RangeFuncRecord
import Derived.Laws.StructEq
import Derived.Laws.BytesString
import Derived.Lib.OwnBridge
import Derived.Sort.OwnSortedInts
import Derived.Lib.SliceRun
import Derived.ProofKit
import Derived.Deep.Slices
import Derived.Lib.SlicesCompact
import Derived.Test.YtkkdimcnpacjhaaGreatProg
import Derived.Shelf.Small.Bits
import Derived.Shelf.Small.Strs
import Derived.Shelf.Strconv.Itoa0
import Derived.Shelf.Strings.Search1
import Derived.Shelf.Strings.Search2
import Derived.Shelf.Strings.Cut
import Derived.Shelf.LaysM
import Derived.Shelf.Strings.Shaped
import Derived.Shelf.Sort.Plain
import Derived.Shelf.Slices.Turned
import Derived.Ground.Names2Prog
import Derived.Shelf.Slices.Clone
import Derived.Shelf.Slices.CompactI
import Derived.Shelf.Slices.SearchI
import Derived.Shelf.Slices.Cells
import Derived.Shelf.Slices.In.SortNone
import Derived.Shelf.Slices.Empties
import Derived.Ground.SlgnProg
import Derived.Shelf.SlicesE.Clone
import Derived.RangeFuncIn
import Derived.Scope
import Derived.Tactics
import Derived.Tactics2
import Derived.Defers
import Derived.Recover
import Derived.Laws.Pointers
import Derived.Shelf.SlLaysF0
import Derived.Shelf.SlSortCmp.NoneTotal
import Derived.Laws.IdiomRangeMap
import Derived.Laws.Small
import Derived.Laws.IdiomCopy
import Derived.Lib.Overlaps
import Derived.Lib.AppendZerosOnto
import Derived.Shelf.Spec.SlicesInsertGrow
import Derived.StillTailTactics
import Derived.LoopN
import Derived.Deep.QuietTactic
import Derived.Laws.Bits64
import Derived.Lib.Bytealg
set_option linter.defProp false
set_option linter.unnecessarySimpa false
set_option linter.unusedVariables false
set_option linter.unusedSimpArgs false
namespace Go.Proofs.YtkkdimcnpacjhaaGreat
open Go.RowKit
def AQ:=@Option.bind_some
def Ar:=@cond_false
def Ce:=@List.getElem?_eq_getElem
def C9:=@List.length_map
def BA:=@cond_true
def Dk:=@List.length_append
def CG:=@Option.some.inj
def CV:=@Bool.and_eq_true
def BH:=@congrArg
def MS:=@List.length_singleton
def FB:=@List.getElem?_eq_some_iff
def FX:=@Array.getElem?_eq_some_iff
def GN:=@List.eq_nil_of_length_eq_zero
def E5:=@List.all_eq_true
def E8:=@List.getElem_mem
def Fv:=@List.getElem?_append_left
def Ec:=@List.mem_cons_self
def Gj:=@Array.getD_eq_getD_getElem?
def Ez:=@List.mem_cons_of_mem
def Dv:=@Bool.not_true
def ET:=@List.mem_filter
def Fg:=@Nat.le_of_ble_eq_true
def Ef:=@List.not_mem_nil
def Dc:=@Nat.le_refl
def F5:=@Go.Result.andThen_ok
def FC:=@List.length_cons
def El:=@List.foldl_cons
def FI:=@List.length_take
def EO:=@List.mem_cons
def Gu:=@List.getElem?_eq_none
def Ja:=@Array.getElem?_setIfInBounds_ne
def FH:=@List.mem_map
def NQ:=@Nat.add_assoc
def CJ:=@if_pos
def Fb:=@decide_eq_true_eq
def EK:=@Nat.zero_le
def EZ:=@Nat.le_trans
def J3:=@List.getElem?_append_right
def CU:=@if_neg
def GY:=@List.take_length
def GZ:=@List.mem_singleton
def QA:=@Nat.add_comm
def Gq:=@List.append_assoc
def Ep:=@Go.Sem.run_bind
def Hf:=@List.getElem_of_mem
def Fz:=@List.mem_append
def FT:=@Bool.true_and
def Jp:=@List.drop_eq_getElem_cons
def Gw:=@List.any_eq_true
def Hd:=@List.nil_append
def KH:=@List.pairwise_iff_getElem
def JD:=@List.length_filter_le
def Oj:=@List.take_succ_eq_append_getElem
def Fa:=@Go.Sem.run_pure
def JB:=@Nat.mul_le_mul_right
def Ho:=@Option.map_some
def Kr:=@List.length_nil
def PU:=@Array.all_eq_true_iff_forall_mem
def Ir:=@of_decide_eq_false
def Ia:=@List.getElem?_map
def Ln:=@List.getElem?_take_of_lt
def Hr:=@decide_eq_false
def Il:=@Go.Proofs.Tryz.underlying3
def I4:=@Bool.not_false
def Ht:=@decide_eq_true
def Ip:=@List.map_append
def J7:=@Go.RowKit.Below.heap_alloc
def I7:=@List.map_cons
abbrev Ah:=IntKind.i64.wrap
def Z8 (n:Int):Ah n=(n+9223372036854775808)%18446744073709551616-9223372036854775808:=Go.IntKind.wrap_i64 n
def KJ:=@Option.some.injEq
def Jd:=@Bool.not_eq_true
def KA:=@List.length_drop
def JX:=@List.nodup_cons
def Nl:=@Array.getElem?_modify
def OV:=@Go.MapKept.run_getObj_map
def Qh:=@List.mem_of_find?_eq_some
def Lj:=@List.flatMap_cons
def Ic:=@Nat.zero_add
def PE:=@List.take_of_length_le
def Ny:=@List.filterMap_cons
def MH:=@Option.getD_some
def O7:=@List.pairwise_cons
def RS:=@Option.isSome_iff_exists
def Ot:=@List.filter_append
def Og:=@List.getElem?_drop
def KR:=@Bool.or_false
def Na:=@List.drop_length
def OL:=@Go.Proofs.Tryz.underlying39
def Kv:=@Bool.false_or
def Qx:=@List.filter_sublist
def Ve:=@Classical.byContradiction
def Ox:=@Go.Proofs.Tryz.underlying9
def TT:=@Option.map_eq_some_iff
def Qb:=@Bool.false_eq_true
def Qo:=@Option.toList_some
def Yx:=@Array.eq_empty_of_size_eq_zero
def SG:=@Array.length_toList
def Po:=@List.getElem_map
def N7:=@Bool.and_true
def Qq:=@Bool.not_eq_true'
def XT:=@List.getElem?_set_ne
def SN:=@List.mem_filterMap
def V8:=@Go.World.putObj_heap_same
def PG:=@List.append_nil
def Q8:=@Bool.eq_iff_iff
def QS:=@List.filter_cons
def SP:=@List.findIdx_cons
def Xc:=@Go.World.putObj_heap_other
def XW:=@decide_eq_false_iff_not
def Pm:=@Go.Oper.wpIn_mono
def Yq:=@Array.getElem?_append_left
def VJ:=@List.mem_of_getElem?
def Qz:=@List.find?_cons
def Nb:=@Bool.or_true
def RX:=@List.mem_flatMap
def JC:=@if_false
def Rn:=@beq_self_eq_true
def Tc:=@List.take_add_one
def Ty:=@Go.Proofs.Tryz.underlying28
def OY:=@Nat.add_zero
def Vh:=@Nat.lt_of_lt_of_le
def J5:=@if_true
def TN:=@Nat.le_of_not_lt
def Td:=@List.foldlM_cons
def RF:=@Prod.mk.injEq
def jm:=@List.takeWhile_append_dropWhile
def Yz:=@List.filter_eq_nil_iff
def Uy:=@List.foldl_append
def VT:=@bne_self_eq_false
def UY:=@Go.Proofs.Tryz.underlying30
def Z4:=@List.take_append_drop
def Xv:=@Nat.eq_zero_or_pos
def V7:=@List.cons_append
def Z7:=@List.pairwise_append
def OW:=@Go.wpS_region
def eP:=@Option.bind_eq_some_iff
def Ws:=@Int.toNat_natCast
def ZK:=@beq_eq_false_iff_ne
def PZ:=@beq_iff_eq
def qj:=@List.getD_eq_getElem?_getD
def XU:=@Nat.lt_succ_self
def XI:=@Go.Proofs.Tryz.underlying4
def eG:=@List.filterMap_append
def eL:=@Array.toArray_toList
def U0:=@Nat.succ_mul
def Tj:=@Nat.mul_comm
def gV:=@Go.World.alloc_heap_new
def aI:=@Bool.or_eq_false_iff
def Zv:=@List.mem_append_left
def Yl:=@List.ext_getElem?
def Vx:=@List.nodup_nil
def lu:=@List.findIdx_lt_length
def kM:=@Array.getElem?_toList
def YB:=@Bool.or_eq_true
def ZE:=@Go.Oper.upon_enter
def YT:=@Go.run_equalIn_int
def XY:=@List.map_take
def eI:=@Go.Value.slice.injEq
def Zo:=@List.size_toArray
def cu:=@Function.comp_def
def iI:=@of_decide_eq_true
def iC:=@List.nodup_append
def jU:=@Nat.div_lt_of_lt_mul
def qx:=@List.mem_of_mem_take
def wQ:=@Array.getElem?_eq_getElem
def aGa:=@List.set_eq_take_append_cons_drop
def ZJ:=@Go.heap_alloc_new
def Oc:=@Go.wpS_seq
def YX:=@Go.wp_region_list
def ig:=@Go.IntKind.wrap_u64
def tX:=@List.length_pos_iff
def uf:=@List.filter_eq_self
def aCl:=@List.getElem?_cons_succ
def Yv:=@List.map_drop
def Y7:=@List.any_cons
def sS:=@List.getElem?_take
def Zx:=@List.length_set
def TF:=@Go.wpIn_mono
def aO:=@Go.Proofs.Tryz.zeroValue3
def mG:=@Array.ext_getElem?
def iK:=@beq_false_of_ne
def aH:=@List.find?_some
def iw:=@Go.IntKind.wrap_u8
def Vu:=@Nat.add_mul
def aBa:=@List.drop_of_length_le
def aBf:=@List.findIdx_le_length
def jE:=@Go.Proofs.Tryz.underlying22
def lS:=@List.find?_append
def lN:=@List.filter_congr
def ZB:=@Nat.le_of_eq
def aF5:=@Array.getElem?_setIfInBounds
def YQ:=@Nat.lt_or_ge
def aBz:=@List.mem_append_right
def aLZ:=@Array.getElem?_append_right
def qP:=@List.ext_getElem
def kV:=@Go.Proofs.Tryz.underlying5
def rH:=@decide_eq_decide
def aHp:=@Array.toList_setIfInBounds
def eX:=@Go.Oper.semAt_eq
def aJg:=@List.nodup_iff_pairwise_ne
def aBg:=@List.toList_toArray
def aBD:=@List.map_congr_left
def aN5:=@Array.mapM_eq_mapM_toList
def mM:=@Nat.min_eq_left
def tJ:=@Go.Proofs.Tryz.zeroValue5
def uD:=@Go.Proofs.Tryz.zeroValue9
def mD:=@Go.Proofs.Tryz.zeroValue4
def rX:=@List.take_left'
def aG5:=@List.getElem_append_left
def aQ:=@Go.Proofs.Tryz.sizeOf3
def aC3:=@Go.Proofs.Tryz.underlying148
def aDY:=@Go.Proofs.Tryz.underlying212
def er:=@Go.Addr.add_lit
def vY:=@List.find?_eq_none
def nK:=@List.mem_range
def jL:=@List.drop_zero
def aFy:=@Nat.exists_eq_add_of_le
def aMY:=@List.getElem?_replicate
def aMk:=@List.getElem?_cons_zero
def aMa:=@List.pairwise_singleton
def yB:=@Go.World.ownsRow_nil
def xG:=@Go.Proofs.Tryz.zeroValue148
def aAE:=@Go.Proofs.Tryz.zeroValue212
def aA0:=@Go.Proofs.Tryz.underlying35
def aAf:=@Nat.lt_trichotomy
def aDb:=@List.getElem_take
def aPA:=@List.findIdx?_eq_some_iff_getElem
def dL:=@Nat.mul_one
def aEy:=@List.dropWhile_sublist
def Zl:=@Go.Proofs.Tryz.isAgg3
def aGb:=@ByteArray.size_extract
def qY:=@List.all_cons
def aAN:=@List.perm_middle
def YL:=@Array.ext
def aNM:=@Nat.eq_of_beq_eq_true
def aGt:=@Go.Lib.wpList_append_run
def aHn:=@Bool.and_eq_false_iff
def wE:=@Go.wpIn_region_any
def aCc:=@Nat.div_add_mod
def cD:=@Nat.mod_lt
def qg:=@List.map_map
def aKj:=@Array.ext'
def o8:=@getElem!_pos
def sD:=@Go.Proofs.Tryz.sizeOf5
def sG:=@Go.Proofs.Tryz.sizeOf9
def oW:=@Go.Proofs.Tryz.sizeOf4
def vW:=@List.cons.injEq
def aPB:=@List.Nodup.length_le_of_subset
def aH8:=@List.mem_of_mem_drop
def aLO:=@List.findIdx_getElem
def pW:=@Bool.not_not
def aHQ:=@Go.callsIn_of_wp_marks
def aGU:=@Go.Lib.strCells_length
def aHz:=@Array.getElem?_push
def aLB:=@List.reverse_append
def aE7:=@Go.run_underlying
def aAm:=@Go.Proofs.Tryz.sizeOf148
def wH:=@Go.Proofs.Tryz.sizeOf212
def vJ:=@Nat.mul_le_mul
def uQ:=@Go.setRow_heap
def lI:=@Go.Sem.run_map
def lR:=@Go.Proofs.Tryz.isAgg5
def uV:=@Go.Proofs.Tryz.isAgg9
def mY:=@Go.Proofs.Tryz.isAgg4
def acN:=@Nat.min_def
def aH2:=@Go.run_loadCells_list
def aIu:=@Int.natCast_nonneg
def aF0:=@Go.MapKept.heap_alloc
def aN6:=@Nat.eq_or_lt_of_le
def aR3:=@List.dropWhile_cons_of_pos
def aaL:=@List.dropWhile_cons_of_neg
def aC7:=@Go.callsD_of_wpS
def adB:=@Int.fdiv_eq_ediv_of_nonneg
def aaT:=@Int.tmod_eq_emod_of_nonneg
def aLY:=@Bool.not_eq_false
def aLW:=@Go.run_storeCells_at
def aJE:=@List.getElem?_set
def aLm:=@List.pairwise_map
def acI:=@List.getElem_append_right
def adf:=@List.getElem?_zip_eq_some
def aIm:=@Go.wpIn_region_list
def aGP:=@List.take_append
def iM:=@or_false
def aIa:=@Go.World.size_alloc
def aCj:=@List.map_set
def bY:=@Go.wpS_cond
def aFP:=@List.getElem_zip
def aGY:=@List.map_reverse
def aNB:=@Nat.min_le_left
def aGk:=@List.any_append
def aEQ:=@Nat.one_mul
def aHr:=@List.take_left
def aHS:=@List.drop_drop
def aGV:=@List.take_zero
def aMi:=@List.take_take
end Go.Proofs.YtkkdimcnpacjhaaGreat
namespace Go.Proofs.YtkkdimcnpacjhaaGreat
open Go.RowKit
abbrev Bv:=Value.int .i64
end Go.Proofs.YtkkdimcnpacjhaaGreat
namespace Go.Proofs.YtkkdimcnpacjhaaGreat
open Go.RowKit
def AA {p:Prop} (h:p:=by kernel_rfl):p:=h
def A8 {p:Prop} (h:p:=by omega):p:=h
def Cj {p:Prop} (h:p:=by cases h;exact .ret (Eo [])):p:=h
def Am {p:Prop} (h:p:=by simp):p:=h
def BK {p:Prop} (h:p:=by decide):p:=h
def ED {p:Prop} (h:p:=by cases h;kernel_rfl):p:=h
def DK {p:Prop} (h:p:=by simp;omega):p:=h
def FW {p:Prop} (h:p:=by simp only[MS];omega):p:=h
def LJ {p:Prop} (h:p:=by simpa using u):p:=h
def FU {p:Prop} (h:p:=by simpa using hi):p:=h
def U6 {p:Prop} (h:p:=by have :=L (k+1) y (by simpa using u);simpa[NQ,QA 1 k]using this):p:=h
def XA {p:Prop} (h:p:=by rw[←Ch h];exact⟨[],[(0,true)],trivial,by kernel_rfl,by kernel_rfl,by kernel_rfl⟩):p:=h
def Yh {p:Prop} (h:p:=by cases h;exact .ret (Eo [(0,true)])):p:=h
def OM {p:Prop} (h:p:=by cases h;exact .ret (Eo [(2,true)])):p:=h
def XE {p:Prop} (h:p:=by cases h;exact .ret (Eo [(0,true),(1,true),(2,true),(3,true)])):p:=h
def LX {p:Prop} (h:p:=by simp[List.getD,hi]):p:=h
def Gv {p:Prop} (h:p:=by simp at h):p:=h
def Fr {p:Prop} (h:p:=by cases h):p:=h
def JZ {p:Prop} (h:p:=by rw[Dk];omega):p:=h
def JU {p:Prop} (h:p:=by simpa using h):p:=h
def uF {p:Prop} (h:p:=by have :=J (k+1) y (by simpa using u);simpa[NQ,QA 1 k]using this):p:=h
def qQ {p:Prop} (h:p:=by have :=Y (k+1) y (by simpa using u);simpa[NQ,QA 1 k]using this):p:=h
def pJ {p:Prop} (h:p:=by have :=hl (k+1) (by simpa using hk);simpa[NQ,QA 1 k]using this):p:=h
def pS {p:Prop} (h:p:=by have :=M (k+1) y (by simpa using u);simpa[NQ,QA 1 k]using this):p:=h
def je {p:Prop} (h:p:=by have :=Z (k+1) y (by simpa using u);simpa[NQ,QA 1 k]using this):p:=h
def Ux {p:Prop} (h:p:=by cases h;exact .ret (Eo [(1,true)])):p:=h
def Ko {p:Prop} (h:p:=by simpa using hl):p:=h
def L6 {p:Prop} (h:p:=by decide+kernel):p:=h
def Sm {p:Prop} (h:p:=by simp only[Dk,MS];omega):p:=h
def SE {p:Prop} (h:p:=by simp only[Kr];omega):p:=h
def bg {p:Prop} (h:p:=by have :Ag=9223372036854775808:=rfl;omega):p:=h
def MK {p:Prop} (h:p:=by simpa using j):p:=h
def MV {p:Prop} (h:p:=by simpa using q):p:=h
def Rt {p:Prop} (h:p:=by intro hh;cases hh):p:=h
def ou {p:Prop} (h:p:=by have :=hl (k+1);simpa[NQ,QA 1 k]using this):p:=h
def Wp {p:Prop} (h:p:=by first|exact q|kernel_rfl):p:=h
def aNT {p:Prop} (h:p:=by rw[←Ch h];exact⟨[],[(0,true),(1,true),(2,true),(3,true)],trivial,by kernel_rfl,by kernel_rfl,by kernel_rfl⟩):p:=h
def Rf {p:Prop} (h:p:=by simp at I;omega):p:=h
def PK {p:Prop} (h:p:=by simpa using I):p:=h
def dI {p:Prop} (h:p:=by simp[Act.eval,Array.replicate]):p:=h
def MO {p:Prop} (h:p:=by simp at hi):p:=h
def PI {p:Prop} (h:p:=by rw[Z8];omega):p:=h
def QK {p:Prop} (h:p:=by simpa using e):p:=h
def Zz {p:Prop} (h:p:=by obtain⟨a,_,rfl⟩:=FH.1 hx;rfl):p:=h
def VL {p:Prop} (h:p:=by rw[H8]at h;exact h):p:=h
def Xt {p:Prop} (h:p:=by rw[H8];exact aI5 hs):p:=h
def Oe {p:Prop} (h:p:=by rw[ar4];rfl):p:=h
def SS {p:Prop} (h:p:=by simpa using z):p:=h
def zq {p:Prop} (h:p:=by have :=hinj j j' o o' t u ho' q hd';omega):p:=h
def ny {p:Prop} (h:p:=by simpa using(hl 0 (by simp)).symm):p:=h
def TJ {p:Prop} (h:p:=by simpa using J):p:=h
def aD1 {p:Prop} (h:p:=by simp[Array.getD,hil]at hf ⊢;exact hf):p:=h
def pq {p:Prop} (h:p:=by obtain⟨a,_,rfl⟩:=FH.1 j;rfl):p:=h
def Pq {p:Prop} (h:p:=by simp[hi]):p:=h
def aKR {p:Prop} (h:p:=by rw[alloc_eq_grow,alloc_eq_grow,grow_grow];rfl):p:=h
def SB {p:Prop} (h:p:=by simp[flat]):p:=h
def Xi {p:Prop} (h:p:=by rw[C9];omega):p:=h
def aFt {p:Prop} (h:p:=by by_cases h:(s.size:Int)>32<;>simp[h]<;>omega):p:=h
def aJh {p:Prop} (h:p:=by by_cases h:(s.size:Int)<1<;>simp[h]<;>omega):p:=h
def Xp {p:Prop} (h:p:=by simpa using m):p:=h
def acd {p:Prop} (h:p:=by simpa using hk):p:=h
def yU {p:Prop} (h:p:=by simp only[acN];split<;>omega):p:=h
def dD {p:Prop} (h:p:=by simp[Ag];omega):p:=h
def jr {p:Prop} (h:p:=by simpa using(hl 0).symm):p:=h
def aCX {p:Prop} (h:p:=by rw[Dk];simp only[MS];omega):p:=h
def aU {p:Prop} (h:p:=by rw[aHO j J];simp):p:=h
def aB0 {p:Prop} (h:p:=by simpa using J 0 x (by simp)):p:=h
def TG {p:Prop} (h:p:=by simp at q):p:=h
def aAT {p:Prop} (h:p:=by simpa using L 0 x (by simp)):p:=h
def aKZ {p:Prop} (h:p:=by obtain⟨b,_,rfl⟩:=FH.1 hy;exact hc b):p:=h
def aFY {p:Prop} (h:p:=by obtain⟨a,_,rfl⟩:=FH.1 hy;exact hc a):p:=h
def Yy {p:Prop} (h:p:=by simpa using U):p:=h
def aef {p:Prop} (h:p:=by show CS C ok H (U ops.size).ents w;rw[hE];exact hmem):p:=h
def aAy {p:Prop} (h:p:=by simp[binOp,Op.intBits,Dx]):p:=h
def aAW {p:Prop} (h:p:=by simp only[FC];simp;omega):p:=h
def aGF {p:Prop} (h:p:=by rw[M rfl b (by rw[q];rfl)];exact u):p:=h
def aQ9 {p:Prop} (h:p:=by rw[C9]at hi;rw[TS _ _ _ hi];exact TK m j q (h i hi)):p:=h
def afL {p:Prop} (h:p:=by subst e;have h:=i;exact CW.aW<|by cases h;kernel_rfl):p:=h
def fM {p:Prop} (h:p:=by simpa using q2):p:=h
def aAq {p:Prop} (h:p:=by simp[Act.eval,Act.put]):p:=h
def aMj {p:Prop} (h:p:=by simpa using L 0 σ.ents (by simp)):p:=h
def aLP {p:Prop} (h:p:=by simpa using M 0 σ.ents (by simp)):p:=h
def aeb {p:Prop} (h:p:=by rw[C9]at hi;rw[TS _ _ _ hi];exact(h i hi).sQ π):p:=h
def aNp {p:Prop} (h:p:=by rw[M]at ho';obtain rfl:=CG ho';exact(O m hm).1):p:=h
def tN {p:Prop} (h:p:=by rw[j]at h;exact h):p:=h
def oN {p:Prop} (h:p:=by intro m;cases m):p:=h
def aBi {p:Prop} (h:p:=by simp[Op.bytesLess]at h):p:=h
def jW {p:Prop} (h:p:=by intro h;cases h):p:=h
def adS {p:Prop} (h:p:=by simpa using(by omega:i<(ops.map a.eval).size)):p:=h
def aCs {p:Prop} (h:p:=by rw[World.cell?,j];rfl):p:=h
def zU {p:Prop} (h:p:=by constructor<;>omega):p:=h
def jX {p:Prop} (h:p:=by simpa using he):p:=h
def nZ {p:Prop} (h:p:=by simpa using hs):p:=h
def aQi {p:Prop} (h:p:=by cases h;exact .ret (Eo [(0,false),(1,true)])):p:=h
def aEP {p:Prop} (h:p:=by unfold maxLen;omega):p:=h
def aOd {p:Prop} (h:p:=by cases h;exact .ret (Eo [(0,true),(1,true)])):p:=h
def aEc {p:Prop} (h:p:=by rw[ha,C9,FI];omega):p:=h
def aLH {p:Prop} (h:p:=by simp[sizeOf,typeInfo,hi,hs]):p:=h
def abA {p:Prop} (h:p:=by have :=dc s ⟨k,key,0⟩;unfold EU at *;omega):p:=h
def gK {p:Prop} (h:p:=by rw[hl];rfl):p:=h
def WC {p:Prop} (h:p:=by rw[q,←z]):p:=h
def aEE {p:Prop} (h:p:=by simp[underlying,ht]):p:=h
def sI {p:Prop} (h:p:=by simpa using L):p:=h
def aAU {p:Prop} (h:p:=by simp[underlying,hu]):p:=h
def aIn {p:Prop} (h:p:=by rw[akT];exact hdf.mono hgr):p:=h
def jq {p:Prop} (h:p:=by simpa using h2):p:=h
def aHi {p:Prop} (h:p:=by first|exact L|kernel_rfl):p:=h
def aNd {p:Prop} (h:p:=by simp[Value.cells,List.getD,Array.getD,u]):p:=h
def Zc {p:Prop} (h:p:=by simp[hl]):p:=h
def aFT {p:Prop} (h:p:=by have :=eq_of_beq h;omega):p:=h
def aA5 {p:Prop} (h:p:=by rw[←q.hlen];simp):p:=h
def aBl {p:Prop} (h:p:=by rw[←m.hlen];simp):p:=h
def aGZ {p:Prop} (h:p:=by rw[hb1];exact(FB.1 L).1):p:=h
def aHj {p:Prop} (h:p:=by rw[Aq.abP]at I;exact I):p:=h
def aEY {p:Prop} (h:p:=by simp[List.getD,j]):p:=h
def zD {p:Prop} (h:p:=by simp[List.getD,m]):p:=h
def xP {p:Prop} (h:p:=by intro z;cases z):p:=h
def vg {p:Prop} (h:p:=by intro q;cases q):p:=h
def aav {p:Prop} (h:p:=by unfold J9 at j;rw[Ce hl]at j;exact j):p:=h
def aHC {p:Prop} (h:p:=by simp[Array.getD,h1,hi']):p:=h
def aHZ {p:Prop} (h:p:=by simp[underlying,hE.und]):p:=h
def ZV {p:Prop} (h:p:=by cases h'):p:=h
def aBv {p:Prop} (h:p:=by simp[Array.getD]):p:=h
def aMz {p:Prop} (h:p:=by rw[size_put];exact hsz):p:=h
def nC {p:Prop} (h:p:=by rw[ha,GY]):p:=h
def aci {p:Prop} (h:p:=by simp[stepG,stepG.exec,Frame.atR]):p:=h
def afQ {p:Prop} (h:p:=by rw[uJ];exact fuel_lt (by decide)):p:=h
def aIH {p:Prop} (h:p:=by simp[List.getD,XT e]):p:=h
def aEV {p:Prop} (h:p:=by simpa using M):p:=h
def aNQ {p:Prop} (h:p:=by simp[ev,List.getD,hy]):p:=h
def zV {p:Prop} (h:p:=by simpa using hi1):p:=h
def aA4 {p:Prop} (h:p:=by simp[flat]at hi):p:=h
def aFr {p:Prop} (h:p:=by simp[List.getD,Fv e]):p:=h
def aHg {p:Prop} (h:p:=by simpa[Cb]using u.symm):p:=h
def aC4 {p:Prop} (h:p:=by rw[Hd];omega):p:=h
def adX {p:Prop} (h:p:=by rw[q];rfl):p:=h
def aLj {p:Prop} (h:p:=by simp[r,List.getD,hy]):p:=h
def aHa {p:Prop} (h:p:=by rw[hev];exact hmem):p:=h
def aMd {p:Prop} (h:p:=by rw[aBd];exact hh.base):p:=h
def aHY {p:Prop} (h:p:=by simp[World.setRow]):p:=h
def yx {p:Prop} (h:p:=by apply aKj;simp):p:=h
def vC {p:Prop} (h:p:=by rw[e];rfl):p:=h
def oP {p:Prop} (h:p:=by rw[u];rfl):p:=h
def yT {p:Prop} (h:p:=by simp[go_sem]):p:=h
def aBp {p:Prop} (h:p:=by rw[H8];exact h):p:=h
def aGI {p:Prop} (h:p:=by rw[Dk];simp;omega):p:=h
def gu {p:Prop} (h:p:=by simp[j]):p:=h
def Mid {p:Prop} (h:p:=by simpa using Y):p:=h
def jB {p:Prop} (h:p:=by rw[j];rfl):p:=h
def aLr {p:Prop} (h:p:=by simp[execOp,j];rfl):p:=h
def aGC {p:Prop} (h:p:=by simp[underlying,m]):p:=h
def aHW {p:Prop} (h:p:=by rw[Dk]at hi;omega):p:=h
def aLn {p:Prop} (h:p:=by rw[Z8];simp;omega):p:=h
def aIs {p:Prop} (h:p:=by simp[List.getD,q]):p:=h
def aGz {p:Prop} (h:p:=by rw[←hm.hlen];simp):p:=h
def aJw {p:Prop} (h:p:=by simpa using this):p:=h
def aMW {p:Prop} (h:p:=by rw[C9];exact hi):p:=h
def aGG {p:Prop} (h:p:=by simpa using hee):p:=h
def aCG {p:Prop} (h:p:=by simp[vF,e]):p:=h
def sN {p:Prop} (h:p:=by simp at j):p:=h
def uM {p:Prop} (h:p:=by simp at M):p:=h
def aGQ {p:Prop} (h:p:=by rw[z]at m;omega):p:=h
end Go.Proofs.YtkkdimcnpacjhaaGreat
namespace Go.Proofs.YtkkdimcnpacjhaaGreat
open Go.RowKit
def CP {p:Prop} (h:p:=by exact fun h=>Aa<|Cj):p:=h
def Gg {p:Prop} (h:p:=by exact AP.exit<|Aa<|Cj):p:=h
def iU {p:Prop} (h:p:=by exact KE AA<|KE AA<|KE AA<|KE AA<|trivial):p:=h
def aCC {p:Prop} (h:p:=by exact .nil<|Or.inl ⟨(),(Ch h).symm,(⟨[],[],trivial,AA,AA,AA⟩)⟩):p:=h
def Rx {p:Prop} (h:p:=by exact AP.exit<|Aa<|Yh):p:=h
def aPy {p:Prop} (h:p:=by exact fun h=>AP.ret<|⟨.inr rfl,(XK z).slots,(.ready,none),.normal,AA,rfl,(K3 _ ⟨m,q,Ae 16 32 [(2,true),(6,true)],h⟩)⟩):p:=h
def adO {p:Prop} (h:p:=by exact AP.ret<|⟨.inr rfl,(UJ qV j).slots,(.ready,none),.normal,AA,rfl,(K3 _ ⟨v7,v8,Ae 21 80 [(0,true),(1,true)],h⟩)⟩):p:=h
def aBL {p:Prop} (h:p:=by exact .nil<|m _ _ _ (Ae 16 449 [(0,true)]) h):p:=h
def dA {p:Prop} (h:p:=by exact Aa<|Aa<|Cj):p:=h
def aFi {p:Prop} (h:p:=by exact fun h=>AP.exit<|K4 _ ⟨Ae 18 2 [],h⟩):p:=h
def QB {p:Prop} (h:p:=by exact BL h CP fun h=>Aa<|Cj):p:=h
end Go.Proofs.YtkkdimcnpacjhaaGreat
section
namespace Go.Proofs.YtkkdimcnpacjhaaGreat
open Go.RowKit
def addr_add (b o j:Nat):(⟨b,o,none⟩:Addr).add j=⟨b,o+j,none⟩:=by
 unfold Addr.add;split<;>simp_all
section
variable {P : Program} {ops : Array Oper} {rest : List Oper} {o : Oper} {a : Act} {w : World} {Q : Exit → Act → World → Prop}
def alB (w:World) (ty:TypeId) (b off:Nat) (cs:Array Value) (u:(isAgg ty).run P w=.ok true w) (z:(sizeOf ty).run P w=.ok cs.size w)
 (I:∀j,j<cs.size→w.cell? ⟨b,off+j,none⟩=some (cs.getD j undef)):(loadVar ty ⟨b,off,none⟩).run P w=.ok (.agg cs) w:=by
 have hl:(loadCells ⟨b,off,none⟩ cs.toList.length).run P w=.ok cs.toList.toArray w:=
  aH2 (P:=P) w ⟨b,off,none⟩ cs.toList (fun j v m=>by
   rw[addr_add]
   have q:j<cs.size:=by
    have :=(FB.1 m).1;simpa using this
   rw[I j q];simp only[kM]at m;simp[Array.getD,q]at m ⊢
   exact m)
 simp only[SG,eL]at hl;simp only[loadVar,Ep,u,z,F5,J5,hl,Fa]
end
inductive D where
 |lit (v:Value)
 |agg (cs:List D)
 |sl (es:List D)
 |ref (cs:List D) (off:Nat)
 |fn (f:Fn) (first cap:List D)
 |NH (t:TypeId) (x:D)
def D.cells:D→List D
 | .agg cs=>cs
 |x=>[x]
def D.leaf:D→Bool
 | .lit v=>v.oneCell'
 | .agg _=>false
 |_=>true
abbrev D8 :D:=.lit undef
abbrev cellAt (w:World) (b o:Nat):Value:=(w.cell? ⟨b,o,none⟩).getD undef
inductive DF (ok:Nat→Prop) (w:World):D→Value→Prop
 |lit (v:Value):DF ok w (.lit v) v
 |agg (cs:List D) (vs:Array Value) (hl:vs.size=cs.length) (hf:∀i,i<cs.length→(cs.getD i D8).leaf=true)
  (h:∀i,i<cs.length→DF ok w (cs.getD i D8) (vs.getD i undef)):DF ok w (.agg cs) (.agg vs)
 |sl0 (ad:Option Addr) (cap:Nat):DF ok w (.sl []) (.slice ad 0 cap)
 |sl (es:List D) (b off cap size:Nat) (hcap:es.length≤cap) (hok:0<es.length→0<size→ok b) (hs:∀i,i<es.length→(es.getD i D8).cells.length=size)
  (hf:∀i,i<es.length→∀j,j<size→((es.getD i D8).cells.getD j D8).leaf=true)
  (hx:∀i,i<es.length→∀j,j<size→(w.cell? ⟨b,off+(i*size+j),none⟩).isSome=true)
  (hc:∀i,i<es.length→∀j,j<size→DF ok w ((es.getD i D8).cells.getD j D8) (cellAt w b (off+(i*size+j)))):
  DF ok w (.sl es) (.slice (some ⟨b,off,none⟩) es.length cap)
 |ref (cs:List D) (off b o:Nat) (hok:0<cs.length→ok b) (hf:∀i,i<cs.length→(cs.getD i D8).leaf=true)
  (hx:∀j,j<cs.length→(w.cell? ⟨b,o+j,none⟩).isSome=true)
  (hc:∀j,j<cs.length→DF ok w (cs.getD j D8) (cellAt w b (o+j))):DF ok w (.ref cs off) (.pointer (some ⟨b,o+off,none⟩))
 |fn (f:Fn) (first cap:List D) (vs us:Array Value) (hl:vs.size=first.length) (hm:us.size=cap.length)
  (h:∀i,i<first.length→DF ok w (first.getD i D8) (vs.getD i undef)) (h':∀i,i<cap.length→DF ok w (cap.getD i D8) (us.getD i undef)):
  DF ok w (.fn f first cap) (.func f vs us)
 |NH (t:TypeId) (x:D) (v:Value) (h:DF ok w x v):DF ok w (.NH t x) (.iface t v)
def Dz (ok:Nat→Prop) (w:World) (ok':Nat→Prop) (w':World):Prop:=∀b,ok b→ok' b∧w'.heap[b]? =w.heap[b]?
def Dz.refl (ok:Nat→Prop) (w:World):Dz ok w ok w:=fun _ h=>⟨h,rfl⟩
def Dz.trans {ok j m:Nat→Prop} {w u z:World} (h:Dz ok w j u) (k:Dz j u m z):Dz ok w m z:=
 fun b q=>⟨(k b (h b q).1).1,((k b (h b q).1).2).trans (h b q).2⟩
def Dz.cell {ok ok':Nat→Prop} {w w':World} (h:Dz ok w ok' w') {b o:Nat} (j:ok b):w'.cell? ⟨b,o,none⟩=w.cell? ⟨b,o,none⟩:=
 World.cell?_of_block (w:=w) (a:=⟨b,o,none⟩) (h b j).2
def DF.mono {ok ok':Nat→Prop} {w w':World} (z:Dz ok w ok' w') {x:D} {v:Value} (h:DF ok w x v):DF ok' w' x v:=by
 induction h with
 |lit v=>exact .lit v
 |agg cs vs hl I _ u=>exact .agg cs vs hl I u
 |sl0 ad cap=>exact .sl0 ad cap
 |sl es b off cap size J m hs I L _ u=>
  have U:∀i j,i<es.length→j<size→ok b:=fun i j hi q=>m A8 A8;refine .sl es b off cap size J (fun M Y=>(z b (m M Y)).1) hs I (fun i hi j q=>?_) (fun i hi j q=>?_)
  ·rw[z.cell (U i j hi q)];exact L i hi j q
  unfold cellAt;rw[z.cell (U i j hi q)];exact u i hi j q
 |ref cs off b o m I L _ u=>
  refine .ref cs off b o (fun M=>(z b (m M)).1) I (fun j q=>?_) (fun j q=>?_)
  ·rw[z.cell (m A8)];exact L j q
  unfold cellAt;rw[z.cell (m A8)];exact u j q
 |fn f first cap vs us hl Z _ _ u O=>exact .fn f first cap vs us hl Z u O
 |NH t x v _ u=>exact .NH t x v u
def DF.shrink {ok ok':Nat→Prop} {w:World} (hs:∀b o,ok b→(w.cell? ⟨b,o,none⟩).isSome=true→ok' b) {x:D} {v:Value} (h:DF ok w x v):DF ok' w x v:=by
 induction h with
 |lit v=>exact .lit v
 |agg cs vs hl q _ j=>exact .agg cs vs hl q j
 |sl0 ad cap=>exact .sl0 ad cap
 |sl es b off cap size u m J q z _ j=>exact .sl es b off cap size u (fun I M=>hs b _ (m I M) (z 0 I 0 M)) J q z j
 |ref cs off b o m q z _ j=>exact .ref cs off b o (fun I=>hs b _ (m I) (z 0 I)) q z j
 |fn f first cap vs us hl O _ _ j L=>exact .fn f first cap vs us hl O j L
 |NH t x v _ j=>exact .NH t x v j
def DF.leaf {ok:Nat→Prop} {w:World} {x:D} {v:Value} (h:DF ok w x v) (hl:x.leaf=true):v.oneCell'=true:=by
 cases h<;>first|rfl|exact hl|(simp[D.leaf]at hl)
inductive AV where
 |d (x:D)
 |ptr (k off:Nat)
 |aY (k:Nat)
 |kT (k i off:Nat)
 |fn (f:Fn) (first cap:List AV)
 |mp (k:Nat)
 |clip (xs:List D)
 |vT (k:Nat)
 |eF (vs:List AV)
 |ag (vs:List AV)
 |junk
def AV.leaf:AV→Bool
 | .d x=>x.leaf
 | .eF _| .ag _| .junk=>false
 |_=>true
def AV.cells:AV→List AV
 | .d x=>x.cells.map .d
 | .ag xs=>xs
 |x=>[x]
inductive Aq where
 |dead
 |box (cs:List AV)
 |arr (e:TypeId) (size:Nat) (es:List D)
 |map (es:List (Value×D))
 |eH (es:List (Value×D))
 |iter (es:List (Value×D)) (vis:List Nat)
 |loop (tm:Array Value) (slots:List AV) (rc:Array Tmp×Code×Code) (st:LoopState) (pe:Option Code)
def Aq.live:Aq→Bool
 | .dead=>false
 |_=>true
structure BJ where
 v:Value
 size:Nat:=0
inductive R (ok:Nat→Prop) (w:World) (H:List BJ):AV→Value→Prop
 |d (x:D) (v:Value) (h:DF ok w x v):R ok w H (.d x) v
 |ptr (k off b s:Nat) (h:H[k]? =some ⟨.pointer (some ⟨b,0,none⟩),s⟩):R ok w H (.ptr k off) (.pointer (some ⟨b,off,none⟩))
 |aY (k:Nat) (ad:Option Addr) (n cap s:Nat) (h:H[k]? =some ⟨.slice ad n cap,s⟩):R ok w H (.aY k) (.slice ad n cap)
 |kT (k i off b n cap s:Nat) (h:H[k]? =some ⟨.slice (some ⟨b,0,none⟩) n cap,s⟩):R ok w H (.kT k i off) (.pointer (some ⟨b,i*s+off,none⟩))
 |fn (f:Fn) (first cap:List AV) (vs us:Array Value) (hl:vs.size=first.length) (hm:us.size=cap.length) (h:∀i,i<first.length→R ok w H (first.getD i .junk) (vs.getD i undef))
  (h':∀i,i<cap.length→R ok w H (cap.getD i .junk) (us.getD i undef)):R ok w H (.fn f first cap) (.func f vs us)
 |mp (k:Nat) (v:Value) (s:Nat) (hl:v.oneCell'=true) (h:H[k]? =some ⟨v,s⟩):R ok w H (.mp k) v
 |clip (xs:List D) (ad:Option Addr) (h:DF ok w (.sl xs) (.slice ad xs.length xs.length)):R ok w H (.clip xs) (.slice ad xs.length xs.length)
 |vT (k:Nat) (ad:Option Addr) (n cap s:Nat) (h:H[k]? =some ⟨.slice ad n cap,s⟩):R ok w H (.vT k) (.slice ad n n)
 |eF (xs:List AV) (vs:Array Value) (hl:vs.size=xs.length) (h:∀i,i<xs.length→R ok w H (xs.getD i .junk) (vs.getD i undef)):R ok w H (.eF xs) (.tuple vs)
 |ag (xs:List AV) (vs:Array Value) (hl:vs.size=xs.length) (hf:∀i,i<xs.length→(xs.getD i .junk).leaf=true) (h:∀i,i<xs.length→R ok w H (xs.getD i .junk) (vs.getD i undef)):R ok w H (.ag xs) (.agg vs)
 |junk (v:Value):R ok w H .junk v
def Names (H H':List BJ):Prop:=∀(k:Nat) (v:BJ),H[k]? =some v→H'[k]? =some v
def Names.refl (H:List BJ):Names H H:=fun _ _ h=>h
def Names.trans {H H1 H2:List BJ} (h:Names H H1) (k:Names H1 H2):Names H H2:=fun i v j=>k i v (h i v j)
def Names.push (H H':List BJ):Names H (H++H'):=fun k v h=>by
 rw[Fv (FB.1 h).1];exact h
def R.mono {ok ok':Nat→Prop} {w w':World} {H H':List BJ} (u:Dz ok w ok' w') (j:Names H H') {x:AV} {v:Value} (h:R ok w H x v):R ok' w' H' x v:=by
 induction h with
 |d x v h=>exact .d x v (h.mono u)
 |ptr k off b s h=>exact .ptr k off b s (j _ _ h)
 |aY k ad n cap s h=>exact .aY k ad n cap s (j _ _ h)
 |kT k i off b n cap s h=>exact .kT k i off b n cap s (j _ _ h)
 |fn f first cap vs us hl z _ _ m q=>exact .fn f first cap vs us hl z m q
 |mp k v s hl h=>exact .mp k v s hl (j _ _ h)
 |clip xs ad h=>exact .clip xs ad (h.mono u)
 |vT k ad n cap s h=>exact .vT k ad n cap s (j _ _ h)
 |eF xs vs hl _ m=>exact .eF xs vs hl m
 |ag xs vs hl I _ m=>exact .ag xs vs hl I m
 |junk v=>exact .junk v
def R.shrink {ok ok':Nat→Prop} {w:World} (hs:∀b o,ok b→(w.cell? ⟨b,o,none⟩).isSome=true→ok' b) {H:List BJ} {x:AV} {v:Value} (h:R ok w H x v):R ok' w H x v:=by
 induction h with
 |d x v h=>exact .d x v (h.shrink hs)
 |ptr k off b s h=>exact .ptr k off b s h
 |aY k ad n cap s h=>exact .aY k ad n cap s h
 |kT k i off b n cap s h=>exact .kT k i off b n cap s h
 |fn f first cap vs us hl q _ _ j m=>exact .fn f first cap vs us hl q j m
 |mp k v s hl h=>exact .mp k v s hl h
 |clip xs ad h=>exact .clip xs ad (h.shrink hs)
 |vT k ad n cap s h=>exact .vT k ad n cap s h
 |eF xs vs hl _ j=>exact .eF xs vs hl j
 |ag xs vs hl u _ j=>exact .ag xs vs hl u j
 |junk v=>exact .junk v
def R.leaf {ok:Nat→Prop} {w:World} {H:List BJ} {x:AV} {v:Value} (h:R ok w H x v) (hl:x.leaf=true):v.oneCell'=true:=by
 cases h with
 |d x v h=>exact h.leaf hl
 |eF=>simp[AV.leaf]at hl
 |ag=>simp[AV.leaf]at hl
 |junk=>simp[AV.leaf]at hl
 |mp k v s hl h=>exact hl
 |_=>rfl
def FQ (ok:Nat→Prop) (w:World) (H:List BJ) (xs:List AV) (vs:List Value):Prop:=
 vs.length=xs.length∧∀i,i<xs.length→(xs.getD i .junk).leaf=true∧R ok w H (xs.getD i .junk) (vs.getD i undef)
def FQ.mono {ok ok':Nat→Prop} {w w':World} {H H':List BJ} (j:Dz ok w ok' w') (m:Names H H') {xs:List AV} {vs:List Value} (h:FQ ok w H xs vs):FQ ok' w' H' xs vs:=
 ⟨h.1,fun i hi=>⟨(h.2 i hi).1,(h.2 i hi).2.mono j m⟩⟩
def FQ.shrink {ok ok':Nat→Prop} {w:World} (hs:∀b o,ok b→(w.cell? ⟨b,o,none⟩).isSome=true→ok' b) {H:List BJ} {xs:List AV} {vs:List Value} (h:FQ ok w H xs vs):FQ ok' w H xs vs:=
 ⟨h.1,fun i hi=>⟨(h.2 i hi).1,(h.2 i hi).2.shrink hs⟩⟩
def flat (es:List D):List AV:=es.flatMap fun x=>x.cells.map .d
def lQ (w:World) (e:TypeId) (size:Nat) (v:Value) (n:Nat) (xs:List Value):Prop:=
 xs.length=n*size∧
 ((v=.slice none 0 0∧n=0)∨
  ∃g cap j,v=.slice (some ⟨g,0,none⟩) n cap∧0≤g∧w.heap[g]? =some (.cells j e (0,0))∧n≤cap∧cap≤maxLen∧cap*size≤j.size∧j.toList.take (n*size)=xs)
def lQ.of {w:World} {base:Nat} {e:TypeId} {size:Nat} {v:Value} {n:Nat} {xs:List Value} (h:w.ownsRow base e size v n xs):lQ w e size v n xs:=by
 refine⟨h.1,?_⟩;rcases h.2 with j|⟨g,cap,m,j,L,q,u,z,I,J⟩
 ·exact .inl j
 exact .inr ⟨g,cap,m,j,EK _,q,u,z,ZB I.symm,J⟩
def lQ.cells {w:World} {e:TypeId} {size:Nat} {v:Value} {n:Nat} {xs:List Value} (h:lQ w e size v n xs) {g:Nat} (I:v.ownBlock=some g):∀j u,xs[j]? =some u→w.cell? ((⟨g,0,none⟩:Addr).add j)=some u:=by
 intro j u z;rcases h.2 with⟨rfl,_⟩|⟨J,cap,L,rfl,_,M,_,_,_,m⟩
 ·simp[Value.ownBlock]at I
 simp[Value.ownBlock]at I;subst I;have q:(⟨J,0,none⟩:Addr).add j=⟨J,j,none⟩:=by unfold Addr.add;split<;>simp_all
 rw[q,cell_of_row w J j L e (0,0) M];rw[←m,sS]at z;split at z
 ·simpa using z
 cases z
structure Ij (ok:Nat→Prop) (w:World) (es:List (Value×D)) (ms:Array MapEntry) (clock:Nat):Prop where
 len:ms.size=es.length
 ent:∀(i:Nat) (e:Value×D) (m:MapEntry),es[i]? =some e→ms[i]? =some m→m.key=e.1∧DF ok w e.2 m.val∧m.born<clock
 inc:∀(i j:Nat) (m n:MapEntry),i<j→ms[i]? =some m→ms[j]? =some n→m.born<n.born
def QT (ms:Array MapEntry) (clock:Nat):Prop:=clock=ms.size∧∀(i:Nat) (e:MapEntry),ms[i]? =some e→e.born=i
def EY (ok:Nat→Prop) (w:World) (H:List BJ) (h:BJ):Aq→Prop
 | .dead=>True
 | .box cs=>∃b vs T,h.v=.pointer (some ⟨b,0,none⟩)∧w.heap[b]? =some (.cells vs T (0,0))∧FQ ok w H cs vs.toList
 | .arr e size es=>h.size=size∧(∀x∈es,x.cells.length=size)∧∃xs,lQ w e size h.v es.length xs∧FQ ok w H (flat es) xs
 | .map es=>∃b ms clock,h.v=.map (some b)∧w.heap[b]? =some (.map ms clock)∧Ij ok w es ms clock
 | .eH es=>∃b ms clock,h.v=.map (some b)∧w.heap[b]? =some (.map ms clock)∧Ij ok w es ms clock∧QT ms clock
 | .iter es vis=>∃bi m ms clock seen,h.v=.pointer (some ⟨bi,0,none⟩)∧w.heap[bi]? =some (.mapIter (some m) clock seen clock)∧ok m∧w.heap[m]? =some (.map ms clock)∧Ij ok w es ms clock∧
  seen.size=vis.length∧∀(j i:Nat),vis[j]? =some i→∃e,ms[i]? =some e∧seen[j]? =some e.born
 | .loop tm slots rc st q=>∃l fn D,h.v=.func (.yield l) #[] #[]∧w.heap[l]? =some (.loop { state:=st,pending:=q,fn,tmps:=tm,params:=rc.1,assign:=rc.2.1,body:=rc.2.2,defers:=D })∧tm.size=slots.length∧∀t,t<slots.length→R ok w H (slots.getD t .junk) (tm.getD t undef)
def Cb :Value→Option Nat
 | .pointer (some a)=>some a.block
 | .slice (some a) _ _=>some a.block
 | .map (some b)=>some b
 | .func (.yield l) _ _=>some l
 |_=>none
structure jY (w0:World) (X:List Nat) (w:World):Prop where
 os:w.os=w0.os
 tape:w.tape=w0.tape
 output:w.output=w0.output
 size:w0.heap.size≤w.heap.size
 block:∀k,k<w0.heap.size→k∉X→w.heap[k]? =w0.heap[k]?
def jY.refl (w:World) (X:List Nat):jY w X w:=⟨rfl,rfl,rfl,Dc _,fun _ _ _=>rfl⟩
def jY.below {w0 w:World} (h:jY w0 [] w):Below w0.heap.size w0 w:=⟨h.os,h.tape,h.output,h.size,fun k j=>h.block k j Am⟩
structure Dw where
 w0:World
 ok0:Nat→Prop
 X:List Nat
 H0:List BJ
structure CS (C:Dw) (ok:Nat→Prop) (H:List BJ) (es:List Aq) (w:World):Prop where
 fr:jY C.w0 C.X w
 xu:∀b,C.ok0 b→ok b
 xw:∀b,ok b→C.ok0 b∨C.w0.heap.size≤b∨b∈C.X
 jM:∀b,ok b→b<w.heap.size
 names:Names C.H0 H
 hlen:H.length=es.length
 ent:∀(k:Nat) (e:Aq) (h:BJ),es[k]? =some e→H[k]? =some h→EY ok w H h e
 blk:∀(k:Nat) (e:Aq) (h:BJ) (b:Nat),es[k]? =some e→e.live=true→H[k]? =some h→Cb h.v=some b→¬ok b∧b<w.heap.size∧(C.w0.heap.size≤b∨b∈C.X)
 Dp:∀(k k':Nat) (e e':Aq) (h h':BJ) (b:Nat),es[k]? =some e→es[k']? =some e'→e.live=true→e'.live=true→H[k]? =some h→H[k']? =some h'→Cb h.v=some b→Cb h'.v=some b→k=k'
def EY.mono {ok ok':Nat→Prop} {w w':World} {H H':List BJ} {h:BJ} {e:Aq} (J:Dz ok w ok' w') (Y:Names H H') (M:e.live=true→∀b,Cb h.v=some b→w'.heap[b]? =w.heap[b]?) (O:EY ok w H h e):EY ok' w' H' h e:=by
 cases e with
 |dead=>trivial
 |box cs=>
  obtain⟨b,vs,T,q,u,j⟩:=O;exact⟨b,vs,T,q,aGF,j.mono J Y⟩
 |arr e s es=>
  obtain⟨q,u,xs,⟨j,I⟩,L⟩:=O;refine⟨q,u,xs,⟨j,?_⟩,L.mono J Y⟩;rcases I with I|⟨g,cap,Z,U,h7,h8,h9⟩
  ·exact .inl I
  exact .inr ⟨g,cap,Z,U,h7,by rw[M rfl g (by rw[U];rfl)];exact h8,h9⟩
 |map es=>
  obtain⟨b,ms,clock,q,u,j⟩:=O;exact⟨b,ms,clock,q,aGF,j.len,fun i e m hi z=>⟨(j.ent i e m hi z).1,(j.ent i e m hi z).2.1.mono J,(j.ent i e m hi z).2.2⟩,j.inc⟩
 |eH es=>
  obtain⟨b,ms,clock,q,u,j,I⟩:=O;exact⟨b,ms,clock,q,aGF,⟨j.len,fun i e m hi z=>⟨(j.ent i e m hi z).1,(j.ent i e m hi z).2.1.mono J,(j.ent i e m hi z).2.2⟩,j.inc⟩,I⟩
 |iter es vis=>
  obtain⟨bi,bm,ms,clock,seen,q,u,j,I,L,U,h7⟩:=O;exact⟨bi,bm,ms,clock,seen,q,by rw[M rfl bi adX];exact u,(J bm j).1,by rw[(J bm j).2];exact I,⟨L.len,fun i e m hi z=>⟨(L.ent i e m hi z).1,(L.ent i e m hi z).2.1.mono J,(L.ent i e m hi z).2.2⟩,L.inc⟩,U,h7⟩
 |loop tm slots rc st pe=>
  obtain⟨l,fn,D,q,u,j,I⟩:=O;exact⟨l,fn,D,q,by rw[M rfl l adX];exact u,j,fun t ht=>(I t ht).mono J Y⟩
def EY.shrink {ok ok':Nat→Prop} {w:World} (hs:∀b o,ok b→(w.cell? ⟨b,o,none⟩).isSome=true→ok' b) (M:∀(b:Nat) (ms:Array MapEntry) (c:Nat),ok b→w.heap[b]? =some (.map ms c)→ok' b) {H:List BJ} {h:BJ} {e:Aq} (J:EY ok w H h e):EY ok' w H h e:=by
 cases e with
 |dead=>trivial
 |box cs=>
  obtain⟨b,vs,T,q,u,j⟩:=J;exact⟨b,vs,T,q,u,j.shrink hs⟩
 |arr e s es=>
  obtain⟨q,u,xs,j,I⟩:=J;exact⟨q,u,xs,j,I.shrink hs⟩
 |map es=>
  obtain⟨b,ms,clock,q,u,j⟩:=J;exact⟨b,ms,clock,q,u,j.len,fun i e m hi z=>⟨(j.ent i e m hi z).1,(j.ent i e m hi z).2.1.shrink hs,(j.ent i e m hi z).2.2⟩,j.inc⟩
 |eH es=>
  obtain⟨b,ms,clock,q,u,j,L⟩:=J;exact⟨b,ms,clock,q,u,⟨j.len,fun i e m hi z=>⟨(j.ent i e m hi z).1,(j.ent i e m hi z).2.1.shrink hs,(j.ent i e m hi z).2.2⟩,j.inc⟩,L⟩
 |iter es vis=>
  obtain⟨bi,O,ms,clock,seen,q,u,j,L,I,U,Y⟩:=J;exact⟨bi,O,ms,clock,seen,q,u,M O ms clock j L,L,⟨I.len,fun i e m hi z=>⟨(I.ent i e m hi z).1,(I.ent i e m hi z).2.1.shrink hs,(I.ent i e m hi z).2.2⟩,I.inc⟩,U,Y⟩
 |loop tm slots rc st pe=>
  obtain⟨l,fn,D,q,u,j,L⟩:=J;exact⟨l,fn,D,q,u,j,fun t Z=>(L t Z).shrink hs⟩
def EY.drew {ok:Nat→Prop} {w:World} {H:List BJ} {h:BJ} {e:Aq} {n:Nat} (j:EY ok w H h e):EY ok { w with drawn:=n } H h e:=
 EY.mono (w:=w) (ok:=ok) (fun _ m=>⟨m,rfl⟩) (.refl _) (fun _ _ _=>rfl) j
def BN (P:Program) (o:Oper) (ns:List (Operand×AV)) (es:List Aq) (x:AV) (es':List Aq):Prop:=
 ∀(C:Dw) (ok:Nat→Prop) (H:List BJ) (a:Act) (w:World) (Q:Exit→Act→World→Prop),
  CS C ok H es w→(∀n∈ns,R ok w H n.2 (a.eval n.1))→
  o.wp P a w (fun a' w'=>∃v ok' H',a'=a.put o.dst v∧Dz ok w ok' w'∧Names H H'∧CS C ok' H' es' w'∧R ok' w' H' x v) Q
def BN.pure {P:Program} {o:Oper} {ns:List (Operand×AV)} {es:List Aq} {x:AV}
 (h:∀(ok:Nat→Prop) (H:List BJ) (a:Act) (w:World),(∀(k:Nat) (e:Aq) (h:BJ),es[k]? =some e→H[k]? =some h→EY ok w H h e)→H.length=es.length→(∀n∈ns,R ok w H n.2 (a.eval n.1))→∃v,(execOp a.eval o).run P w=.ok (.value v) w∧R ok w H x v):BN P o ns es x es:=by
 intro C ok H a w Q j m;obtain⟨v,q,u⟩:=h ok H a w j.ent j.hlen m;unfold Oper.wp;rw[q];exact⟨v,ok,H,rfl,.refl _ _,.refl _,j,u⟩
structure Aj where
 slots:List AV
 ents:List Aq
 base:Nat:=0
def Aj.get (σ:Aj):Operand→AV
 | .tmp t=>σ.slots.getD t .junk
 | .const v=>.d (.lit v)
 | .global g=>.d (.lit (.pointer (some ⟨g,0,none⟩)))
 | .func f=>.d (.fn (.func f) [] [])
def Aj.put (σ:Aj) (d:Option Tmp) (x:AV) (es:List Aq):Aj:=
 ⟨match d with |some t=>σ.slots.set t x|none=>σ.slots,es,σ.base⟩
def Aj.qG (σ:Aj) (d:Option Tmp) (x:AV):Aj:=
 ⟨match d with |some t=>σ.slots.set t x|none=>σ.slots,σ.ents,σ.base⟩
def Aj.WA (σ:Aj) (d:Option Tmp) (x:AV):σ.qG d x=σ.put d x σ.ents:=rfl
def Marks (C:Dw) (ok:Nat→Prop) (w:World) (j:List Deferred):Prop:=
 ∃Ds:List Nat,j=Ds.map (fun D=>{ target:=.collected D,args:= #[] })∧Ds.Nodup∧∀D∈Ds,ok D∧C.w0.heap.size≤D∧w.heap[D]? =some (.deferred (some []))
def Marks.nil (C:Dw) (ok:Nat→Prop) (w:World):Marks C ok w []:=⟨[],rfl,Vx,fun _ h=>Fr⟩
def Marks.mono {C:Dw} {ok ok':Nat→Prop} {w w':World} {q:List Deferred} (h:Marks C ok w q) (u:Dz ok w ok' w'):Marks C ok' w' q:=by
 obtain⟨Ds,z,I,j⟩:=h;exact⟨Ds,z,I,fun D m=>⟨(u D (j D m).1).1,(j D m).2.1,((u D (j D m).1).2).trans (j D m).2.2⟩⟩
structure Holds (C:Dw) (ok:Nat→Prop) (H:List BJ) (σ:Aj) (a:Act) (w:World):Prop where
 mem:CS C ok H σ.ents w
 size:a.tmps.size=σ.slots.length
 defers:Marks C ok w a.defers
 base:C.H0.length=σ.base
 slot:∀t,t<σ.slots.length→R ok w H (σ.slots.getD t .junk) (a.tmps.getD t undef)
def cO {l:List AV} {t:Nat} (h:¬t<l.length):l.getD t .junk=.junk:=by
 simp[List.getD,Gu (TN h)]
def Holds.get {C:Dw} {ok:Nat→Prop} {H:List BJ} {σ:Aj} {a:Act} {w:World} (h:Holds C ok H σ a w) (x:Operand):R ok w H (σ.get x) (a.eval x):=by
 cases x with
 |tmp t=>
  show R ok w H (σ.slots.getD t .junk) (a.tmps.getD t undef);by_cases j:t<σ.slots.length
  ·exact h.slot t j
  rw[cO j];exact .junk _
 |const v=>exact .d _ _ (.lit v)
 |global g=>exact .d _ _ (.lit _)
 |func f=>exact .d _ _ (.fn (.func f) [] [] #[] #[] rfl rfl (fun i hi=>MO) (fun i hi=>MO))
def Holds.put {C:Dw} {ok ok':Nat→Prop} {H H':List BJ} {σ:Aj} {a:Act} {w w':World} (h:Holds C ok H σ a w) (d:Option Tmp) {x:AV} {v:Value} {es':List Aq}
 (m:Dz ok w ok' w') (z:Names H H') (I:CS C ok' H' es' w') (J:R ok' w' H' x v):Holds C ok' H' (σ.put d x es') (a.put d v) w':=by
 cases d with
 |none=>exact⟨I,h.size,h.defers.mono m,h.base,fun t j=>(h.slot t j).mono m z⟩
 |some d=>
  refine⟨I,by simp[Aj.put,Act.put,h.size],h.defers.mono m,h.base,fun t j=>?_⟩;simp only[Aj.put,Zx]at j;simp only[Aj.put,Act.put];by_cases e:d=t
  ·subst e;have q:(σ.slots.set d x).getD d .junk=x:=aEY
   have u:(a.tmps.setIfInBounds d v).getD d undef=v:=by simp[Array.getD,h.size,j]
   rw[q,u];exact J
  have q:(σ.slots.set d x).getD t .junk=σ.slots.getD t .junk:=aIH
  have u:(a.tmps.setIfInBounds d v).getD t undef=a.tmps.getD t undef:=by simp[Gj,Ja e]
  rw[q,u];exact(h.slot t j).mono m z
def AV.sQ (π:List (Nat×Bool)):AV→AV
 | .d x=>.d x
 | .ptr k off=>match π.idxOf? (k,true)with |some j=>.ptr j off|none=>.junk
 | .aY k=>match π.idxOf? (k,true)with |some j=>.aY j|none=>.junk
 | .kT k i off=>match π.idxOf? (k,true)with |some j=>.kT j i off|none=>.junk
 | .mp k=>match π.idxOf? (k,true)with |some j=>.mp j|none=>.junk
 | .vT k=>match π.idxOf? (k,true)with |some j=>.vT j|none=>.junk
 | .clip xs=>.clip xs
 |_=>.junk
def AV.back (π:List (Nat×Bool)):AV→AV
 | .fn f first cap=>.fn f (first.map (AV.sQ π)) (cap.map (AV.sQ π))
 | .eF vs=>.eF (vs.map (AV.sQ π))
 |x=>x.sQ π
def Aq.back (π:List (Nat×Bool)):Aq→Aq
 | .dead=>.dead
 | .box cs=>.box (cs.map (AV.sQ π))
 | .arr e s es=>.arr e s es
 | .map es=>.map es
 | .eH es=>.eH es
 | .iter es vis=>.iter es vis
 | .loop tm slots rc st j=>.loop tm (slots.map (AV.back π)) rc st j
def sF {π:List (Nat×Bool)} {H:List BJ} {k j:Nat} {h:BJ} (q:π.idxOf? (k,true)=some j) (u:H[k]? =some h):(π.map fun p=>H.getD p.1 ⟨undef,0⟩)[j]? =some h:=by
 rw[List.idxOf?,aPA]at q;obtain⟨m,z, -⟩:=q;have e:π[j]=(k,true):=SS
 simp[m,e,List.getD,u]
def R.sQ {ok:Nat→Prop} {w:World} {H:List BJ} (π:List (Nat×Bool)) {x:AV} {v:Value} (h:R ok w H x v):R ok w (π.map fun p=>H.getD p.1 ⟨undef,0⟩) (x.sQ π) v:=by
 cases h with
 |d x v h=>exact .d x v h
 |ptr k off b s h=>
  simp only[AV.sQ];split<;>rename_i j m
  ·exact .ptr _ off b s (sF m h)
  exact .junk _
 |aY k ad n cap s h=>
  simp only[AV.sQ];split<;>rename_i j m
  ·exact .aY _ ad n cap s (sF m h)
  exact .junk _
 |kT k i off b n cap s h=>
  simp only[AV.sQ];split<;>rename_i j m
  ·exact .kT _ i off b n cap s (sF m h)
  exact .junk _
 |mp k v s hl h=>
  simp only[AV.sQ];split<;>rename_i j m
  ·exact .mp _ v s hl (sF m h)
  exact .junk _
 |clip xs ad h=>exact .clip xs ad h
 |vT k ad n cap s h=>
  simp only[AV.sQ];split<;>rename_i j m
  ·exact .vT _ ad n cap s (sF m h)
  exact .junk _
 |fn f first cap vs us hl q h h'=>exact .junk _
 |eF xs vs hl h=>exact .junk _
 |ag xs vs hl u h=>exact .junk _
 |junk v=>exact .junk _
def TS (f:AV→AV) (l:List AV) (i:Nat) (h:i<l.length):(l.map f).getD i .junk=f (l.getD i .junk):=by
 simp[List.getD,h]
def R.back {ok:Nat→Prop} {w:World} {H:List BJ} (π:List (Nat×Bool)) {x:AV} {v:Value} (h:R ok w H x v):R ok w (π.map fun p=>H.getD p.1 ⟨undef,0⟩) (x.back π) v:=by
 cases h with
 |fn f first cap vs us hl j h h'=>
  exact .fn f _ _ vs us Zc gu (fun i hi=>aeb) (fun i hi=>by rw[C9]at hi;rw[TS _ _ _ hi];exact(h' i hi).sQ π)
 |eF xs vs hl h=>exact .eF _ vs Zc (fun i hi=>aeb)
 |ag xs vs hl m h=>exact .junk _
 |d x v h=>exact(R.d x v h).sQ π
 |ptr k off b s h=>exact(R.ptr k off b s h).sQ π
 |aY k ad n cap s h=>exact(R.aY k ad n cap s h).sQ π
 |kT k i off b n cap s h=>exact(R.kT k i off b n cap s h).sQ π
 |mp k v s hl h=>exact(R.mp k v s hl h).sQ π
 |clip xs ad h=>exact(R.clip xs ad h).sQ π
 |vT k ad n cap s h=>exact(R.vT k ad n cap s h).sQ π
 |junk v=>exact .junk _
def Aq.backOk (π:List (Nat×Bool)):Aq→Bool
 | .box cs=>cs.all fun x=>(x.sQ π).leaf
 |_=>true
def TI (base:Nat) (es:List Aq) (π:List (Nat×Bool)):Bool:=
 π.all (fun p=>decide (p.1<es.length))&&decide ((π.filterMap fun p=>if p.2 then some p.1 else none).Nodup)&&((π.take base).map (·.1)==List.range base)&&π.all fun p=>(es.getD p.1 .dead).backOk π
def Qy (es:List Aq) (π:List (Nat×Bool)):List Aq:=π.map fun p=>if p.2 then(es.getD p.1 .dead).back π else .dead
def aRr :∀{π:List (Nat×Bool)},(π.filterMap fun p=>if p.2 then some p.1 else none).Nodup→∀(i j k:Nat),π[i]? =some (k,true)→π[j]? =some (k,true)→i=j
 | [],_,i,j,k,h,_=>Gv
 |p::π,m,i,j,k,hi,u=>by
  have q:∀(n:Nat),π[n]? =some (k,true)→k∈π.filterMap fun p=>if p.2 then some p.1 else none:=fun n h=>by
   rw[SN];exact⟨_,VJ h,rfl⟩
  have z:(π.filterMap fun p=>if p.2 then some p.1 else none).Nodup:=by
   rw[Ny]at m;split at m
   ·exact m
   exact(JX.1 m).2
  match i,j with
  |0,0=>rfl
  |0,j+1=>
   simp at hi u;subst hi;simp only[Ny,J5]at m;exact absurd (q j u) (JX.1 m).1
  |i+1,0=>
   simp at hi u;subst u;simp only[Ny,J5]at m;exact absurd (q i hi) (JX.1 m).1
  |i+1,j+1=>rw[aRr z i j k FU LJ]
def EY.back {ok:Nat→Prop} {w:World} {H:List BJ} {h:BJ} {e:Aq} (π:List (Nat×Bool)) (M:e.backOk π=true) (j:EY ok w H h e):EY ok w (π.map fun p=>H.getD p.1 ⟨undef,0⟩) h (e.back π):=by
 cases e with
 |dead=>trivial
 |box cs=>
  obtain⟨b,vs,T,m,q,u,z⟩:=j;refine⟨b,vs,T,m,q,LJ,fun i hi=>?_⟩;rw[C9]at hi;rw[TS _ _ _ hi];refine⟨?_,(z i hi).2.sQ π⟩;simp only[Aq.backOk,E5]at M;exact M _ LX
 |arr e s es=>
  obtain⟨m,q,xs,u,z,O⟩:=j;refine⟨m,q,xs,u,z,fun i hi=>⟨(O i hi).1,?_⟩⟩;have I:=(O i hi).2;have J:(flat es).getD i .junk∈flat es:=LX
  unfold flat at J ⊢;simp only[RX,FH]at J;obtain⟨x,_,y,_,U⟩:=J;unfold flat at I;rw[←U]at I ⊢;cases I with |d _ _ h=>exact .d _ _ h
 |map es=>exact j
 |eH es=>exact j
 |iter es vis=>exact j
 |loop tm slots rc st Y=>
  obtain⟨l,fn,D,m,q,u,z⟩:=j;refine⟨l,fn,D,m,q,LJ,fun t L=>?_⟩;rw[C9]at L;rw[TS _ _ _ L];exact(z t L).back π
def aNe {π:List (Nat×Bool)} {e:Aq}:(e.back π).live=e.live:=by cases e<;>rfl
def CS.norm {C:Dw} {ok:Nat→Prop} {H:List BJ} {es:List Aq} {w:World} (M:CS C ok H es w) (π:List (Nat×Bool)) (Y:TI C.H0.length es π=true):
 CS C ok (π.map fun p=>H.getD p.1 ⟨undef,0⟩) (Qy es π) w:=by
 unfold TI at Y;simp only[CV,Fb,PZ,E5]at Y;obtain⟨⟨⟨hlt,hnd⟩,hpre⟩,hbk⟩:=Y
 have u:∀(j:Nat) (h:BJ),(π.map fun p=>H.getD p.1 ⟨undef,0⟩)[j]? =some h→∃p,π[j]? =some p∧p.1<es.length∧H[p.1]? =some h:=by
  intro j h m;rw[Ia]at m;cases q:π[j]? with
  |none=>rw[q]at m;simp at m
  |some p=>
   rw[q]at m;have z:p.1<es.length:=hlt p (VJ q);refine⟨p,rfl,z,?_⟩;have hkH:p.1<H.length:=by rw[M.hlen];exact z
   simp[List.getD,hkH]at m ⊢;exact m
 have I:∀(j:Nat) (p:Nat×Bool) (e:Aq),(Qy es π)[j]? =some e→π[j]? =some p→p.1<es.length→(p.2=false∧e=.dead)∨(p.2=true∧∃O,es[p.1]? =some O∧e=O.back π∧p∈π):=by
  intro j p e m q z;unfold Qy at m;rw[Ia,q]at m;cases hb:p.2 with
  |false=>simp[hb]at m;exact .inl ⟨rfl,m.symm⟩
  |true=>
   simp[hb,List.getD,z]at m;exact .inr ⟨rfl,es[p.1],by simp[z],m.symm,VJ q⟩
 refine⟨M.fr,M.xu,M.xw,M.jM,?_,by simp[Qy],?_,?_,?_⟩
 ·intro k v hv;have z:k<C.H0.length:=(FB.1 hv).1;have h1:((π.take C.H0.length).map (·.1))[k]? =some k:=by rw[hpre];simp[z]
  rw[Ia,Ln z]at h1;have h2:=M.names k v hv;cases q:π[k]? with
  |none=>rw[q]at h1;simp at h1
  |some p=>
   rw[q]at h1;have hpk:p.1=k:=by simpa using h1
   rw[Ia,q];simp[List.getD,hpk,h2]
 ·intro j e h m hh;obtain⟨p,q,z,hH⟩:=u j h hh;rcases I j p e m q z with⟨_,rfl⟩|⟨_,O,J,rfl,L⟩
  ·trivial
  refine(M.ent p.1 O h J hH).back π ?_;have :=hbk p L;simpa[List.getD,J]using this
 ·intro j e h b m hl hh hb;obtain⟨p,q,z,hH⟩:=u j h hh;rcases I j p e m q z with⟨_,rfl⟩|⟨_,O,J,rfl,L⟩
  ·cases hl
  rw[aNe]at hl;exact M.blk p.1 O h b J hl hH hb
 intro j j' e e' h h' b m hj' hl Z hh hh' hb hb';obtain⟨p,q,z,hH⟩:=u j h hh;obtain⟨p',hp',hk',hH'⟩:=u j' h' hh';rcases I j p e m q z with⟨_,rfl⟩|⟨hpt,O,J,rfl,L⟩
 ·cases hl
 rcases I j' p' e' hj' hp' hk' with⟨_,rfl⟩|⟨U,e0',aCO,rfl,hmem'⟩
 ·cases Z
 rw[aNe]at hl Z;have hkk:=M.Dp p.1 p'.1 O e0' h h' b J aCO hl Z hH hH' hb hb';obtain⟨k,bb⟩:=p;obtain⟨k',bb'⟩:=p';simp only at hkk hpt U;subst hkk;subst hpt;subst U;exact aRr hnd j j' k q hp'
def Jv (π:List (Nat×Bool)):List Bool→List AV→List AV
 |_,[]=>[]
 |true::m,x::xs=>x.back π::Jv π m xs
 |false::m,_::xs=>.junk::Jv π m xs
 | [],_::xs=>.junk::Jv π [] xs
def aES (π:List (Nat×Bool)):∀(m:List Bool) (l:List AV),(Jv π m l).length=l.length
 |_,[]=>by unfold Jv;rfl
 |true::m,x::xs=>by simp[Jv,aES π m xs]
 |false::m,x::xs=>by simp[Jv,aES π m xs]
 | [],x::xs=>by simp[Jv,aES π [] xs]
def xq (π:List (Nat×Bool)):∀(m:List Bool) (l:List AV) (t:Nat),(Jv π m l).getD t .junk=(l.getD t .junk).back π∨(Jv π m l).getD t .junk=.junk
 |_,[],t=>by unfold Jv;right;simp
 |true::m,x::xs,0=>by left;simp[Jv]
 |false::m,x::xs,0=>by right;simp[Jv]
 | [],x::xs,0=>by right;simp[Jv]
 |true::m,x::xs,t+1=>by simpa[Jv]using xq π m xs t
 |false::m,x::xs,t+1=>by simpa[Jv]using xq π m xs t
 | [],x::xs,t+1=>by simpa[Jv]using xq π [] xs t
def vk (σ S:Aj):Prop:=∃(m:List Bool) (π:List (Nat×Bool)),TI σ.base σ.ents π=true∧S=⟨Jv π m σ.slots,Qy σ.ents π,σ.base⟩
def Holds.aCP {C:Dw} {ok:Nat→Prop} {H:List BJ} {σ S:Aj} {a:Act} {w:World} (h:Holds C ok H σ a w) (hs:vk σ S):∃H',Holds C ok H' S a w:=by
 obtain⟨m,π,j,rfl⟩:=hs;refine⟨π.map fun p=>H.getD p.1 ⟨undef,0⟩,h.mem.norm π (h.base▸j),by simp[aES,h.size],h.defers,h.base,fun t q=>?_⟩;rcases xq π m σ.slots t with e|e
 ·simp only[e];exact(h.get (.tmp t)).back π
 simp only[e];exact .junk _
def CO (σ S:Aj):Prop:=∀(C:Dw) (ok:Nat→Prop) (H:List BJ) (a:Act) (w:World),Holds C ok H σ a w→∃ok' H',Holds C ok' H' S a w
def vk.sub {σ S:Aj} (h:vk σ S):CO σ S:=fun _ ok _ _ _ j=>let⟨H',h'⟩:=j.aCP h;⟨ok,H',h'⟩
def aiy {σ S:Aj} (j:Aj) (h:∀C ok H a w,Holds C ok H σ a w→∃ok',Holds C ok' H j a w) (k:CO j S):CO σ S:=fun C _ H a w m=>let⟨ok',h'⟩:=h C _ H a w m;k C ok' H a w h'
section
variable {P : Program} {ops : Array Oper} {Q : Exit → Act → World → Prop}
def toCome (j:Array Bool):Nat:=(j.toList.filter (!·)).length
def toCome_set {j:Array Bool} {i:Nat} (hi:i<j.size) (h:j.getD i true=false):toCome (j.setIfInBounds i true)+1=toCome j:=by
 unfold toCome;have hl:j.toList[i]' FU=false:=by simpa[Array.getD,hi]using h
 have e:j.toList=j.toList.take i++false::j.toList.drop (i+1):=by
  rw[←hl,List.getElem_cons_drop,Z4]
 have m:(j.setIfInBounds i true).toList=j.toList.take i++true::j.toList.drop (i+1):=by
  rw[aHp,aGa,CJ FU]
 rw[m]
 conv=>rhs;rw[e]
 simp[Ot];omega
def written (ops:Array Oper):List Tmp:=ops.toList.filterMap (·.dst)
def Ut (ops:Array Oper):Bool:=(List.range ops.size).all fun i=>(List.range ops.size).all fun j=>i==j||match(ops[i]?).bind (·.dst),(ops[j]?).bind (·.dst)with
 |some d,some m=>d != m
 |_,_=>true
def UC (ops:Array Oper) (n:Nat):Bool:=(written ops).all fun d=>decide (d<n)
def aHe (h:Ut ops=true):∀(i j:Nat) (o m:Oper) (d:Tmp),ops[i]? =some o→ops[j]? =some m→o.dst=some d→m.dst=some d→i=j:=by
 intro i j o m d q u z I;unfold Ut at h;rw[E5]at h;have hi:i<ops.size:=(FX.1 q).1;have J:j<ops.size:=(FX.1 u).1;have :=h i FU;rw[E5]at this;have :=this j TJ;rw[q,u]at this;simp[z,I]at this;exact this
def aIV {i:Nat} {o:Oper} {d:Tmp} (h:ops[i]? =some o) (hd:o.dst=some d):d∈written ops:=by
 unfold written;rw[SN]
 exact⟨o,by
  have⟨hi,j⟩:=FX.1 h
  rw[←j];exact Array.getElem_mem_toList hi,hd⟩
def aMQ {a:Act} {d:Tmp} {v:Value} (h:d<a.tmps.size):(a.put (some d) v).tmps.getD d undef=v:=by
 simp[Act.put,Array.getD,h]
def aHU {a:Act} {d t:Tmp} {v:Value} (h:d≠t):(a.put (some d) v).tmps.getD t undef=a.tmps.getD t undef:=by
 simp[Act.put,Gj,Ja h]
def size_put {a:Act} {d:Option Tmp} {v:Value}:(a.put d v).tmps.size=a.tmps.size:=by cases d<;>simp[Act.put]
def akT {a:Act} {d:Option Tmp} {v:Value}:(a.put d v).defers=a.defers:=by cases d<;>rfl
end
def Um (ops:Array Oper) (σ:Aj) (g:Option (Nat×Bool)):Prop:=g=none∨
 ∃j m d b,g=some (j,m)∧(ops[j]?).bind (·.dst)=some d∧σ.slots.getD d .junk=.d (.lit (.bool b))∧b=m
def WZ (ops:Array Oper) (σ:Aj) (g:Option (Nat×Bool)):Prop:=
 ∃j m d v,g=some (j,m)∧(ops[j]?).bind (·.dst)=some d∧σ.slots.getD d .junk=.d (.lit v)∧(v=.bool (!m)∨v=undef)
def asB {ops:Array Oper} {σ:Aj} {g:Option (Nat×Bool)} (j:Nat) (m:Bool) (d:Nat) (b:Bool) (q:g=some (j,m)) (hd:(ops[j]?).bind (·.dst)=some d) (hs:σ.slots.getD d .junk=.d (.lit (.bool b))) (u:b= !m):WZ ops σ g:=⟨j,m,d,_,q,hd,hs,.inl (by rw[u])⟩
def afU {ops:Array Oper} {σ:Aj} {g:Option (Nat×Bool)} (j:Nat) (m:Bool) (d:Nat) (q:g=some (j,m)) (hd:(ops[j]?).bind (·.dst)=some d) (hs:σ.slots.getD d .junk=.d (.lit undef)):WZ ops σ g:=⟨j,m,d,_,q,hd,hs,.inr rfl⟩
def R.bool {ok:Nat→Prop} {w:World} {H:List BJ} {u v:Value} (h:R ok w H (.d (.lit u)) v):v=u:=by
 cases h with |d _ _ h=>cases h;rfl
def arA {C:Dw} {ok:Nat→Prop} {H:List BJ} {σ:Aj} {a:Act} {w:World} (h:Holds C ok H σ a w) {ops:Array Oper} {j d:Nat} {v:Value}
 (u:(ops[j]?).bind (·.dst)=some d) (m:σ.slots.getD d .junk=.d (.lit v)):yielded ops a.tmps j=(match v with | .bool b=>some b|_=>none):=by
 have hd:d<σ.slots.length:=by
  apply Ve;intro z;rw[cO z]at m;cases m
 have q:=(m▸h.slot d hd).bool
 have hs:a.tmps[d]? =some v:=by
  have :d<a.tmps.size:=by rw[h.size];exact hd
  simp[Array.getD,this]at q;simp[this,q]
 unfold yielded;rw[u];simp only[AQ,hs];cases v<;>rfl
def ajq {C:Dw} {ok:Nat→Prop} {H:List BJ} {σ:Aj} {a:Act} {w:World} (h:Holds C ok H σ a w) {ops:Array Oper} {j d:Nat} {b:Bool}
 (u:(ops[j]?).bind (·.dst)=some d) (m:σ.slots.getD d .junk=.d (.lit (.bool b))):yielded ops a.tmps j=some b:=by
 have hd:d<σ.slots.length:=by
  apply Ve;intro z;rw[cO z]at m;cases m
 have q:=(m▸h.slot d hd).bool
 have hs:a.tmps[d]? =some (.bool b):=by
  have :d<a.tmps.size:=by rw[h.size];exact hd
  simp[Array.getD,this]at q;simp[this,q]
 unfold yielded;rw[u];simp only[AQ,hs]
def OH {C:Dw} {ok:Nat→Prop} {H:List BJ} {σ:Aj} {a:Act} {w:World} (h:Holds C ok H σ a w) {ops:Array Oper} {o:Oper} (m:Um ops σ o.guard):Region.wanted o (yielded ops a.tmps)=true:=by
 unfold Region.wanted;rcases m with m|⟨j,q,d,b,m,u,z,rfl⟩
 ·rw[m]
 rw[m];show(yielded ops a.tmps j==some b)=true;rw[ajq h u z];simp
def aHO {C:Dw} {ok:Nat→Prop} {H:List BJ} {σ:Aj} {a:Act} {w:World} (h:Holds C ok H σ a w) {ops:Array Oper} {o:Oper} (q:WZ ops σ o.guard):Region.wanted o (yielded ops a.tmps)=false:=by
 unfold Region.wanted;obtain⟨j,m,d,v,q,u,z,I⟩:=q;rw[q];show(yielded ops a.tmps j==some m)=false;rw[arA h u z];rcases I with rfl|rfl
 ·simp
 rfl
def needs (σ:Aj):List (Operand×AV)→Prop
 | []=>True
 |n::ns=>σ.get n.1=n.2∧needs σ ns
def Ou {σ:Aj}:∀{ns:List (Operand×AV)},needs σ ns→∀n∈ns,σ.get n.1=n.2
 | [],_,n,h=>Gv
 |m::ns,j,n,h=>by
  rcases EO.1 h with rfl|h
  ·exact j.1
  exact Ou j.2 n h
def tmpsOf (o:Oper):List Tmp:=o.op.operands.toList.filterMap fun | .tmp t=>some t|_=>none
def KF (ns:List (Operand×AV)):List Tmp:=ns.filterMap fun n=>match n.1 with | .tmp t=>some t|_=>none
def Qe (P:Program) (ops:Array Oper) (σ:Aj) (x:AV) (E:List Aq) (bar:Bool) (o:Oper):Prop:=
 ((∃ns,BN P o ns σ.ents x E∧needs σ ns∧(KF ns).all (tmpsOf o).contains=true∧Um ops σ o.guard)∨(x=.d (.lit undef)∧E=σ.ents∧WZ ops σ o.guard))∧(bar=false→E=σ.ents)
def aOq {P:Program} {ops:Array Oper} {σ:Aj} {x:AV} {o:Oper} {ns:List (Operand×AV)} (h:BN P o ns σ.ents x σ.ents) (j:needs σ ns) (m:Um ops σ o.guard) (q:(KF ns).all (tmpsOf o).contains=true):Qe P ops σ x σ.ents false o:=
 ⟨.inl ⟨ns,h,j,q,m⟩,fun _=>rfl⟩
def IE (ro:Option Nat):Fence:={ fn:=fun _=>True,depth:=none,alive:=false,round:=ro }
def aDR {ro:Option Nat} {n:Nat} {P:Program} {f:FuncId} {args:Array Value} {w:World} {R:Ending→World→Prop}:CallsIn (IE ro) n P f args w R↔Calls P f args w R:=
 callsIn_wide (n:=n)
def akR {ro:Option Nat} {n:Nat} {P:Program} {j:String} {args:Array Value} {w:World} {R:Value→World→Prop} (h:Rows P j args w R):RowsIn (IE ro) n P j args w R:=
 fun c cs _=>let⟨v,w',r,s⟩:=h c cs;⟨v,w',r,(stepsIn_wide (P:=P)).2 s⟩
def BN.azg {P:Program} {o:Oper} {ns:List (Operand×AV)} {es es':List Aq} {x:AV} (h:BN P o ns es x es') {C:Dw} {ok:Nat→Prop} {H:List BJ} {a:Act} {w:World} (q:CS C ok H es w) (u:∀n∈ns,R ok w H n.2 (a.eval n.1)):∀c,o.op≠ .defer c:=by
 intro c z;have j:=h C ok H a w (fun _ _ _=>False) q u;unfold Oper.wp execOp at j;rw[z]at j;simp only[Ep]at j;cases m:(resolve a.eval c o.type).run P w with
 |ok d w'=>
  rw[m]at j;simp only[Result.andThen]at j;obtain⟨v,_,_,I,_⟩:=j;have :=BH (fun a=>a.defers.length) I;cases J:o.dst<;>simp[Act.put,J]at this
 |halt x w'=>
  rw[m]at j;cases x<;>exact j
def BN.inR {P:Program} {o:Oper} {ns:List (Operand×AV)} {es es':List Aq} {x:AV} (h:BN P o ns es x es') (ro:Option Nat) (C:Dw) (ok:Nat→Prop) (H:List BJ) (a:Act) (w:World) (Q:Exit→Act→World→Prop)
 (m:CS C ok H es w) (q:∀n∈ns,R ok w H n.2 (a.eval n.1)):
 o.wpIn (IE ro) 0 P a w (fun a' w'=>∃v ok' H',a'=a.put o.dst v∧Dz ok w ok' w'∧Names H H'∧CS C ok' H' es' w'∧R ok' w' H' x v) Q:=by
 have j:=h C ok H a w Q m q;refine⟨fun _ _=>trivial,?_⟩;rw[eX _ _ _ (h.azg m q)];unfold Oper.wp at j;generalize(execOp a.eval o).run P w=r at j;cases r with
 |ok n w'=>
  cases n<;>first
   |exact j
   |exact j.elim
   |exact⟨fun h=>Fr,aDR.2 j⟩
   |exact⟨fun h=>Fr,akR j⟩
 |halt x w'=>cases x<;>exact j
inductive Chain (P:Program) (ops:Array Oper):List Oper→Aj→Aj→Prop
 |nil (σ:Aj):Chain P ops [] σ σ
 |op {o:Oper} {rest:List Oper} {σ σ':Aj} {ns:List (Operand×AV)} {x:AV} (d:Option Tmp) (h:BN P o ns σ.ents x σ.ents) (hn:needs σ ns) (hg:Um ops σ o.guard) (hd:o.dst=d)
  (k:Chain P ops rest (σ.qG d x) σ'):Chain P ops (o::rest) σ σ'
 |oe {o:Oper} {rest:List Oper} {σ σ':Aj} {ns:List (Operand×AV)} {x:AV} {es':List Aq} (d:Option Tmp) (E:List Aq) (h:BN P o ns σ.ents x es') (he:es'=E) (hn:needs σ ns) (hg:Um ops σ o.guard) (hd:o.dst=d)
  (k:Chain P ops rest (σ.put d x E) σ'):Chain P ops (o::rest) σ σ'
 |skip {o:Oper} {rest:List Oper} {σ σ':Aj} (d:Option Tmp) (hg:WZ ops σ o.guard) (hd:o.dst=d) (k:Chain P ops rest (σ.qG d (.d (.lit undef))) σ'):Chain P ops (o::rest) σ σ'
 |any {o:Oper} {rest:List Oper} {σ σ':Aj} {x:AV} (d:Option Tmp) (h:Qe P ops σ x σ.ents false o) (hd:o.dst=d) (k:Chain P ops rest (σ.qG d x) σ'):Chain P ops (o::rest) σ σ'
 |ac1 {o:Oper} {rest:List Oper} {σ σ':Aj} {x:AV} {E:List Aq} {bar:Bool} (d:Option Tmp) (h:Qe P ops σ x E bar o) (hd:o.dst=d) (k:Chain P ops rest (σ.put d x E) σ'):Chain P ops (o::rest) σ σ'
 |conv {rest:List Oper} {σ σ':Aj} (σ2:Aj) (h:∀C ok H a w,Holds C ok H σ a w→∃ok',Holds C ok' H σ2 a w) (k:Chain P ops rest σ2 σ'):Chain P ops rest σ σ'
def Chain.sound {P:Program} {ops:Array Oper} {l:List Oper} {σ σ':Aj} (h:Chain P ops l σ σ') {ro:Option Nat} {C:Dw} {H0:List BJ} {Q:Exit→Act→World→Prop}:
 ∀{ok:Nat→Prop} {H:List BJ} {a:Act} {w:World},Holds C ok H σ a w→Names H0 H→(∀ok' H' a' w',Holds C ok' H' σ' a' w'→Names H0 H'→Q .normal a' w')→wpListIn (IE ro) 0 P ops Q l a w:=by
 induction h with
 |nil σ=>intro ok H a w j M u;exact u ok H a w j M
 | @op o rest σ σ' ns x d O M J hd k L=>
   intro ok H a w j m u;subst hd;unfold wpListIn;rw[CJ (OH j J)];refine Pm ?_ (O.inR ro C ok H a w Q j.mem (fun n z=>Ou M n z▸j.get n.1));rintro a' w' ⟨v,ok',H',rfl,I,q,U,Y⟩;exact L (j.put o.dst I q U Y) (m.trans q) u
 | @oe o rest σ σ' ns x es' d E O he M J hd k L=>
   intro ok H a w j m u;subst hd;subst he;unfold wpListIn;rw[CJ (OH j J)];refine Pm ?_ (O.inR ro C ok H a w Q j.mem (fun n z=>Ou M n z▸j.get n.1));rintro a' w' ⟨v,ok',H',rfl,I,q,U,Y⟩;exact L (j.put o.dst I q U Y) (m.trans q) u
 | @skip o rest σ σ' d J hd k L=>
   intro ok H a w j m u;subst hd;unfold wpListIn;rw[CU aU];exact⟨fun _ _=>trivial,L (j.put o.dst (.refl _ _) (.refl _) j.mem (.d _ _ (.lit _))) m u⟩
 | @any o rest σ σ' x d hs hd k L=>
   intro ok H a w j m u;subst hd;unfold wpListIn;rcases hs.1 with⟨ns,O,M,_,J⟩|⟨rfl,_,J⟩
   ·rw[CJ (OH j J)];refine Pm ?_ (O.inR ro C ok H a w Q j.mem (fun n z=>Ou M n z▸j.get n.1));rintro a' w' ⟨v,ok',H',rfl,I,q,U,Y⟩;exact L (j.put o.dst I q U Y) (m.trans q) u
   rw[CU aU];exact⟨fun _ _=>trivial,L (j.put o.dst (.refl _ _) (.refl _) j.mem (.d _ _ (.lit _))) m u⟩
 | @ac1 o rest σ σ' x E bar d hs hd k L=>
   intro ok H a w j m u;subst hd;unfold wpListIn;rcases hs.1 with⟨ns,O,M,_,J⟩|⟨rfl,rfl,J⟩
   ·rw[CJ (OH j J)];refine Pm ?_ (O.inR ro C ok H a w Q j.mem (fun n z=>Ou M n z▸j.get n.1));rintro a' w' ⟨v,ok',H',rfl,I,q,U,Y⟩;exact L (j.put o.dst I q U Y) (m.trans q) u
   rw[CU aU];exact⟨fun _ _=>trivial,L (j.put o.dst (.refl _ _) (.refl _) j.mem (.d _ _ (.lit _))) m u⟩
 |conv σ2 hc k L=>
  intro ok H a w j m u;obtain⟨ok',Z⟩:=hc C ok H a w j;exact L Z m u
def Oh :Code→Bool
 | .seq a b=>Oh a&&Oh b
 | .cond _ a b=>Oh a&&Oh b
 | .block _ a=>Oh a
 | .loop a=>Oh a
 | .scope a=>Oh a
 | .rangeFunc .. =>false
 |_=>true
def l9 (ro:Option Nat) (c:Code):Prop:=ro=none∨Oh c=true
def l9.two {ro:Option Nat} {c x y:Code} (h:l9 ro c) (e:Oh c=(Oh x&&Oh y)):l9 ro x∧l9 ro y:=by
 rcases h with h|h
 ·exact⟨.inl h,.inl h⟩
 rw[e,CV]at h;exact⟨.inr h.1,.inr h.2⟩
def amu (P:Program) (c:Code) (σ:Aj) (Q:Exit→Aj→Prop):Prop:=
 ∀(ro:Option Nat),l9 ro c→∀(C:Dw) (ok:Nat→Prop) (H:List BJ) (a:Act) (w:World),Holds C ok H σ a w→c.wpIn (IE ro) 0 P (fun e a' w'=>∃ok' H' σ',Holds C ok' H' σ' a' w'∧Q e σ') a w
structure AP (P:Program) (c:Code) (σ:Aj) (Q:Exit→Aj→Prop):Prop where
 run:amu P c σ Q
section
variable {P : Program} {σ σ' : Aj} {Q : Exit → Aj → Prop}
def AP.mono {c:Code} {Q':Exit→Aj→Prop} (h:AP P c σ Q) (j:∀e σ,Q e σ→Q' e σ):AP P c σ Q':=
 ⟨fun ro m C ok H a w q=>TF (h.run ro m C ok H a w q) fun _ _ _ ⟨ok',H',σ',u,z⟩=>⟨ok',H',σ',u,j _ _ z⟩⟩
def AP.region {id:Nat} {ops:Array Oper} (h:Chain P ops ops.toList σ σ') (j:Q .normal σ'):AP P (.region id ops false) σ Q:=⟨fun ro _ C ok H a w m=>
 aIm (h.sound m (.refl H) fun ok' H' a' w' q _=>⟨ok',H',σ',q,j⟩)⟩
def AP.skip (h:Q .normal σ):AP P .skip σ Q:=⟨fun _ _ _ ok H a w j=>wpIn_skip ⟨ok,H,σ,j,h⟩⟩
def AP.label {l:Nat} (h:Q .normal σ):AP P (.label l) σ Q:=⟨fun _ _ _ ok H a w j=>wpIn_label ⟨ok,H,σ,j,h⟩⟩
def AP.exit {i:Nat} (h:Q (.exit i) σ):AP P (.exit i) σ Q:=⟨fun _ _ _ ok H a w j=>wpIn_exit ⟨ok,H,σ,j,h⟩⟩
def AP.ret (h:Q .ret σ):AP P .ret σ Q:=⟨fun _ _ _ ok H a w j=>wpIn_ret ⟨ok,H,σ,j,h⟩⟩
def Jf (K:Aj→Prop) (Q:Exit→Aj→Prop):Exit→Aj→Prop
 | .normal,σ=>K σ
 |e,σ=>Q e σ
def AP.seq {x y:Code} (K:Aj→Prop) (u:AP P x σ (Jf K Q)) (z:∀σ',K σ'→AP P y σ' Q):AP P (.seq x y) σ Q:=⟨fun ro j C ok H a w I=>
 wpIn_seq (TF (u.run ro (j.two rfl).1 C ok H a w I) (by
  rintro e a' w' ⟨ok',H',σ',m,q⟩;cases e with
  |normal=>exact(z σ' q).run ro (j.two rfl).2 C ok' H' a' w' m
  |_=>exact⟨ok',H',σ',m,q⟩))⟩
def AP.seq1 {x y:Code} (j:Aj) (m:AP P x σ (Jf (fun σ'=>σ'=j) Q)) (q:AP P y j Q):AP P (.seq x y) σ Q:=AP.seq _ m (fun _ e=>e▸q)
def AP.cond {c:Operand} {x y:Code} (b:Bool) (q:σ.get c=.d (.lit (.bool b))) (u:b=true→AP P x σ Q) (z:b=false→AP P y σ Q):AP P (.cond c x y) σ Q:=by
 refine⟨fun ro m C ok H a w j=>?_⟩;have e:=(q▸j.get c).bool;exact wpIn_cond_split e (fun h=>(u h).run ro (m.two rfl).1 C ok H a w j) (fun h=>(z h).run ro (m.two rfl).2 C ok H a w j)
def adE (i:Nat) (Q:Exit→Aj→Prop):Exit→Aj→Prop
 | .exit j,σ=>if j=i then Q .normal σ else Q (.exit j) σ
 |e,σ=>Q e σ
def AP.block {i:Nat} {c:Code} (h:AP P c σ (adE i Q)):AP P (.block i c) σ Q:=⟨fun ro z C ok H a w I=>
 wpIn_block (TF (h.run ro z C ok H a w I) (by
  rintro e a' w' ⟨ok',H',σ',q,m⟩;cases e with
  |exit j=>
   show if j=i then _ else _
   simp only[adE]at m;split<;>rename_i u
   ·rw[CJ u]at m;exact⟨ok',H',σ',q,m⟩
   rw[CU u]at m;exact⟨ok',H',σ',q,m⟩
  |_=>exact⟨ok',H',σ',q,m⟩))⟩
def ajr {ro:Option Nat} {P:Program} {Q:Exit→Act→World→Prop} {c:Code} (I:Nat→Act→World→Prop)
 (round:∀n a w,I n a w→c.wpIn (IE ro) 0 P (Exit.then (fun a' w'=>∃m,m<n∧I m a' w') Q) a w):∀n a w,I n a w→(Code.loop c).wpIn (IE ro) 0 P Q a w:=by
 intro n a w Z b k cs J L M
 have key:∀n a w,I n a w→∃e a' w',Q e a' w'∧ArrivesIn (Machine.fenced P (IE ro)) P (lone (b.atR a (.code c::.inLoop c::k)) cs w) b k cs e a' w':=by
  intro n
  induction n using Nat.strongRecOn with
  |_ n ih=>
   intro a w hI;obtain⟨e,u,z,j,harr⟩:=round n a w hI b (.inLoop c::k) cs J L M;cases e with
   |normal=>
    obtain⟨m,O,U⟩:=j;obtain⟨e₂,a₂,w₂,Y,q⟩:=ih m O u z U;exact⟨e₂,a₂,w₂,Y,.of_steps (StepsIn.trans harr (.one (fenced_calm L M rfl) stepR_inLoop)) q⟩
   |exit id=>exact⟨_,u,z,j,.pass (x:=.inLoop c) rfl (fun _ _=>.inl Am) harr⟩
   |goto l=>exact⟨_,u,z,j,.pass (x:=.inLoop c) rfl (fun _ _=>.inl Am) harr⟩
   |ret=>exact⟨_,u,z,j,.pass (x:=.inLoop c) rfl (fun _ _=>.inl Am) harr⟩
   |panic ch=>exact⟨_,u,z,j,.pass (x:=.inLoop c) rfl (fun _ _=>.inl Am) harr⟩
   |outgrown=>exact⟨_,u,z,j,.pass (x:=.inLoop c) rfl (fun _ _=>.inl Am) harr⟩
 obtain⟨e,a',w',j,harr⟩:=key n a w Z;exact⟨e,a',w',j,.of_steps (.one (fenced_calm L M rfl) stepR_loop) harr⟩
def AP.loop {c:Code} (I:Nat→Aj→Prop) (n:Nat) (h:I n σ) (round:∀n σ,I n σ→AP P c σ (Jf (fun σ'=>∃m,m<n∧I m σ') Q)):AP P (.loop c) σ Q:=by
 refine⟨fun ro J C ok H a w j=>?_⟩;refine ajr (fun n a w=>∃ok H σ,Holds C ok H σ a w∧I n σ) ?_ n a w ⟨ok,H,σ,j,h⟩;rintro n a w ⟨ok,H,σ,j,L⟩;refine TF ((round n σ L).run ro J C ok H a w j) ?_;rintro e a' w' ⟨ok',H',σ',u,z⟩;cases e with
 |normal=>obtain⟨m,M,q⟩:=z;exact⟨m,M,ok',H',σ',u,q⟩
 |_=>exact⟨ok',H',σ',u,z⟩
end
def Ci {P:Program} {σ S:Aj} {Q:Exit→Aj→Prop} {c:Code} (hs:CO σ S) (h:AP P c S Q):AP P c σ Q:=⟨fun ro j C ok H a w m=>by
 obtain⟨ok',H',h'⟩:=hs C ok H a w m
 exact h.run ro j C ok' H' a w h'⟩
section
variable {P : Program} {ops : Array Oper} {Q : Exit → Act → World → Prop}
def aE3 {F:Fence} {n:Nat} (I:Array Bool→Act→World→Prop) (j:∀l a w,I l a w→l.size=ops.size)
 (u:∀l a w,I l a w→∀i,i∈Region.ready .any ops l→wpOpIn F n P ops Q i (fun a' w'=>I (l.setIfInBounds i true) a' w') a w)
 (q:∀l a w,I l a w→Region.ready .any ops l=[]→Q .normal a w):
 ∀(Ag:Nat) l a w,toCome l≤Ag→I l a w→wpAnyIn F n P .any ops Q Ag l a w:=by
 intro Ag
 induction Ag with
 |zero=>
  intro l a w M J
  have O:Region.ready .any ops l=[]:=by
   unfold Region.ready;rw[Yz];intro i hi;have z:i<l.size:=by rw[j l a w J];simpa using hi
   have U:l.toList.filter (!·)=[]:=GN (by unfold toCome at M;omega);rw[Yz]at U;have :=U (l[i]) Am;have L:l[i]=true:=aJw
   simp[Array.getD,z,L]
  exact⟨O,q l a w J O⟩
 |succ Ag Y=>
  intro l a w M J;refine⟨q l a w J,fun i hi=>?_⟩;have m:=hi;unfold Region.ready at m;rw[ET]at m;have z:i<l.size:=by rw[j l a w J];simpa using m.1
  have Z:l.getD i true=false:=by
   have :=m.2;simp only[CV,Qq]at this;exact this.1
  have hs:=toCome_set z Z;exact wpOpIn_mono (fun a' w' h=>Y _ a' w' A8 h) (u l a w J i hi)
end
def Fl (o:Oper) (j:Nat):Bool:=o.after.toList.any fun e=>decide (e.on=j)&&Region.binds .any e
def VE (ops:Array Oper):Bool:=(List.range ops.size).all fun i=>match ops[i]? with
 |some o=>((List.range ops.size).all fun j=>match(ops[j]?).bind (·.dst)with
  |some d=> !(tmpsOf o).contains d||Fl o j||(match ops[j]? with |some m=>Fl m i|none=>false)
  |none=>true)&&(match o.guard with |some (j,_)=>Fl o j|none=>true)
 |none=>true
inductive Eb (P:Program) (ops:Array Oper):List Oper→Aj→List AV→List (List Aq)→List Bool→Aj→Prop
 |nil (σ:Aj):Eb P ops [] σ [] [] [] σ
 |op {o:Oper} {rest:List Oper} {σ σ':Aj} {ns:List (Operand×AV)} {x:AV} {rs:List AV} {ess:List (List Aq)} {bs:List Bool} (d:Option Tmp) (h:BN P o ns σ.ents x σ.ents) (hn:needs σ ns)
  (hg:Um ops σ o.guard) (hd:o.dst=d) (ht:(KF ns).all (tmpsOf o).contains=true) (k:Eb P ops rest (σ.qG d x) rs ess bs σ'):Eb P ops (o::rest) σ (x::rs) (σ.ents::ess) (false::bs) σ'
 |oe {o:Oper} {rest:List Oper} {σ σ':Aj} {ns:List (Operand×AV)} {x:AV} {es':List Aq} {rs:List AV} {ess:List (List Aq)} {bs:List Bool} (d:Option Tmp) (E:List Aq) (h:BN P o ns σ.ents x es') (he:es'=E) (hn:needs σ ns)
  (hg:Um ops σ o.guard) (hd:o.dst=d) (ht:(KF ns).all (tmpsOf o).contains=true) (k:Eb P ops rest (σ.put d x E) rs ess bs σ'):Eb P ops (o::rest) σ (x::rs) (E::ess) (true::bs) σ'
 |any {o:Oper} {rest:List Oper} {σ σ':Aj} {x:AV} {rs:List AV} {ess:List (List Aq)} {bs:List Bool} (d:Option Tmp) (h:Qe P ops σ x σ.ents false o) (hd:o.dst=d) (k:Eb P ops rest (σ.qG d x) rs ess bs σ'):Eb P ops (o::rest) σ (x::rs) (σ.ents::ess) (false::bs) σ'
 |ac1 {o:Oper} {rest:List Oper} {σ σ':Aj} {x:AV} {E:List Aq} {bar:Bool} {rs:List AV} {ess:List (List Aq)} {bs:List Bool} (d:Option Tmp) (h:Qe P ops σ x E bar o) (hd:o.dst=d) (k:Eb P ops rest (σ.put d x E) rs ess bs σ'):Eb P ops (o::rest) σ (x::rs) (E::ess) (bar::bs) σ'
 |skip {o:Oper} {rest:List Oper} {σ σ':Aj} {rs:List AV} {ess:List (List Aq)} {bs:List Bool} (d:Option Tmp) (hg:WZ ops σ o.guard) (hd:o.dst=d) (k:Eb P ops rest (σ.qG d (.d (.lit undef))) rs ess bs σ'):Eb P ops (o::rest) σ (.d (.lit undef)::rs) (σ.ents::ess) (false::bs) σ'
section
variable {P : Program} {ops : Array Oper} {es : List Aq}
def EN (ops:Array Oper) (σ0:Aj) (r:Nat→AV) (ev:Nat→List Aq):Nat→Aj
 |0=>σ0
 |i+1=>match ops[i]? with
  |some o=>(EN ops σ0 r ev i).put o.dst (r i) (ev i)
  |none=>EN ops σ0 r ev i
def Eb.facts {l:List Oper} {σ σ':Aj} {rs:List AV} {ess:List (List Aq)} {bs:List Bool} (h:Eb P ops l σ rs ess bs σ') (σ0:Aj) (r:Nat→AV) (ev:Nat→List Aq) (bar:Nat→Bool):∀i,(∀k:Nat,l[k]? =ops[i+k]?)→i+l.length=ops.size→σ=EN ops σ0 r ev i→
 (∀(k:Nat) y,rs[k]? =some y→r (i+k)=y)→(∀(k:Nat) y,ess[k]? =some y→ev (i+k)=y)→(∀(k:Nat) y,bs[k]? =some y→bar (i+k)=y)→
 (∀j (o:Oper),i≤j→ops[j]? =some o→Qe P ops (EN ops σ0 r ev j) (r j) (ev j) (bar j) o)∧σ'=EN ops σ0 r ev ops.size:=by
 induction h with
 |nil σ=>
  intro i hl I z J _ _;have :i=ops.size:=PK
  subst this;refine⟨fun j o U ho=>?_,z⟩;have :=(FX.1 ho).1;omega
 | @op o rest σ σ' ns x rs ess bs d ho hn hg hd ht k Z=>
   intro i hl I z J L Y;subst hd;have M:ops[i]? =some o:=jr
   have O:r i=x:=aB0
   have q:ev i=σ.ents:=aMj
   obtain⟨h1,h2⟩:=Z (i+1) (fun k=>ou) Rf (by
    rw[Aj.WA];simp only[EN,M,O,q];rw[←z]) (fun k y u=>uF)
    (fun k y u=>U6) (fun k y u=>qQ)
   refine⟨fun j o' U m=>?_,h2⟩;by_cases e:i=j
   ·subst e;rw[M]at m;obtain rfl:=CG m;exact⟨.inl ⟨ns,by rw[O,q,←z];exact ho,z▸hn,ht,z▸hg⟩,fun _=>WC⟩
   exact h1 j o' A8 m
 | @oe o rest σ σ' ns x es' rs ess bs d E ho hE hn hg hd ht k Z=>
   intro i hl I z J L Y;subst hd;subst hE;have M:ops[i]? =some o:=jr
   have O:r i=x:=aB0
   have q:ev i=es':=by simpa using L 0 es' Am
   have hbr:bar i=true:=by simpa using Y 0 true Am
   obtain⟨h1,h2⟩:=Z (i+1) (fun k=>ou) Rf (by
    simp only[EN,M,O,q];rw[←z]) (fun k y u=>uF)
    (fun k y u=>U6) (fun k y u=>qQ)
   refine⟨fun j o' U m=>?_,h2⟩;by_cases e:i=j
   ·subst e;rw[M]at m;obtain rfl:=CG m;exact⟨.inl ⟨ns,by rw[O,q,←z];exact ho,z▸hn,ht,z▸hg⟩,fun hf=>by rw[hbr]at hf;cases hf⟩
   exact h1 j o' A8 m
 | @any o rest σ σ' x rs ess bs d hs hd k Z=>
   intro i hl I z J L Y;subst hd;have M:ops[i]? =some o:=jr
   have O:r i=x:=aB0
   have q:ev i=σ.ents:=aMj
   obtain⟨h1,h2⟩:=Z (i+1) (fun k=>ou) Rf (by
    rw[Aj.WA];simp only[EN,M,O,q];rw[←z]) (fun k y u=>uF)
    (fun k y u=>U6) (fun k y u=>qQ)
   refine⟨fun j o' U m=>?_,h2⟩;by_cases e:i=j
   ·subst e;rw[M]at m;obtain rfl:=CG m;refine⟨?_,fun _=>WC⟩;rw[O,q,←z];exact hs.1
   exact h1 j o' A8 m
 | @ac1 o rest σ σ' x E br rs ess bs d hs hd k Z=>
   intro i hl I z J L Y;subst hd;have M:ops[i]? =some o:=jr
   have O:r i=x:=aB0
   have q:ev i=E:=by simpa using L 0 E Am
   have hbr:bar i=br:=by simpa using Y 0 br Am
   obtain⟨h1,h2⟩:=Z (i+1) (fun k=>ou) Rf (by
    simp only[EN,M,O,q];rw[←z]) (fun k y u=>uF)
    (fun k y u=>U6) (fun k y u=>qQ)
   refine⟨fun j o' U m=>?_,h2⟩;by_cases e:i=j
   ·subst e;rw[M]at m;obtain rfl:=CG m;rw[O,q,hbr,←z];exact hs
   exact h1 j o' A8 m
 | @skip o rest σ σ' rs ess bs d hg hd k Z=>
   intro i hl I z J L Y;subst hd;have M:ops[i]? =some o:=jr
   have O:r i=.d (.lit undef):=by simpa using J 0 (.d (.lit undef)) Am
   have q:ev i=σ.ents:=aMj
   obtain⟨h1,h2⟩:=Z (i+1) (fun k=>ou) Rf (by
    rw[Aj.WA];simp only[EN,M,O,q];rw[←z]) (fun k y u=>uF)
    (fun k y u=>U6) (fun k y u=>qQ)
   refine⟨fun j o' U m=>?_,h2⟩;by_cases e:i=j
   ·subst e;rw[M]at m;obtain rfl:=CG m;exact⟨.inr ⟨O,WC,z▸hg⟩,fun _=>WC⟩
   exact h1 j o' A8 m
def Rs {σ0:Aj} {r:Nat→AV} {ev:Nat→List Aq} {t:Nat}:∀i,(∀j (o:Oper),j<i→ops[j]? =some o→o.dst≠some t)→(EN ops σ0 r ev i).slots.getD t .junk=σ0.slots.getD t .junk
 |0,_=>rfl
 |i+1,h=>by
  have m:=Rs (σ0:=σ0) (r:=r) (ev:=ev) i (fun j o I q=>h j o A8 q);simp only[EN];split
  ·rename_i o q;have u:=h i o A8 q;cases hd:o.dst with
   |none=>exact m
   |some d=>
    have z:d≠t:=fun e=>u (by rw[hd,e]);show((EN ops σ0 r ev i).slots.set d (r i)).getD t .junk=_;rw[←m];simp[List.getD,XT z]
  exact m
def Ti {σ0:Aj} {r:Nat→AV} {ev:Nat→List Aq}:∀i,(EN ops σ0 r ev i).slots.length=σ0.slots.length
 |0=>rfl
 |i+1=>by
  simp only[EN];split
  ·rename_i o j;cases hd:o.dst with
   |none=>exact Ti i
   |some d=>show((EN ops σ0 r ev i).slots.set d (r i)).length=_;rw[Zx];exact Ti i
  exact Ti i
def aBd {σ0:Aj} {r:Nat→AV} {ev:Nat→List Aq}:∀i,(EN ops σ0 r ev i).base=σ0.base
 |0=>rfl
 |i+1=>by
  simp only[EN];split
  ·exact aBd i
  exact aBd i
def Sl {σ0:Aj} {r:Nat→AV} {ev:Nat→List Aq} (m:∀(i j:Nat) (o q:Oper) (d:Tmp),ops[i]? =some o→ops[j]? =some q→o.dst=some d→q.dst=some d→i=j) {t j:Nat} {o:Oper} (u:ops[j]? =some o) (hd:o.dst=some t) (M:t<σ0.slots.length):
 ∀i,j<i→(EN ops σ0 r ev i).slots.getD t .junk=r j
 |0,h=>A8
 |i+1,h=>by
  by_cases e:j=i
  ·subst e;simp only[EN,u,hd];have hl:t<(EN ops σ0 r ev j).slots.length:=by rw[Ti];exact M
   show((EN ops σ0 r ev j).slots.set t (r j)).getD t .junk=_;simp[List.getD,hl]
  have z:=Sl (r:=r) (ev:=ev) m u hd M i A8;simp only[EN];split
  ·rename_i q I;cases J:q.dst with
   |none=>exact z
   |some d=>
    have L:d≠t:=fun e'=>e (m j i o q t u I hd (by rw[J,e']));show((EN ops σ0 r ev i).slots.set d (r i)).getD t .junk=_;rw[←z];simp[List.getD,XT L]
  exact z
def aLp (h:VE ops=true):∀(i:Nat) (o:Oper),ops[i]? =some o→(∀(j:Nat) (u:Oper) (d:Tmp),ops[j]? =some u→u.dst=some d→d∈tmpsOf o→Fl o j=true∨Fl u i=true)∧(∀j b,o.guard=some (j,b)→Fl o j=true):=by
 intro i o I;unfold VE at h;rw[E5]at h;have hi:i<ops.size:=(FX.1 I).1;have z:=h i FU;rw[I]at z;simp only[CV,E5]at z;refine⟨fun j u d q hd J=>?_,fun j b L=>?_⟩
 ·have M:j<ops.size:=(FX.1 q).1;have m:=z.1 j aEV;rw[q]at m;simp only[AQ,hd,YB,Qq]at m;rcases m with(m|m)|m
  ·have :(tmpsOf o).contains d=true:=TJ
   rw[this]at m;cases m
  ·exact .inl m
  exact .inr m
 have m:=z.2;rw[L]at m;exact m
def XZ (ops:Array Oper) (bs:List Bool):Bool:=(List.range ops.size).all fun i=> !(bs.getD i false)||
 (((List.range i).all fun j=>(List.range (i+1)).any fun m=>decide (j<m)&&(match ops[m]? with |some o=>Fl o j|none=>false))&&
  ((List.range ops.size).all fun k=> !decide (i<k)||(List.range k).any fun m=>decide (i≤m)&&(match ops[k]? with |some o=>Fl o m|none=>false)))
def Uc {bs:List Bool} (h:XZ ops bs=true) {i:Nat} (hi:i<ops.size) (O:bs.getD i false=true) {D:Nat→Prop} (hd:∀(j:Nat) (o:Oper),ops[j]? =some o→D j→∀m,Fl o m=true→D m)
 (U:∀(o:Oper),ops[i]? =some o→∀m,Fl o m=true→D m):∀j,j<i→D j:=by
 unfold XZ at h;rw[E5]at h;have I:=h i FU;simp only[O,Dv,Kv,CV,E5]at I
 have key:∀n j,i-j≤n→j<i→D j:=by
  intro n
  induction n with
  |zero=>intro j Y J;omega
  |succ n Z=>
   intro j Y J;have L:=I.1 j TJ;rw[Gw]at L;obtain⟨m,hm,M⟩:=L;simp only[nK]at hm;simp only[CV,Fb]at M;obtain⟨h6,q⟩:=M;have u:m<ops.size:=A8
   have z:ops[m]? =some ops[m]:=by simp[u]
   rw[z]at q;by_cases e:m=i
   ·subst e;exact U _ z j q
   exact hd m _ z (Z m A8 A8) j q
 exact fun j hj=>key (i-j) j (Dc _) hj
def aAr {bs:List Bool} (h:XZ ops bs=true) {i:Nat} (hi:i<ops.size) (Z:bs.getD i false=true) {D:Nat→Prop} (hd:∀(j:Nat) (o:Oper),ops[j]? =some o→D j→∀m,Fl o m=true→D m):
 ∀k,i<k→∀(o:Oper),ops[k]? =some o→(∀m,Fl o m=true→D m)→D i:=by
 unfold XZ at h;rw[E5]at h;have L:=h i FU;simp only[Z,Dv,Kv,CV,E5]at L;intro k
 induction k using Nat.strongRecOn with
 |_ k ih=>
  intro I o M q;have hk:k<ops.size:=(FX.1 M).1;have O:=L.2 k acd;simp only[I,decide_true,Dv,Kv,Gw]at O;obtain⟨m,U,Y⟩:=O;simp only[nK]at U;simp only[CV,Fb,M]at Y;obtain⟨h6,h7⟩:=Y;have u:=q m h7;by_cases e:m=i
  ·subst e;exact u
  have J:m<ops.size:=A8
  have z:ops[m]? =some ops[m]:=by simp[J]
  exact ih m U A8 _ z (hd m _ z u)
def Uz (ops:Array Oper):Bool:=(List.range ops.size).all fun i=>match ops[i]? with
 |some o=>o.after.toList.all fun(e:Edge)=> !Region.binds .any e||decide (e.on<i)
 |none=>true
def aJI (h:Uz ops=true):∀(i:Nat) (o:Oper),ops[i]? =some o→∀e∈o.after.toList,Region.binds .any e=true→e.on<i:=by
 intro i o j e m q;unfold Uz at h;rw[E5]at h;have hi:i<ops.size:=(FX.1 j).1;have :=h i FU;rw[j]at this;rw[E5]at this;have :=this e m;simpa[q]using this
def AP.draw {id:Nat} {σ σ':Aj} {Q:Exit→Aj→Prop} {rs:List AV} {ess:List (List Aq)} {bs:List Bool} (hm:P.follows .mixedOrders=true) (Z:(Uz ops&&Ut ops&&UC ops σ.slots.length&&VE ops)=true) (ahC:XZ ops bs=true)
 (h:Eb P ops ops.toList σ rs ess bs σ') (hQ:Q .normal σ'):AP P (.region id ops true) σ Q:=by
 refine⟨fun ro _ C ok H a w hh=>?_⟩;simp only[CV]at Z;obtain⟨⟨⟨he,hd⟩,hs⟩,hc⟩:=Z;have NK:=aJI he;have hinj:=aHe hd;have Z:=aLp hc
 have FZ:∀(i:Nat) (o:Oper) (d:Tmp),ops[i]? =some o→o.dst=some d→d<σ.slots.length:=by
  intro i o d h1 h2;unfold UC at hs;rw[E5]at hs;simpa using hs d (aIV h1 h2)
 let r:Nat→AV:=fun i=>rs.getD i .junk
 let ev:Nat→List Aq:=fun i=>ess.getD i []
 let bar:Nat→Bool:=fun i=>bs.getD i false
 obtain⟨Gx,hend⟩:=h.facts σ r ev bar 0 (fun k=>Am) Am rfl (fun k y hy=>aLj) (fun k y hy=>aNQ) (fun k y hy=>by simp[bar,List.getD,hy])
 let U:Nat→Aj:=EN ops σ r ev
 have hU:∀i,i<ops.size→(U (i+1)).ents=ev i:=by
  intro i hi;have O:ops[i]? =some ops[i]:=Pq
  show(EN ops σ r ev (i+1)).ents=_;simp only[EN,O];rfl
 have hconst:∀n lo,(∀b,lo≤b→b<lo+n→bar b=false)→lo+n≤ops.size→(U (lo+n)).ents=(U lo).ents:=by
  intro n
  induction n with
  |zero=>intro lo _ _;rfl
  |succ n ih=>
   intro lo J hle;have h1:=ih lo (fun b h1 h2=>J b h1 A8) A8;have hi:lo+n<ops.size:=A8
   have O:ops[lo+n]? =some ops[lo+n]:=Pq
   have h2:=(Gx (lo+n) _ A8 O).2 (J (lo+n) A8 A8);rw[←NQ,hU _ hi,h2];exact h1
 have L:∀lo hi,lo≤hi→hi≤ops.size→(∀b,lo≤b→b<hi→bar b=false)→(U hi).ents=(U lo).ents:=by
  intro lo hi h1 h2 h3;obtain⟨n,rfl⟩:=aFy h1;exact hconst n lo h3 h2
 refine wE hm ?_
 let I:Array Bool→Act→World→Prop:=fun l a w=>l.size=ops.size∧∃ok H m,m≤ops.size∧(∀b,bar b=true→b<ops.size→(l.getD b false=true↔b<m))∧CS C ok H (U m).ents w∧a.tmps.size=σ.slots.length∧Marks C ok w a.defers∧
  (∀t,t<σ.slots.length→(∀(j:Nat) (o:Oper),ops[j]? =some o→o.dst=some t→l.getD j false=false)→R ok w H (σ.slots.getD t .junk) (a.tmps.getD t undef))∧
  (∀(i:Nat) (o:Oper) (d:Tmp),ops[i]? =some o→o.dst=some d→l.getD i false=true→R ok w H (r i) (a.tmps.getD d undef))∧
  (∀(j:Nat) (o:Oper),ops[j]? =some o→l.getD j false=true→∀i,Fl o i=true→l.getD i false=true)
 refine aE3 I (fun l a w h=>h.1) ?_ ?_ ops.size _ _ _ ?_ ?_
 ·rintro l a w ⟨h1,ok,H,m,JG,z,hmem0,hsz,hdf,h5,h6,h7⟩ i hi;unfold Region.ready at hi;rw[ET]at hi;obtain⟨hi1,hi2⟩:=hi;have hi':i<ops.size:=zV
  have O:ops[i]? =some ops[i]:=by simp[hi']
  simp only[CV]at hi2;have NM:=hi2.2;rw[O]at NM;simp only[Ho,MH]at NM;have afc:=fun e he=>(PU.1 NM) e he
  have hdone:∀j,Fl ops[i] j=true→l.getD j false=true∧j<i:=by
   intro j u;unfold Fl at u;rw[Gw]at u;obtain⟨e,hee,u⟩:=u;simp only[CV,Fb]at u;have :=afc e aGG;simp only[u.2,Dv,Kv]at this;rw[u.1]at this;exact⟨this,u.1▸NK i _ O e hee u.2⟩
  have M:l.getD i false=false:=by
   have h8:=hi2.1;have hil:i<l.size:=A8
   simp[Array.getD,hil]at h8 ⊢;exact h8
  have Y:∀(j:Nat) (o:Oper),ops[j]? =some o→l.getD j false=true→∀m,Fl o m=true→l.getD m false=true:=fun j o u hl m hm=>h7 j o u hl m hm
  have hmem:CS C ok H (U i).ents w:=by
   have hE:(U i).ents=(U m).ents:=by
    by_cases him:i≤m
    ·refine(L i m him JG (fun b h2 h3=>?_)).symm;rw[←Jd];intro J;have hbl:=(z b J A8).2 h3;by_cases e:b=i
     ·subst e;rw[M]at hbl;cases hbl
     have hob:ops[b]? =some (ops[b]' A8):=by simp[show b<ops.size by omega]
     have :=Uc ahC (show b<ops.size by omega) J (D:=fun j=>l.getD j false=true) Y (fun o O m hm=>Y b o O hbl m hm) i A8;rw[M]at this;cases this
    refine L m i A8 A8 (fun b h2 h3=>?_);rw[←Jd];intro J;have :=aAr ahC (show b<ops.size by omega) J (D:=fun j=>l.getD j false=true) Y i h3 _ O (fun m hm=>(hdone m hm).1);exact absurd ((z b J A8).1 this) A8
   rw[hE];exact hmem0
  have hread:∀t,t∈tmpsOf ops[i]→R ok w H ((EN ops σ r ev i).slots.getD t .junk) (a.tmps.getD t undef):=by
   intro t ht;by_cases hw:∃(j:Nat) (o:Oper),ops[j]? =some o∧o.dst=some t
   ·obtain⟨j,o,u,q⟩:=hw;rcases(Z i _ O).1 j o t u q ht with hce|hce
    ·obtain⟨hdj,hji⟩:=hdone j hce;rw[Sl hinj u q (FZ j o t u q) i hji];exact h6 j o t u q hdj
    have hij:i<j:=by
     unfold Fl at hce;rw[Gw]at hce;obtain⟨e,hee,hce⟩:=hce;simp only[CV,Fb]at hce;exact hce.1▸NK j _ u e hee hce.2
    rw[Rs i (fun j' o' hj' ho' hd'=>zq)];refine h5 t (FZ j o t u q) (fun j' o' ho' hd'=>?_);have hjj:=hinj j j' o o' t u ho' q hd';subst hjj;rw[←Jd];intro hd;rw[h7 j o u hd i hce]at M;cases M
   have hw':∀(j:Nat) (o:Oper),ops[j]? =some o→o.dst≠some t:=fun j o h1 h2=>hw ⟨j,o,h1,h2⟩;rw[Rs i (fun j o _ u=>hw' j o u)];by_cases htn:t<σ.slots.length
   ·exact h5 t htn (fun j o u q=>absurd q (hw' j o u))
   rw[cO htn];exact .junk _
  have SX:∀j d v,Fl ops[i] j=true→(ops[j]?).bind (·.dst)=some d→(EN ops σ r ev i).slots.getD d .junk=.d (.lit v)→yielded ops a.tmps j=(match v with | .bool b=>some b|_=>none):=by
   intro j d v u q J;cases hoj:ops[j]? with
   |none=>rw[hoj]at q;simp at q
   |some oj=>
    rw[hoj]at q;simp only[AQ]at q;obtain⟨hdj,hji⟩:=hdone j u;have hdn:=FZ j oj d hoj q;rw[Sl hinj hoj q hdn i hji]at J;have hv:=(J▸h6 j oj d hoj q hdj).bool
    have hs:a.tmps[d]? =some v:=by
     have :d<a.tmps.size:=by rw[hsz];exact hdn
     simp[Array.getD,this]at hv;simp[this,hv]
    unfold yielded;rw[hoj];simp only[AQ,q,hs];cases v<;>rfl
  have hput:∀(x:AV) (v:Value) (ok':Nat→Prop) (H':List BJ) (w':World),x=r i→Dz ok w ok' w'→Names H H'→CS C ok' H' (ev i) w'→R ok' w' H' x v→I (l.setIfInBounds i true) (a.put ops[i].dst v) w':=by
   intro x v ok' H' w' hx hgr hnm hmem' hR;subst hx
   have hother:∀(d t:Nat),ops[i].dst=some d→d≠t→(a.put ops[i].dst v).tmps.getD t undef=a.tmps.getD t undef:=by
    intro d t hd hne;rw[hd];exact aHU hne
   obtain⟨m',akk,abL,akl⟩:∃m',m'≤ops.size∧(∀b,bar b=true→b<ops.size→((l.setIfInBounds i true).getD b false=true↔b<m'))∧CS C ok' H' (U m').ents w':=by
    have hget:∀b,b≠i→(l.setIfInBounds i true).getD b false=l.getD b false:=fun b J=>by
     simp only[Gj,Ja (Ne.symm J)]
    have akm:(l.setIfInBounds i true).getD i false=true:=aHC
    cases hbi:bar i with
    |false=>
     refine⟨m,JG,fun b J hbs=>?_,?_⟩
     ·have hne:b≠i:=fun e=>by subst e;rw[hbi]at J;cases J
      rw[hget b hne];exact z b J hbs
     have h2:=(Gx i _ A8 O).2 hbi;rw[h2]at hmem'
     have hE:(U i).ents=(U m).ents:=by
      by_cases him:i≤m
      ·refine(L i m him JG (fun b h2 h3=>?_)).symm;rw[←Jd];intro J;have hbl:=(z b J A8).2 h3;by_cases e:b=i
       ·subst e;rw[M]at hbl;cases hbl
       have :=Uc ahC (show b<ops.size by omega) J (D:=fun j=>l.getD j false=true) Y (fun o O m hm=>Y b o O hbl m hm) i A8;rw[M]at this;cases this
      refine L m i A8 A8 (fun b h2 h3=>?_);rw[←Jd];intro J;have :=aAr ahC (show b<ops.size by omega) J (D:=fun j=>l.getD j false=true) Y i h3 _ O (fun m hm=>(hdone m hm).1);exact absurd ((z b J A8).1 this) A8
     rw[←hE];exact hmem'
    |true=>
     refine⟨i+1,A8,fun b J hbs=>?_,by rw[hU i hi'];exact hmem'⟩;by_cases e:b=i
     ·subst e;rw[akm];simp
     rw[hget b e];constructor
     ·intro hbl;apply Ve;intro hn;have :=Uc ahC hbs J (D:=fun j=>l.getD j false=true) Y (fun o O m hm=>Y b o O hbl m hm) i A8;rw[M]at this;cases this
     intro hlt;exact Uc ahC hi' hbi (D:=fun j=>l.getD j false=true) Y (fun o ho' m hm=>by rw[O]at ho';obtain rfl:=CG ho';exact(hdone m hm).1) b A8
   refine⟨by simp[h1],ok',H',m',akk,abL,akl,aMz,aIn,?_,?_,?_⟩
   ·intro t ht hno
    have hne:ops[i].dst≠some t:=by
     intro e;have :=hno i _ O e;simp[Array.getD,h1,hi']at this
    have hold:(a.put ops[i].dst v).tmps.getD t undef=a.tmps.getD t undef:=by
     cases hdi:ops[i].dst with
     |none=>rfl
     |some d=>exact hdi▸hother d t hdi (fun e=>hne (by rw[hdi,e]))
    rw[hold];refine(h5 t ht (fun j o u q=>?_)).mono hgr hnm;have hij:i≠j:=fun e=>by subst e;rw[O]at u;obtain rfl:=CG u;exact hne q
    have :=hno j o u q;simpa only[Gj,Ja hij]using this
   ·intro k o d hk hkd hl;by_cases hik:i=k
    ·subst hik;rw[O]at hk;obtain rfl:=CG hk;rw[hkd,aMQ (by rw[hsz];exact FZ i _ d O hkd)];exact hR
    have hl':l.getD k false=true:=by
     simp only[Gj,Ja hik]at hl ⊢;exact hl
    have :=(h6 k o d hk hkd hl').mono hgr hnm;cases hdst:ops[i].dst with
    |none=>exact this
    |some d'=>
     have hne:d'≠d:=fun e=>hik (hinj i k _ _ d' O hk hdst (e▸hkd));rw[←hdst,hother d' d hdst hne];exact this
   intro j o u hl k hk;have hil:i<l.size:=A8
   by_cases hik:i=k
   ·subst hik;simp[Array.getD,hil]
   have hkk:l.getD k false=true:=by
    by_cases hij:i=j
    ·subst hij;rw[O]at u;obtain rfl:=CG u;exact(hdone k hk).1
    have hl':l.getD j false=true:=by
     simp only[Gj,Ja hij]at hl ⊢;exact hl
    exact h7 j o u hl' k hk
   simp only[Gj,Ja hik]at hkk ⊢;exact hkk
  unfold wpOpIn;rw[O];show if Region.wanted ops[i] (yielded ops a.tmps)=true then _ else _
  rcases(Gx i ops[i] A8 O).1 with⟨ns,hop,ac2,hnt,hg⟩|⟨hx,hev,hg⟩
  ·have hwant:Region.wanted ops[i] (yielded ops a.tmps)=true:=by
    unfold Region.wanted;rcases hg with hg|⟨j,want,d,b,hg,u,J,rfl⟩
    ·rw[hg]
    rw[hg];show(yielded ops a.tmps j==some b)=true;rw[SX j d _ ((Z i _ O).2 j b hg) u J];simp
   rw[CJ hwant];refine Pm ?_ (hop.inR ro C ok H a w _ hmem (fun n hn=>?_))
   ·rintro a' w' ⟨v,ok',H',rfl,hgr,hnn,hm',hx⟩;exact hput _ v ok' H' w' rfl hgr hnn hm' hx
   have hnv:=Ou ac2 n hn;obtain⟨x,y⟩:=n;simp only at hnv ⊢;subst hnv;cases x with
   |tmp t=>
    refine hread t ?_;rw[E5]at hnt
    have :t∈KF ns:=by
     unfold KF;rw[SN];exact⟨_,hn,rfl⟩
    simpa using hnt t this
   |const v=>exact .d _ _ (.lit v)
   |global g=>exact .d _ _ (.lit _)
   |func f=>exact .d _ _ (.fn (.func f) [] [] #[] #[] rfl rfl (fun i hi=>MO) (fun i hi=>MO))
  have hwant:Region.wanted ops[i] (yielded ops a.tmps)=false:=by
   unfold Region.wanted;obtain⟨j,want,d,v,hg,u,J,hv⟩:=hg;rw[hg];show(yielded ops a.tmps j==some want)=false;rw[SX j d _ ((Z i _ O).2 j want hg) u J];rcases hv with rfl|rfl
   ·simp
   rfl
  rw[CU (by rw[hwant];simp)];exact⟨fun _ _=>trivial,hput _ _ ok H w hx.symm (.refl _ _) (.refl _) aHa (.d _ _ (.lit _))⟩
 ·rintro l a w ⟨h1,ok,H,m,JG,z,hmem,hsz,hdf,h5,h6,h7⟩ hr
  have hall:∀n i,i<n→i<ops.size→l.getD i false=true:=by
   intro n
   induction n with
   |zero=>intro i hi;omega
   |succ n ih=>
    intro i hi hi2;by_cases hn:i<n
    ·exact ih i hn hi2
    have hin:i=n:=A8
    subst hin;rw[←aLY];intro hf;have O:ops[i]? =some ops[i]:=by simp[hi2]
    have hmem:i∈Region.ready .any ops l:=by
     unfold Region.ready;rw[ET];refine⟨by simpa using hi2,?_⟩;have hil:i<l.size:=A8
     have hf':l.getD i true=false:=aD1
     rw[hf',O];simp only[I4,FT,Ho,MH];rw[PU];intro e he;cases hbe:Region.binds .any e with
     |false=>simp
     |true=>
      have hlt:=NK i _ O e jX hbe;rw[ih e.on A8 A8];simp
    rw[hr]at hmem;simp at hmem
  refine⟨ok,H,σ',?_,hQ⟩;subst hend
  have hE:(U ops.size).ents=(U m).ents:=L m ops.size JG (Dc _) (fun b h2 h3=>by
   rw[←Jd];intro J
   exact absurd ((z b J h3).1 (hall (b+1) b A8 h3)) A8)
  refine⟨aef,by rw[Ti];exact hsz,hdf,aMd,fun t ht=>?_⟩;rw[Ti]at ht;by_cases hw:∃(j:Nat) (o:Oper),ops[j]? =some o∧o.dst=some t
  ·obtain⟨j,o,u,q⟩:=hw;have hjn:j<ops.size:=(FX.1 u).1;rw[Sl hinj u q ht ops.size hjn];exact h6 j o t u q (hall (j+1) j A8 hjn)
  have hw':∀(j:Nat) (o:Oper),ops[j]? =some o→o.dst≠some t:=fun j o h1 h2=>hw ⟨j,o,h1,h2⟩;rw[Rs ops.size (fun j o _ u=>hw' j o u)];exact h5 t ht (fun j o u q=>absurd q (hw' j o u))
 ·unfold toCome;simp
 refine⟨Am,ok,H,0,EK _,fun b J _=>aBv,?_,hh.size,hh.defers.mono (fun b J=>⟨J,rfl⟩),fun t ht _=>?_,fun i o d _ _ hl=>?_,fun j o _ hl=>?_⟩
 ·exact⟨⟨hh.mem.fr.os,hh.mem.fr.tape,hh.mem.fr.output,hh.mem.fr.size,hh.mem.fr.block⟩,hh.mem.xu,hh.mem.xw,hh.mem.jM,hh.mem.names,hh.mem.hlen,fun k e h h1 h2=>(hh.mem.ent k e h h1 h2).drew,hh.mem.blk,hh.mem.Dp⟩
 ·exact R.mono (w:=w) (ok:=ok) (w':={ w with drawn:=w.drawn+1 }) (fun b J=>⟨J,rfl⟩) (.refl _) (hh.slot t ht)
 ·simp[Array.getD]at hl
 simp[Array.getD]at hl
end
def Ap (P:Program) (f:FuncId) (args:List AV) (E:List Aq) (m:AV) (E':List Aq):Prop:=
 ∀(ok:Nat→Prop) (X:List Nat) (H:List BJ) (w:World) (j:Array Value),CS ⟨w,ok,X,H⟩ ok H E w→j.size=args.length→(∀i,i<args.length→R ok w H (args.getD i .junk) (j.getD i undef))→
  Calls P f j w fun e w'=>∃v ok' H',e=.returned v∧CS ⟨w,ok,X,H⟩ ok' H' E' w'∧R ok' w' H' m v
def Holds.asQ {C:Dw} {ok:Nat→Prop} {H:List BJ} {σ:Aj} {a:Act} {w:World} (h:Holds C ok H σ a w) (t:Nat):R ok w H (σ.slots.getD t .junk) (a.tmps.getD t undef):=h.get (.tmp t)
def Aj.enter (args:List AV) (n:Nat) (E:List Aq):Aj:=⟨args++List.replicate (n-args.length) .junk,E,E.length⟩
def R.lit {ok:Nat→Prop} {w:World} {H:List BJ} {u v:Value} (h:R ok w H (.d (.lit u)) v):v=u:=by
 cases h with |d _ _ h=>cases h;rfl
structure Dl (P:Program) (t:TypeId) (agg:Bool) (size:Nat):Prop where
 agg:∀w,(isAgg t).run P w=.ok agg w
 size:∀w,(sizeOf t).run P w=.ok size w
def aIz (P:Program) (t:TypeId) (agg:Bool) (size:Nat):Bool:=
 (match P.underlying t with |some (.struct _)|some (.array _ _)=>agg|some _=> !agg|none=>false)&&(match P.info? t with |some i=>decide (i.size=size)|none=>false)
def FM {P:Program} {t:TypeId} {agg:Bool} {size:Nat} (h:aIz P t agg size=true):Dl P t agg size:=by
 unfold aIz at h;simp only[CV]at h;refine⟨fun w=>?_,fun w=>?_⟩
 ·have m:=h.1;cases q:P.underlying t with
  |none=>rw[q]at m;cases m
  |some d=>
   rw[q]at m;have e:(underlying t).run P w=.ok d w:=by simp[underlying,q]
   simp only[isAgg,Ep,e,F5];cases d<;>cases agg<;>simp_all
 have j:=h.2;cases hi:P.info? t with
 |none=>rw[hi]at j;cases j
 |some i=>
  rw[hi]at j;have :i.size=size:=MK
  simp[sizeOf,typeInfo,hi,this]
section
variable {P : Program} {o : Oper} {es : List Aq}
def Jk {α:Type} {p:α→Prop} {a:α} (h:∀n∈[a],p n):p a:=h a Am
def EL {α:Type} {p:α→Prop} {a b:α} (h:∀n∈[a,b],p n):p a∧p b:=⟨h a Am,h b Am⟩
def an5 {x:Operand} {v:AV} (j:o.op=.move x):BN P o [(x,v)] es v es:=
 .pure fun _ _ a _ _ _ m=>⟨a.eval x,by simp[execOp,j],m (x,v) Am⟩
def alD {x:Operand} {v:AV} (j:o.op=.assign x):BN P o [(x,v)] es v es:=
 .pure fun _ _ a _ _ _ m=>⟨a.eval x,by simp[execOp,j],m (x,v) Am⟩
def amd {c x y:Operand} {v:AV} (b:Bool) (m:b=true) (q:o.op=.pick c x y):BN P o [(c,.d (.lit (.bool b))),(x,v)] es v es:=
 .pure fun _ _ a _ _ _ j=>⟨a.eval x,by
  have :=(EL j).1.lit;simp only at this
  simp[execOp,q,this,asBool,m],(EL j).2⟩
def arT {c x y:Operand} {v:AV} (b:Bool) (m:b=false) (q:o.op=.pick c x y):BN P o [(c,.d (.lit (.bool b))),(y,v)] es v es:=
 .pure fun _ _ a _ _ _ j=>⟨a.eval y,by
  have :=(EL j).1.lit;simp only at this
  simp[execOp,q,this,asBool,m],(EL j).2⟩
def Kq {op:BinOp} {t t':TypeId} {x y:Operand} {u v r:Value} (z:o.op=.binOp op t x y t') (h:∀w,(binOp op t u v).run P w=.ok r w) (I:u.oneCell'=true∧u matches .int _ _| .string _| .bool _):
 BN P o [(x,.d (.lit u)),(y,.d (.lit v))] es (.d (.lit r)) es:=
 .pure fun _ _ a w _ _ j=>⟨r,by
  have m:=(EL j).1.lit;have q:=(EL j).2.lit;simp only at m q
  have J:(eqGuard op t x y u v).run P w=.ok () w:=by
   unfold eqGuard;cases u<;>simp at I<;>(cases op<;>simp[pure,Sem.run_pure'])
  simp only[execOp,z,m,q,Ep,J,h w,F5,Fa],.d _ _ (.lit _)⟩
def aLi {op:UnOp} {t:TypeId} {x:Operand} {u r:Value} (m:o.op=.unOp op t x) (h:∀w,(Op.unary op u).run P w=.ok r w):BN P o [(x,.d (.lit u))] es (.d (.lit r)) es:=
 .pure fun _ _ a w _ _ q=>⟨r,by
  have j:=(Jk q).lit;simp only at j
  simp only[execOp,m,j,Ep,h w,F5,Fa],.d _ _ (.lit _)⟩
def adr {s t:TypeId} {x:Operand} {u r:Value} (m:o.op=.convert s t x) (h:∀w,(convert s t u).run P w=.ok r w):BN P o [(x,.d (.lit u))] es (.d (.lit r)) es:=
 .pure fun _ _ a w _ _ q=>⟨r,by
  have j:=(Jk q).lit;simp only at j
  simp only[execOp,m,j,Ep,h w,F5,Fa],.d _ _ (.lit _)⟩
def ahd {x:Operand} {i:Nat} {xs:List AV} {v:AV} (I:o.op=.extract x i) (J:xs[i]? =some v):BN P o [(x,.eF xs)] es v es:=
 .pure fun ok H a w _ _ L=>by
  have m:=Jk L;simp only at m;generalize M:a.eval x=u at m;cases m with
  |eF _ vs hl h=>
   obtain⟨hi,q⟩:=FB.1 J;have z:=h i hi;have O:xs.getD i .junk=v:=by simp[List.getD,hi,q]
   have j:i<vs.size:=A8
   have U:vs.getD i undef=vs[i]:=by simp[Array.getD,j]
   rw[O,U]at z;exact⟨vs[i],by simp[execOp,I,M,Instr.extract,j],z⟩
def ash {x:Operand} {t e:TypeId} {xs:List D} (I:P.underlying t=some (.slice e)) (m:o.op=.call { callee:=.builtin .len,args:= #[x],argTypes:= #[t] }):
 BN P o [(x,.d (.sl xs))] es (.d (.lit (.int .i64 xs.length))) es:=
 .pure fun ok H a w _ _ J=>by
  have j:=Jk J;simp only at j;generalize q:a.eval x=u at j;have z:(underlying t).run P w=.ok (.slice e) w:=by simp[underlying,I]
  refine⟨_,?_,.d _ _ (.lit _)⟩;cases j with
  |d _ _ h=>
   cases h with
   |sl0 ad cap=>simp[execOp,m,resolve,invoke,builtin,Builtin.len_,q,z,goInt]
   |sl _ b off cap size=>simp[execOp,m,resolve,invoke,builtin,Builtin.len_,q,z,goInt]
def aoX {x:Operand} {t:TypeId} {s:ByteArray} (m:P.underlying t=some .string) (q:o.op=.call { callee:=.builtin .len,args:= #[x],argTypes:= #[t] }):
 BN P o [(x,.d (.lit (.string s)))] es (.d (.lit (.int .i64 s.size))) es:=
 .pure fun ok H a w _ _ u=>by
  have j:=(Jk u).lit;simp only at j;have z:(underlying t).run P w=.ok .string w:=aGC
  exact⟨_,by simp[execOp,q,resolve,invoke,builtin,Builtin.len_,j,z,goInt],.d _ _ (.lit _)⟩
def FV {es:List Aq} {H:List BJ} {ok:Nat→Prop} {w:World} (q:∀(k:Nat) (e:Aq) (h:BJ),es[k]? =some e→H[k]? =some h→EY ok w H h e) (hl:H.length=es.length) {k:Nat} {e:Aq} (m:es[k]? =some e):
 ∃h,H[k]? =some h∧EY ok w H h e:=by
 have j:k<H.length:=by rw[hl];exact(FB.1 m).1
 exact⟨H[k],gu,q k e _ m gu⟩
def agp {x:Operand} {t e e':TypeId} {k s:Nat} {xs:List D} (O:es[k]? =some (.arr e' s xs)) (U:P.underlying t=some (.slice e)) (Y:o.op=.call { callee:=.builtin .len,args:= #[x],argTypes:= #[t] }):
 BN P o [(x,.aY k)] es (.d (.lit (.int .i64 xs.length))) es:=
 .pure fun ok H a w j hl Z=>by
  have m:=Jk Z;simp only at m;generalize he:a.eval x=u at m;have hu:(underlying t).run P w=.ok (.slice e) w:=by simp[underlying,U]
  obtain⟨h,hh,q⟩:=FV j hl O;refine⟨_,?_,.d _ _ (.lit _)⟩;cases m with
  |aY _ ad n cap s' L=>
   rw[hh]at L;obtain rfl:=CG L;obtain⟨_,_,ys,⟨_,z⟩,_⟩:=q
   have I:n=xs.length:=by
    rcases z with⟨J,h3⟩|⟨g,M,cur,J,_⟩
    ·simp at J;omega
    simp at J;omega
   subst I;simp[execOp,Y,resolve,invoke,builtin,Builtin.len_,he,hu,goInt]
structure Cc (P:Program) (t:TypeId) (f off:Nat):Prop where
 run:∀(b o:Nat) w,(Instr.fieldAt t (.pointer (some ⟨b,o,none⟩)) f).run P w=.ok (.pointer (some ⟨b,o+off,none⟩)) w
def aPU (P:Program) (t:TypeId) (f off:Nat):Bool:=
 match P.underlying t with
 |some (.struct m)=>match m[f]? with
  |some j=>decide (j.offset=off)&&(match P.info? j.type with |some i=>decide (i.size≠0)|none=>false)
  |none=>false
 |_=>false
def D6 {P:Program} {t:TypeId} {f off:Nat} (h:aPU P t f off=true):Cc P t f off:=by
 unfold aPU at h;refine⟨fun b o w=>?_⟩;split at h
 ·rename_i q u;split at h
  ·rename_i z I;simp only[CV,Fb]at h;obtain⟨J,j⟩:=h;split at j
   ·rename_i i hi;have hs:(sizeOf z.type).run P w=.ok i.size w:=by simp[sizeOf,typeInfo,hi]
    have L:i.size≠0:=MK
    have m:(underlying t).run P w=.ok (.struct q) w:=by simp[underlying,u]
    simp[Instr.fieldAt,m,I,Instr.sureAddr,fieldPlace,hs,L,addr_add,J]
   cases j
  cases h
 cases h
def ami {x:Operand} {t:TypeId} {f off j:Nat} {cs:List D} (I:Cc P t f off) (J:o.op=.fieldAddr t x f):BN P o [(x,.d (.ref cs j))] es (.d (.ref cs (j+off))) es:=
 .pure fun ok H a w _ _ L=>by
  have m:=Jk L;simp only at m;generalize M:a.eval x=u at m;cases m with
  |d _ _ h=>
   cases h with
   |ref _ _ b p q z O U=>
    refine⟨.pointer (some ⟨b,p+(j+off),none⟩),?_,.d _ _ (.ref cs (j+off) b p q z O U)⟩;simp only[execOp,J,M,Ep,I.run,F5,Fa,NQ]
def aqN {x:Operand} {t:TypeId} {f off k j:Nat} (q:Cc P t f off) (z:o.op=.fieldAddr t x f):BN P o [(x,.ptr k j)] es (.ptr k (j+off)) es:=
 .pure fun ok H a w _ _ I=>by
  have m:=Jk I;simp only at m;generalize J:a.eval x=u at m;cases m with
  |ptr _ _ b s h=>
   refine⟨.pointer (some ⟨b,j+off,none⟩),?_,.ptr _ _ b s h⟩;simp only[execOp,z,J,Ep,q.run,F5,Fa]
def alR {x:Operand} {t:TypeId} {f off k i j:Nat} (q:Cc P t f off) (z:o.op=.fieldAddr t x f):BN P o [(x,.kT k i j)] es (.kT k i (j+off)) es:=
 .pure fun ok H a w _ _ I=>by
  have m:=Jk I;simp only at m;generalize J:a.eval x=u at m;cases m with
  |kT _ _ _ b n cap s h=>
   refine⟨.pointer (some ⟨b,i*s+(j+off),none⟩),?_,.kT _ _ _ b n cap s h⟩;simp only[execOp,z,J,Ep,q.run,F5,Fa,NQ]
def anK {x y:Operand} {t e:TypeId} {k:IntKind} {i:Int} {xs:List D} {I:D} {agg:Bool} {size:Nat} (ht:P.underlying t=some (.slice e)) (hT:Dl P e agg size) (h0:0≤i) (hi:xs[i.toNat]? =some I) (hs:I.cells.length=size)
 (ho:o.op=.indexAddr t x y):BN P o [(x,.d (.sl xs)),(y,.d (.lit (.int k i)))] es (.d (.ref I.cells 0)) es:=
 .pure fun ok H a w _ _ Y=>by
  have J:=(EL Y).1;have Z:=(EL Y).2.lit;simp only at J Z;generalize he:a.eval x=u at J;have hu:(underlying t).run P w=.ok (.slice e) w:=aEE
  obtain⟨q,L⟩:=FB.1 hi;cases J with
  |d _ _ h=>
   cases h with
   |sl0 ad cap=>simp at q
   |sl _ b off cap m hcap M O hf hx hc=>
    have hd:xs.getD i.toNat D8=I:=by simp[List.getD,q,L]
    have U:m=size:=by rw[←O _ q,hd,hs]
    subst U;refine⟨.pointer (some ⟨b,off+i.toNat*m+0,none⟩),?_,.d _ _ (.ref I.cells 0 b (off+i.toNat*m) (fun h=>M A8 (by rw[hs]at h;exact h)) ?_ ?_ ?_)⟩
    ·have hlen:0≤i∧i<(xs.length:Int):=⟨h0,A8⟩
     simp only[execOp,ho,he,Z,Instr.indexAt,asIntOf,Ep,Fa,hu,F5,Sem.run_ite,hlen,and_self,J5,hT.size,addr_add,OY]
    ·intro j z;rw[hs]at z;rw[←hd];exact hf _ q j z
    ·intro j z;rw[hs]at z;rw[NQ];exact hx _ q j z
    intro j z;rw[hs]at z;rw[NQ,←hd];exact hc _ q j z
def aoW {x y:Operand} {t e e':TypeId} {kd:IntKind} {i:Int} {k size:Nat} {xs:List D} {agg:Bool} (Y:es[k]? =some (.arr e' size xs)) (Z:P.underlying t=some (.slice e)) (hT:Dl P e agg size) (h0:0≤i) (hi:i.toNat<xs.length)
 (ho:o.op=.indexAddr t x y):BN P o [(x,.aY k),(y,.d (.lit (.int kd i)))] es (.kT k i.toNat 0) es:=
 .pure fun ok H a w m hl J=>by
  have q:=(EL J).1;have L:=(EL J).2.lit;simp only at q L;generalize he:a.eval x=u at q;have hu:(underlying t).run P w=.ok (.slice e) w:=by simp[underlying,Z]
  obtain⟨h,M,z⟩:=FV m hl Y;cases q with
  |aY _ ad n cap s' O=>
   rw[M]at O;obtain rfl:=CG O;obtain⟨hs,_,ys,⟨_,I⟩,_⟩:=z;simp only at hs;subst hs;rcases I with⟨j,h3⟩|⟨g,U,cur,j,_⟩
   ·omega
   simp only[eI]at j;obtain⟨rfl,rfl,rfl⟩:=j;refine⟨.pointer (some ⟨g,i.toNat*s'+0,none⟩),?_,.kT _ _ _ _ _ _ _ M⟩;have hlen:0≤i∧i<(xs.length:Int):=⟨h0,A8⟩
   simp only[execOp,ho,he,L,Instr.indexAt,asIntOf,Ep,Fa,hu,F5,Sem.run_ite,hlen,and_self,J5,hT.size,addr_add,Ic,OY]
def agP {x y:Operand} {t:TypeId} {k:IntKind} {i:Int} {s:ByteArray} {c:UInt8} (u:P.underlying t=some .string) (z:0≤i) (hi:s[i.toNat]? =some c) (I:o.op=.index t x y):
 BN P o [(x,.d (.lit (.string s))),(y,.d (.lit (.int k i)))] es (.d (.lit (.int .u8 c.toNat))) es:=
 .pure fun ok H a w _ _ j=>by
  have m:=(EL j).1.lit;have q:=(EL j).2.lit;simp only at m q;have J:(underlying t).run P w=.ok .string w:=by simp[underlying,u]
  exact⟨_,by simp only[execOp,I,m,q,Instr.index,asIntOf,Ep,Fa,J,F5,z,J5,hi],.d _ _ (.lit _)⟩
def IG (l:List AV):List D:=l.map fun | .d x=>x|_=>D8
def AV.yR:AV→Bool
 | .d _=>true
 |_=>false
def R.toD {ok:Nat→Prop} {w:World} {H:List BJ} {x:AV} {v:Value} (h:R ok w H x v) (hd:x.yR=true):DF ok w ((fun | .d x=>x|_=>D8) x) v:=by
 cases h with
 |d _ _ h=>exact h
 |_=>simp[AV.yR]at hd
def Oy (agg:Bool) (cs:List D) (off n:Nat):D:=if agg then .agg ((cs.drop off).take n)else cs.getD off D8
def aDM {P:Program} {ok:Nat→Prop} {w:World} {t:TypeId} {agg:Bool} {n b p off:Nat} {cs:List D} (L:Dl P t agg n) (hn:off+n≤cs.length) (O:agg=false→n=1)
 (U:∀i,i<cs.length→(cs.getD i D8).leaf=true) (Y:∀j,j<cs.length→(w.cell? ⟨b,p+j,none⟩).isSome=true) (M:∀j,j<cs.length→DF ok w (cs.getD j D8) (cellAt w b (p+j))):
 ∃v,(Instr.loadAt t (.pointer (some ⟨b,p+off,none⟩))).run P w=.ok v w∧DF ok w (Oy agg cs off n) v:=by
 have m:∀j,j<cs.length→w.cell? ⟨b,p+j,none⟩=some (cellAt w b (p+j)):=by
  intro j z;have :=Y j z;obtain⟨u,Z⟩:=RS.1 this;simp[cellAt,Z]
 cases agg with
 |false=>
  have :=O rfl;subst this;refine⟨cellAt w b (p+off),?_,M off A8⟩;have J:=m off A8;simp[Instr.loadAt,Instr.sureAddr,loadVar,L.agg,J]
 |true=>
  let vs:Array Value:=((List.range n).map fun j=>cellAt w b (p+(off+j))).toArray
  have q:vs.size=n:=by simp[vs]
  have I:∀j,j<n→vs.getD j undef=cellAt w b (p+(off+j)):=by
   intro j z;simp[vs,Array.getD,z]
  refine⟨.agg vs,?_,?_⟩
  ·simp only[Instr.loadAt,Instr.sureAddr,Ep,Fa,F5]
   have h:=alB (P:=P) w t b (p+off) vs (L.agg w) (by rw[q];exact L.size w) (fun j z=>by
    rw[q]at z;rw[I j z,NQ]
    exact m (off+j) A8)
   exact h
  simp only[Oy,J5];have hlen:((cs.drop off).take n).length=n:=DK
  have J:∀i,i<n→((cs.drop off).take n).getD i D8=cs.getD (off+i) D8:=by
   intro i hi;simp[List.getD,Ln hi,Og]
  refine .agg _ vs (by rw[hlen,q]) (fun i hi=>?_) (fun i hi=>?_)
  ·rw[hlen]at hi;rw[J i hi];exact U _ A8
  rw[hlen]at hi;rw[J i hi,I i hi];exact M _ A8
def aj0 {x:Operand} {t:TypeId} {agg:Bool} {n off:Nat} {cs:List D} (q:Dl P t agg n) (z:off+n≤cs.length) (I:agg=false→n=1) (J:o.op=.load t x):
 BN P o [(x,.d (.ref cs off))] es (.d (Oy agg cs off n)) es:=
 .pure fun ok H a w _ _ m=>by
  have j:=Jk m;simp only at j;generalize L:a.eval x=u at j;cases j with
  |d _ _ h=>
   cases h with
   |ref _ _ b p M O U Y=>
    obtain⟨v,Z,hd⟩:=aDM q z I O U Y;exact⟨v,by simp only[execOp,J,L,Ep,Z,F5,Fa],.d _ _ hd⟩
def lq (l:List AV):(IG l).length=l.length:=by simp[IG]
def aRN {l:List AV} {i:Nat} (h:i<l.length):(IG l).getD i D8=(fun | .d x=>x|_=>D8) (l.getD i .junk):=by
 simp[IG,List.getD,h]
def aNO {ok:Nat→Prop} {w:World} {H:List BJ} {h:BJ} {cs:List AV} (M:EY ok w H h (.box cs)) (hd:cs.all AV.yR=true):
 ∃b,h.v=.pointer (some ⟨b,0,none⟩)∧(∀i,i<(IG cs).length→((IG cs).getD i D8).leaf=true)∧(∀j,j<(IG cs).length→(w.cell? ⟨b,0+j,none⟩).isSome=true)∧(∀j,j<(IG cs).length→DF ok w ((IG cs).getD j D8) (cellAt w b (0+j))):=by
 obtain⟨b,vs,T,O,U,Y,z⟩:=M;rw[E5]at hd
 have m:∀j,j<cs.length→w.cell? ⟨b,0+j,none⟩=some (vs.toList.getD j undef):=by
  intro j q;rw[Ic];have u:j<vs.size:=by simpa using(by omega:j<vs.toList.length)
  simp[World.cell?,U,u,List.getD]
 refine⟨b,O,fun i hi=>?_,fun j q=>?_,fun j q=>?_⟩
 ·rw[lq]at hi;rw[aRN hi];have I:=(z i hi).1;have J:=hd (cs.getD i .junk) LX;cases L:cs.getD i .junk with
  |d x=>rw[L]at I;exact I
  |_=>rw[L]at J;simp[AV.yR]at J
 ·rw[lq]at q;rw[m j q];rfl
 rw[lq]at q;rw[aRN q];unfold cellAt;rw[m j q];exact(z j q).2.toD (hd (cs.getD j .junk) aIs)
def anZ {x:Operand} {t:TypeId} {agg:Bool} {k n off:Nat} {cs:List AV} (M:es[k]? =some (.box cs)) (hd:cs.all AV.yR=true) (O:Dl P t agg n) (U:off+n≤cs.length) (Y:agg=false→n=1) (Z:o.op=.load t x):
 BN P o [(x,.ptr k off)] es (.d (Oy agg (IG cs) off n)) es:=
 .pure fun ok H a w m hl q=>by
  have j:=Jk q;simp only at j;generalize he:a.eval x=u at j;obtain⟨h,hh,z⟩:=FV m hl M;obtain⟨b,I,hf,hx,hc⟩:=aNO z hd;cases j with
  |ptr _ _ b' s J=>
   rw[hh]at J;obtain rfl:=CG J;simp at I;subst I;obtain⟨v,L,hD⟩:=aDM O (by rw[lq];exact U) Y hf hx hc;rw[Ic]at L;exact⟨v,by simp only[execOp,Z,he,Ep,L,F5,Fa],.d _ _ hD⟩
def aPG {x:Operand} {t:TypeId} {k off:Nat} {cs:List AV} {v:AV} (U:es[k]? =some (.box cs)) (Y:cs[off]? =some v) (Z:Dl P t false 1) (ho:o.op=.load t x):BN P o [(x,.ptr k off)] es v es:=
 .pure fun ok H a w q hl I=>by
  have m:=Jk I;simp only at m;generalize he:a.eval x=u at m;obtain⟨h,hh,b,vs,T,L,h2,h3,h4⟩:=FV q hl U;cases m with
  |ptr _ _ b' s M=>
   rw[hh]at M;obtain rfl:=CG M;simp at L;subst L;obtain⟨z,J⟩:=FB.1 Y;have O:=(h4 off z).2;have e1:cs.getD off .junk=v:=by simp[List.getD,z,J]
   have j:off<vs.size:=by simpa using(by omega:off<vs.toList.length)
   have e2:vs.toList.getD off undef=vs[off]:=aEY
   rw[e1,e2]at O;refine⟨vs[off],?_,O⟩;have hc:w.cell? ⟨b',off,none⟩=some vs[off]:=by simp[World.cell?,h2,j]
   simp[execOp,ho,he,Instr.loadAt,Instr.sureAddr,loadVar,Z.agg,hc]
end
def CS.change {C:Dw} {ok ok':Nat→Prop} {H H':List BJ} {es es':List Aq} {w w':World} (m:CS C ok H es w) (B:Nat→Prop)
 (hos:w'.os=w.os) (O:w'.tape=w.tape) (hout:w'.output=w.output) (q:w.heap.size≤w'.heap.size)
 (L:∀b,b<w.heap.size→¬B b→w'.heap[b]? =w.heap[b]?) (hB:∀b,B b→b<w.heap.size→¬ok b∧(C.w0.heap.size≤b∨b∈C.X))
 (hok:∀b,ok b→ok' b) (M:∀b,ok' b→ok b∨(w.heap.size≤b∧b<w'.heap.size)) (z:Names H H') (hlen:H'.length=es'.length)
 (I:∀(k:Nat) (e:Aq) (h:BJ),es'[k]? =some e→H'[k]? =some h→
  (es[k]? =some e∧H[k]? =some h∧(e.live=true→∀b,Cb h.v=some b→¬B b))∨
  (EY ok' w' H' h e∧(e.live=true→∀b,Cb h.v=some b→¬ok' b∧b<w'.heap.size∧(C.w0.heap.size≤b∨b∈C.X)∧
   ∀(k':Nat) (e':Aq) (h':BJ),k'≠k→es'[k']? =some e'→e'.live=true→H'[k']? =some h'→Cb h'.v≠some b))):
 CS C ok' H' es' w'∧Dz ok w ok' w':=by
 have hg:Dz ok w ok' w':=fun b j=>⟨hok b j,L b (m.jM b j) (fun u=>(hB b u (m.jM b j)).1 j)⟩
 refine⟨⟨⟨hos.trans m.fr.os,O.trans m.fr.tape,hout.trans m.fr.output,EZ m.fr.size q,fun k hk hx=>?_⟩,fun b j=>hok b (m.xu b j),?_,?_,m.names.trans z,hlen,?_,?_,?_⟩,hg⟩
 ·have hkw:k<w.heap.size:=Vh hk m.fr.size;rw[L k hkw (fun j=>(hB k j hkw).2.elim (fun h=>A8) hx)];exact m.fr.block k hk hx
 ·intro b j;rcases M b j with h|⟨h,_⟩
  ·exact m.xw b h
  exact .inr (.inl (EZ m.fr.size h))
 ·intro b j;rcases M b j with h|⟨_,h⟩
  ·exact Vh (m.jM b h) q
  exact h
 ·intro k e h he hh;rcases I k e h he hh with⟨J,h2,h3⟩|⟨J,_⟩
  ·exact(m.ent k e h J h2).mono hg z (fun hl b j=>L b (m.blk k e h b J hl h2 j).2.1 (h3 hl b j))
  exact J
 ·intro k e h b he hl hh j;rcases I k e h he hh with⟨J,h2,h3⟩|⟨_,J⟩
  ·have :=m.blk k e h b J hl h2 j;refine⟨fun u=>?_,Vh this.2.1 q,this.2.2⟩;rcases M b u with h4|⟨h4,_⟩
   ·exact this.1 h4
   omega
  exact⟨(J hl b j).1,(J hl b j).2.1,(J hl b j).2.2.1⟩
 intro k k' e e' h h' b he he' hl U hh hh' j u;apply Ve;intro Y;rcases I k e h he hh with⟨J,h2,h3⟩|⟨_,J⟩
 ·rcases I k' e' h' he' hh' with⟨Z,h2',h3'⟩|⟨_,Z⟩
  ·exact Y (m.Dp k k' e e' h h' b J Z hl U h2 h2' j u)
  exact(Z U b u).2.2.2 k e h Y he hl hh j
 exact(J hl b j).2.2.2 k' e' h' (fun e=>Y e.symm) he' U hh' u
def xO {α:Type} {l:List α} {i:Nat} {z:α} (h:i<l.length):l.getD i z=l[i]:=by simp[List.getD,h]
def V4 {α:Type} {l:List α} {a x:α} {k:Nat} (h:(l++[a])[k]? =some x):l[k]? =some x∨(k=l.length∧x=a):=by
 by_cases m:k<l.length
 ·rw[Fv m]at h;exact .inl h
 have j:=(FB.1 h).1;simp at j;have :k=l.length:=A8
 subst this;simp at h;exact .inr ⟨rfl,h.symm⟩
def CS.push {C:Dw} {ok:Nat→Prop} {H:List BJ} {es:List Aq} {w:World} (j:CS C ok H es w) (o:Obj) (h:BJ) (e:Aq) (J:∀b,Cb h.v=some b→b=w.heap.size)
 (he:EY ok (w.alloc o) (H++[h]) h e):CS C ok (H++[h]) (es++[e]) (w.alloc o)∧Dz ok w ok (w.alloc o):=by
 refine j.change (fun _=>False) rfl rfl rfl Am (fun b J _=>J7 _ _ _ J) (fun _ h=>h.elim) (fun _ h=>h) (fun _ h=>.inl h) (Names.push _ _) (by simp[j.hlen]) ?_;intro k e' h' L q;rcases V4 L with I|⟨I,h2⟩
 ·left;refine⟨I,?_,fun _ _ _ h=>h⟩;have M:k<H.length:=by rw[j.hlen];exact(FB.1 I).1
  rwa [Fv M]at q
 subst h2;have M:k=H.length:=by rw[j.hlen];exact I
 subst M;simp at q;subst q;refine .inr ⟨he,fun _ b O=>?_⟩;obtain rfl:=J b O;refine⟨fun u=>absurd (j.jM _ u) A8,Am,.inl j.fr.size,fun k' U Y Z hk' hl m z=>?_⟩;rcases V4 hk' with u|⟨u,_⟩
 ·have hk2:k'<H.length:=by rw[j.hlen];exact(FB.1 u).1
  rw[Fv hk2]at m;exact absurd (j.blk k' U Y _ u hl m z).2.1 A8
 rw[←j.hlen]at u;exact Z u
def CS.fresh {C:Dw} {ok:Nat→Prop} {H:List BJ} {es:List Aq} {w:World} (j:CS C ok H es w) (o:Obj):
 CS C (fun b=>ok b∨b=w.heap.size) H es (w.alloc o)∧Dz ok w (fun b=>ok b∨b=w.heap.size) (w.alloc o):=by
 refine j.change (fun _=>False) rfl rfl rfl Am (fun b m _=>J7 _ _ _ m) (fun _ h=>h.elim) (fun _ h=>.inl h) (fun b h=>?_) (.refl _) j.hlen ?_
 ·rcases h with h|rfl
  ·exact .inl h
  exact .inr ⟨Dc _,Am⟩
 intro k e h q u;exact .inl ⟨q,u,fun _ _ _ h=>h⟩
def CS.drew {C:Dw} {ok:Nat→Prop} {H:List BJ} {es:List Aq} {w:World} (j:CS C ok H es w):CS C ok H es w.drew∧Dz ok w ok w.drew:=
 j.change (fun _=>False) rfl rfl rfl (Dc _) (fun _ _ _=>rfl) (fun _ h=>h.elim) (fun _ h=>h) (fun _ h=>.inl h) (.refl _) j.hlen fun _ _ _ m q=>.inl ⟨m,q,fun _ _ _ h=>h⟩
def EY.dead {ok:Nat→Prop} {w:World} {H:List BJ} {h:BJ}:EY ok w H h .dead:=trivial
def R.ahD {ok:Nat→Prop} {w:World} {H:List BJ} {x:AV} {v:Value} (h:R ok w H x v) (hl:x.cells.all AV.leaf=true):FQ ok w H x.cells v.cells.toList:=by
 rw[E5]at hl;cases h with
 |d x v h=>
  cases h with
  |agg cs vs hs J M=>
   refine⟨by simp[AV.cells,D.cells,Value.cells,hs],fun i hi=>?_⟩;simp only[AV.cells,D.cells,C9]at hi;have O:(AV.cells (.d (.agg cs))).getD i .junk=.d (cs.getD i D8):=by simp[AV.cells,D.cells,List.getD,hi]
   have u:i<vs.size:=A8
   have L:(Value.cells (.agg vs)).toList.getD i undef=vs.getD i undef:=aNd
   rw[O,L];exact⟨J i hi,.d _ _ (M i hi)⟩
  |lit v=>
   have m:=hl (.d (.lit v)) (by simp[AV.cells,D.cells]);have e:v.cells= #[v]:=by cases v<;>first|rfl|(simp[AV.leaf,D.leaf,Value.oneCell']at m)
   refine⟨by simp[AV.cells,D.cells,e],fun i hi=>?_⟩;simp[AV.cells,D.cells]at hi;subst hi;rw[e];exact⟨m,.d _ _ (.lit v)⟩
  |sl0 ad cap=>
   refine⟨rfl,fun i hi=>?_⟩;simp[AV.cells,D.cells]at hi;subst hi;exact⟨rfl,.d _ _ (.sl0 ad cap)⟩
  |sl es b off cap size m q z I U Y=>
   refine⟨rfl,fun i hi=>?_⟩;simp[AV.cells,D.cells]at hi;subst hi;exact⟨rfl,.d _ _ (.sl es b off cap size m q z I U Y)⟩
  |ref cs off b o m q z I=>
   refine⟨rfl,fun i hi=>?_⟩;simp[AV.cells,D.cells]at hi;subst hi;exact⟨rfl,.d _ _ (.ref cs off b o m q z I)⟩
  |fn f first cap vs us m q z I=>
   refine⟨rfl,fun i hi=>?_⟩;simp[AV.cells,D.cells]at hi;subst hi;exact⟨rfl,.d _ _ (.fn f first cap vs us m q z I)⟩
  |NH t x v m=>
   refine⟨rfl,fun i hi=>?_⟩;simp[AV.cells,D.cells]at hi;subst hi;exact⟨rfl,.d _ _ (.NH t x v m)⟩
 |ptr k off b s h=>
  exact⟨rfl,fun i hi=>by simp[AV.cells]at hi;subst hi;exact⟨rfl,.ptr k off b s h⟩⟩
 |aY k ad n cap s h=>
  exact⟨rfl,fun i hi=>by simp[AV.cells]at hi;subst hi;exact⟨rfl,.aY k ad n cap s h⟩⟩
 |kT k i off b n cap s h=>
  exact⟨rfl,fun j hi=>by simp[AV.cells]at hi;subst hi;exact⟨rfl,.kT k i off b n cap s h⟩⟩
 |fn f first cap vs us m q z I=>
  exact⟨rfl,fun i hi=>by simp[AV.cells]at hi;subst hi;exact⟨rfl,.fn f first cap vs us m q z I⟩⟩
 |mp k v s hl h=>
  have e:v.cells= #[v]:=by cases v<;>first|rfl|(simp[Value.oneCell']at hl)
  exact⟨by simp[AV.cells,e],fun j hi=>by simp[AV.cells]at hi;subst hi;rw[e];exact⟨rfl,.mp k v s hl h⟩⟩
 |clip xs ad h=>exact⟨rfl,fun i hi=>by simp[AV.cells]at hi;subst hi;exact⟨rfl,.clip xs ad h⟩⟩
 |vT k ad n cap s h=>exact⟨rfl,fun i hi=>by simp[AV.cells]at hi;subst hi;exact⟨rfl,.vT k ad n cap s h⟩⟩
 |eF xs vs m q=>have :=hl (.eF xs) (by simp[AV.cells]);simp[AV.leaf]at this
 |ag xs vs m J q=>
  refine⟨by simp[AV.cells,Value.cells,m],fun i hi=>?_⟩;have u:i<vs.size:=by rw[m];exact hi
  have L:(Value.cells (.agg vs)).toList.getD i undef=vs.getD i undef:=aNd
  rw[L];exact⟨J i hi,q i hi⟩
 |junk v=>have :=hl .junk (by simp[AV.cells]);simp[AV.leaf]at this
section
variable {P : Program} {o : Oper} {es : List Aq}
def aAg (w:World):∀b,Cb (BJ.v ⟨.pointer (some ⟨w.heap.size,0,none⟩),0⟩)=some b→b=w.heap.size:=fun b j=>by simpa[Cb]using j.symm
def BN.eff {ns:List (Operand×AV)} {x:AV} {es':List Aq}
 (h:∀(C:Dw) (ok:Nat→Prop) (H:List BJ) (a:Act) (w:World),CS C ok H es w→(∀n∈ns,R ok w H n.2 (a.eval n.1))→
  ∃v w' ok' H',((execOp a.eval o).run P w=.ok (.value v) w'∨(v=undef∧(execOp a.eval o).run P w=.ok .skip w'))∧Dz ok w ok' w'∧Names H H'∧CS C ok' H' es' w'∧R ok' w' H' x v):BN P o ns es x es':=by
 intro C ok H a w Q I J;obtain⟨v,w',ok',H',j,m,q,u,z⟩:=h C ok H a w I J;unfold Oper.wp;rcases j with j|⟨rfl,j⟩
 ·rw[j];exact⟨v,ok',H',rfl,m,q,u,z⟩
 rw[j];exact⟨undef,ok',H',rfl,m,q,u,z⟩
def ari {t:TypeId} {x:Operand} {v:AV} (hl:v.cells.all AV.leaf=true) (u:o.op=.box t x):BN P o [(x,v)] es (.ptr es.length 0) (es++[.box v.cells]):=
 .eff fun C ok H a w m z=>by
  have q:=Jk z;simp only at q
  have j:EY ok (w.alloc (.cells (a.eval x).cells t)) (H++[⟨.pointer (some ⟨w.heap.size,0,none⟩),0⟩]) ⟨.pointer (some ⟨w.heap.size,0,none⟩),0⟩ (.box v.cells):=
   ⟨w.heap.size,(a.eval x).cells,t,rfl,ZJ w _,(q.ahD hl).mono (fun b j=>⟨j,J7 _ _ _ (m.jM b j)⟩) (Names.push _ _)⟩
  obtain⟨I,J⟩:=m.push (.cells (a.eval x).cells t) ⟨.pointer (some ⟨w.heap.size,0,none⟩),0⟩ _ (aAg w) j;refine⟨_,_,ok,_,.inl ?_,J,Names.push _ _,I,.ptr _ _ w.heap.size 0 aBl⟩;simp[execOp,u,Instr.box,newVar,newRow]
def Nz :Value→D
 | .slice none 0 0=>.sl []
 |v=>.lit v
def bG {ok:Nat→Prop} {w:World} (v:Value):DF ok w (Nz v) v:=by
 unfold Nz;split
 ·exact .sl0 none 0
 exact .lit v
def qo {v:Value} (h:v.oneCell'=true):(Nz v).leaf=true:=by
 unfold Nz;split
 ·rfl
 exact h
def Et (z:Value):List AV:=z.cells.toList.map fun v=>.d (Nz v)
def atL {t:TypeId} {z:Value} (q:(P.info? t).bind (·.zero)=some z) (hl:z.cells.all (·.oneCell')=true) (u:o.op=.alloc t):BN P o [] es (.ptr es.length 0) (es++[.box (Et z)]):=
 .eff fun C ok H a w m U=>by
  have I:EY ok (w.alloc (.cells z.cells t)) (H++[⟨.pointer (some ⟨w.heap.size,0,none⟩),0⟩]) ⟨.pointer (some ⟨w.heap.size,0,none⟩),0⟩ (.box (Et z)):=by
   refine⟨w.heap.size,z.cells,t,rfl,ZJ w _,by simp[Et],fun i hi=>?_⟩;simp only[Et,C9,SG]at hi;have J:(Et z).getD i .junk=.d (Nz z.cells[i]):=by simp[Et,List.getD,hi]
   have L:z.cells.toList.getD i undef=z.cells[i]:=LX
   rw[J,L];exact⟨qo ((PU.1 hl) _ Am),.d _ _ (bG _)⟩
  obtain⟨M,O⟩:=m.push (.cells z.cells t) ⟨.pointer (some ⟨w.heap.size,0,none⟩),0⟩ _ (aAg w) I;refine⟨_,_,ok,_,.inl ?_,O,Names.push _ _,M,.ptr _ _ w.heap.size 0 aBl⟩;obtain⟨i,hi,j⟩:=eP.1 q;simp[execOp,u,Instr.alloc,zeroValue,typeInfo,hi,j,newVar,newRow]
def LD {l:List Aq} {k j:Nat} {a x:Aq} (m:k<l.length) (h:(l.set k a)[j]? =some x):(j=k∧x=a)∨(j≠k∧l[j]? =some x):=by
 by_cases e:k=j
 ·subst e;simp[m]at h;exact .inl ⟨rfl,h.symm⟩
 rw[XT e]at h;exact .inr ⟨fun h'=>e h'.symm,h⟩
def CS.upd {C:Dw} {ok:Nat→Prop} {H:List BJ} {w w':World} (L:CS C ok H es w) {k:Nat} {M e:Aq} {h:BJ} {b:Nat} (hk:es[k]? =some M) (z:M.live=true) (hh:H[k]? =some h) (hb:Cb h.v=some b)
 (hos:w'.os=w.os) (I:w'.tape=w.tape) (O:w'.output=w.output) (hsize:w'.heap.size=w.heap.size)
 (u:∀c,c≠b→w'.heap[c]? =w.heap[c]?) (he:Dz ok w ok w'→EY ok w' H h e):CS C ok H (es.set k e) w'∧Dz ok w ok w':=by
 have U:=L.blk k M h b hk z hh hb;have hg:Dz ok w ok w':=fun c m=>⟨m,u c (fun e=>U.1 (e▸m))⟩
 refine L.change (fun c=>c=b) hos I O A8 (fun c _ m=>u c m) (fun c m _=>by subst m;exact⟨U.1,U.2.2⟩) (fun _ h=>h) (fun _ h=>.inl h) (.refl _) (by simp[L.hlen]) ?_;intro j e' h' hj q;have Y:k<es.length:=(FB.1 hk).1;rcases LD Y hj with⟨rfl,rfl⟩|⟨J,Z⟩
 ·rw[hh]at q;obtain rfl:=CG q;refine .inr ⟨he hg,fun _ c m=>?_⟩;rw[hb]at m;obtain rfl:=CG m;refine⟨U.1,A8,U.2.2,fun k' e'' h'' J hk' hl' aCQ aCR=>J ?_⟩;rcases LD Y hk' with⟨rfl,_⟩|⟨_,hk''⟩
  ·rfl
  exact L.Dp k' j e'' M h'' h b hk'' hk hl' z aCQ hh aCR hb
 refine .inl ⟨Z,q,fun hl c m hcb=>J ?_⟩;subst hcb;exact L.Dp j k e' M h' h c Z hk hl z q hh m hb
def aF6 (w:World) (g:Nat) (cs:Array Value) (k:Nat) (h:k≠g):(w.setRow g cs).heap[k]? =w.heap[k]? :=setRow_other w g k cs h
def setAt {α:Type} (cs:List α) (off:Nat) (ys:List α):List α:=cs.take off++ys++cs.drop (off+ys.length)
def Ql {α:Type} {cs ys:List α} {off:Nat} (h:off+ys.length≤cs.length):(setAt cs off ys).length=cs.length:=by simp[setAt];omega
def WG {α:Type} {cs ys:List α} {off:Nat} (h:off+ys.length≤cs.length) (i:Nat) (z:α):(setAt cs off ys).getD i z=if off≤i∧i<off+ys.length then ys.getD (i-off) z else cs.getD i z:=by
 unfold setAt;have j:(cs.take off).length=off:=DK
 by_cases hi:i<off
 ·rw[CU A8];simp only[List.getD];rw[Gq,Fv A8,Ln hi]
 by_cases m:i<off+ys.length
 ·rw[CJ A8];simp only[List.getD];rw[Gq,J3 A8,j,Fv A8]
 rw[CU A8];simp only[List.getD];rw[J3 DK,Og];congr 2;simp;omega
def aQG {t:TypeId} {x y:Operand} {k off n:Nat} {cs:List AV} {v:AV} (hk:es[k]? =some (.box cs)) (hl:v.cells.all AV.leaf=true) (hs:∀w,(sizeOf t).run P w=.ok n w) (hn:v.cells.length=n) (hle:off+n≤cs.length) (ho:o.op=.store t x y):
 BN P o [(x,.ptr k off),(y,v)] es .junk (es.set k (.box (setAt cs off v.cells))):=
 .eff fun C ok H a w O z=>by
  have U:=(EL z).1;have h2:=(EL z).2;simp only at U h2;generalize he:a.eval x=u at U;obtain⟨h,hh,Y⟩:=FV O.ent O.hlen hk;obtain⟨b,vs,T,hb,m,I,J⟩:=Y;have j:=h2.ahD hl;cases U with
  |ptr _ _ L s hH=>
   rw[hh]at hH;obtain rfl:=CG hH;simp at hb;subst hb;have q:(a.eval y).cells.toList.length=n:=by rw[j.1,hn]
   have aDA:vs.size=cs.length:=PK
   have Z:(a.eval y).cells.size=n:=MV
   have hst:=aLW (P:=P) L off T (a.eval y).cells.toList 0 vs w m (by rw[q];omega) (fun u hu=>by
    obtain⟨i,hi,rfl⟩:=Hf hu;have M:=j.2 i (by rw[←j.1];exact hi);have :=M.2.leaf M.1
    rwa [xO hi]at this)
   simp only[OY]at hst;have hlt:L<w.heap.size:=(FX.1 m).1
   obtain⟨h3,h4⟩:=O.upd (e:=.box (setAt cs off v.cells)) (w':=w.setRow L (vs.toList.take off++(a.eval y).cells.toList++vs.toList.drop (off+(a.eval y).cells.toList.length)).toArray) hk rfl hh rfl rfl rfl rfl aHY (fun c hc=>aF6 _ _ _ _ hc) (fun hg=>by
    refine⟨L,_,T,rfl,uQ w L vs _ T (0,0) m,?_,fun i hi=>?_⟩
    ·have e1:(vs.toList.take off++(a.eval y).cells.toList++vs.toList.drop (off+(a.eval y).cells.toList.length))=setAt vs.toList off (a.eval y).cells.toList:=rfl;rw[e1,aBg,Ql (by have :=vs.length_toList;omega),Ql A8];simpa using I
    have e1:(vs.toList.take off++(a.eval y).cells.toList++vs.toList.drop (off+(a.eval y).cells.toList.length))=setAt vs.toList off (a.eval y).cells.toList:=rfl;rw[Ql A8]at hi;rw[e1,aBg,WG (by have :=vs.length_toList;omega),WG A8,q,hn];split
    ·have M:=j.2 (i-off) A8;exact⟨M.1,M.2.mono hg (.refl _)⟩
    exact⟨(J i hi).1,(J i hi).2.mono hg (.refl _)⟩)
   refine⟨undef,_,ok,H,.inr ⟨rfl,?_⟩,h4,.refl _,h3,.junk _⟩;simp only[execOp,ho,he,Instr.storeAt,Instr.sureAddr,storeVar,Ep,Fa,F5,hs,Z,ne_eq,not_true_eq_false,JC,hst]
end
def Uf (x:D) (es:List D):flat (x::es)=x.cells.map .d++flat es:=SB
def bD (xs ys:List D):flat (xs++ys)=flat xs++flat ys:=SB
def QZ {size:Nat}:∀{es:List D},(∀x∈es,x.cells.length=size)→(flat es).length=es.length*size
 | [],_=>SB
 |x::es,h=>by
  rw[Uf,Dk,C9,h x Am,QZ (fun y j=>h y (Ez _ j)),FC,U0,QA]
def flat_get {size:Nat}:∀{es:List D},(∀x∈es,x.cells.length=size)→∀i j,i<es.length→j<size→(flat es).getD (i*size+j) .junk=.d ((es.getD i D8).cells.getD j D8)
 | [],_,i,j,hi,_=>MO
 |x::es,h,0,j,_,q=>by
  have m:=h x Am;rw[Uf,Nat.zero_mul,Ic];simp only[List.getD];rw[Fv (by simp[m,q])];have u:j<x.cells.length:=A8
  simp[u]
 |x::es,h,i+1,j,hi,q=>by
  have m:=h x Am;have z:=flat_get (fun y I=>h y (Ez _ I)) i j FU q;rw[Uf];simp only[List.getD]at z ⊢;rw[J3 (by simp[m,U0];omega)];have e:(i+1)*size+j-(x.cells.map AV.d).length=i*size+j:=by simp[m,U0];omega
  rw[e,z];simp
section
variable {P : Program} {o : Oper} {es : List Aq}
structure Ue (w:World) (v:Value) (m size:Nat) (news:List Value):Prop where
 len:news.length=m*size
 one:∀u∈news,u.oneCell'=true
 at_:(∃ad c,v=.slice (some ad) m c∧∀(j:Nat) (u:Value),news[j]? =some u→w.cell? (ad.add j)=some u)∨(∃c,v=.slice none 0 c∧m=0)
def dK {ok:Nat→Prop} {w:World} (H:List BJ) {ys:List D} {v:Value} {size:Nat} (h:DF ok w (.sl ys) v) (hs:∀x∈ys,x.cells.length=size):
 ∃q,Ue w v ys.length size q∧FQ ok w H (flat ys) q:=by
 cases h with
 |sl0 ad cap=>
  refine⟨[],⟨Am,Am,?_⟩,SB,fun i hi=>aA4⟩;cases ad with
  |none=>exact .inr ⟨cap,rfl,rfl⟩
  |some ad=>exact .inl ⟨ad,cap,rfl,fun j u h=>Gv⟩
 |sl _ b off cap m hcap hok hs' hf hx hc=>
  by_cases hy:ys=[]
  ·subst hy;refine⟨[],⟨Am,Am,.inl ⟨⟨b,off,none⟩,cap,rfl,fun j u h=>Gv⟩⟩,SB,fun i hi=>aA4⟩
  have I:0<ys.length:=tX.2 hy;have hsz:m=size:=by rw[←hs' 0 I];exact hs _ (by simp[List.getD,I])
  subst hsz;have hl:=QZ hs
  have key:∀k,k<ys.length*m→∃i j,k=i*m+j∧i<ys.length∧j<m:=by
   intro k z
   have hp:0<m:=by
    rcases Xv m with h0|h0
    ·rw[h0,Nat.mul_zero]at z;omega
    exact h0
   exact⟨k/m,k % m,by rw[Tj];exact(aCc k m).symm,jU (by rwa [Tj]at z),cD _ hp⟩
  let q:List Value:=(List.range (ys.length*m)).map fun k=>cellAt w b (off+k)
  have J:q.length=ys.length*m:=by simp[q]
  have M:∀k,k<ys.length*m→q.getD k undef=cellAt w b (off+k):=by
   intro k z;simp[q,List.getD,z]
  have L:FQ ok w H (flat ys) q:=by
   refine⟨by rw[J,hl],fun k z=>?_⟩;rw[hl]at z;obtain⟨i,j,rfl,hi,O⟩:=key k z;rw[flat_get hs i j hi O,M _ z];exact⟨hf i hi j O,.d _ _ (hc i hi j O)⟩
  refine⟨q,⟨J,fun u hu=>?_,.inl ⟨⟨b,off,none⟩,cap,rfl,fun k u z=>?_⟩⟩,L⟩
  ·obtain⟨k,z,rfl⟩:=Hf hu;have h5:=L.2 k (by rw[←L.1];exact z);have :=h5.2.leaf h5.1
   rwa [xO z]at this
  obtain⟨U,rfl⟩:=FB.1 z;rw[addr_add];have Y:k<ys.length*m:=by rw[←J];exact U
  obtain⟨i,j,e,hi,O⟩:=key k Y;have Z:=hx i hi j O;rw[←e]at Z;obtain⟨u',hu'⟩:=RS.1 Z;have :=M k Y;rw[xO U]at this;rw[this];simp[cellAt,hu']
structure Fh (P:Program) (t e:TypeId) (size bytes:Nat):Prop where
 und:P.underlying t=some (.slice e)
 info:∃i z,P.info? e=some i∧i.zero=some z∧i.size=size∧i.bytes=bytes∧z.cells.size=size
 pos:0<size
def aaP (P:Program) (t e size j:Nat):Bool:=
 (match P.underlying t with |some (.slice e')=>decide (e'=e)|_=>false)&&(match P.info? e with |some i=>decide (i.size=size)&&decide (i.bytes=j)&&(match i.zero with |some z=>decide (z.cells.size=size)|none=>false)|none=>false)&&decide (0<size)
def LU {P:Program} {t e size j:Nat} (h:aaP P t e size j=true):Fh P t e size j:=by
 unfold aaP at h;simp only[CV,Fb]at h;obtain⟨⟨m,q⟩,I⟩:=h;refine⟨?_,?_,I⟩
 ·split at m
  ·rename_i e' J;rw[J];simp at m;rw[m]
  cases m
 split at q
 ·rename_i i hi;simp only[CV,Fb]at q;obtain⟨⟨L,M⟩,u⟩:=q;split at u
  ·rename_i z O;exact⟨i,z,hi,O,L,M,LJ⟩
  cases u
 cases q
def aj1 {w:World} {t e:TypeId} {ty:TypeId} {size O:Nat} (hE:Fh P t e size O) {v:Value} {n:Nat} {xs:List Value} (L:w.ownsRow 0 e size v n xs) {x:Value} {m:Nat} {I:List Value} (q:Ue w x m size I)
 (hb:(n+m)*O≤140737488355328) (hn:n+m≤maxLen):
 ∃v' w',(Builtin.append_ #[t,t] ty #[v,x]).run P w=.ok v' w'∧w'.ownsRow 0 e size v' (n+m) (xs++I)∧w.grownBy w' v.ownBlock∧(∀g,Cb v'=some g→Cb v=some g∨w.heap.size≤g):=by
 obtain⟨i,z,hi,hz,hs,Z,hzs⟩:=hE.info;rcases q.at_ with⟨ad,c,rfl,J⟩|⟨c,rfl,rfl⟩
 ·obtain⟨v',w',hr,ho',hg,hnil⟩:=run_append_own (P:=P) w 0 t ty e i z size O hE.und hi hz hs Z hzs hE.pos v n xs L ad m c I q.len J q.one hn hb (EK _);refine⟨v',w',hr,ho',hg,fun g U=>?_⟩;rcases L.2 with⟨rfl,rfl⟩|⟨g0,cap,cur,rfl,hbg,hg0,hnc,hcm,hcs,htake⟩
  ·have hx:xs=[]:=GN (by simpa using L.1);subst hx;obtain⟨v2,w2,M,ho2,_,_⟩:=run_append_own (P:=P) w w.heap.size t ty e i z size O hE.und hi hz hs Z hzs hE.pos _ 0 [] (yB w w.heap.size e size) ad m c I q.len J q.one hn hb (Dc _);rw[hr]at M;simp only[Result.ok.injEq]at M;obtain⟨rfl,rfl⟩:=M;rcases ho2.2 with⟨rfl,_⟩|⟨g',_,_,rfl,hle,_⟩
   ·simp[Cb]at U
   simp[Cb]at U;subst U;exact .inr hle
  by_cases Y:n+m≤cap
  ·have hfit:n*i.size+I.length≤cur.size:=by rw[q.len,hcs,hs,←Vu];exact JB _ Y
   have M:=run_append_room (P:=P) w t ty e i hE.und hi g0 n cap cur hg0 ad m c I (by rw[hs];exact q.len) J q.one Y hfit;rw[hr]at M;simp only[Result.ok.injEq]at M;obtain⟨rfl,rfl⟩:=M;exact .inl U
  have holds:∀(j:Nat) (u:Value),xs[j]? =some u→w.cell? ((⟨g0,0,none⟩:Addr).add j)=some u:=L.cells (g:=g0) rfl;have M:=run_append_grow (P:=P) w t ty e i z hE.und hi hz ⟨g0,0,none⟩ n cap xs (by rw[hs];exact L.1) holds ad m c I (by rw[hs];exact q.len) J A8 (by unfold maxLen at hn;omega) (growslice_fits A8 (by rw[Z];exact hb));rw[hr]at M;simp only[Result.ok.injEq]at M;obtain⟨rfl,rfl⟩:=M;simp[Cb]at U;subst U;exact .inr (Dc _)
 have hnews:I=[]:=GN (by simpa using q.len);subst hnews;refine⟨v,w,?_,sI,⟨rfl,rfl,rfl,Dc _,fun _ _ _=>rfl⟩,fun g hg=>.inl hg⟩;rcases L.2 with⟨rfl,rfl⟩|⟨g,cap,cur,rfl,_,_,hnc,_⟩
 ·simp[Builtin.append_,aE7 hE.und,sizeOf,typeInfo,hi,Builtin.lenOf,Builtin.firstCells]
 simp[Builtin.append_,aE7 hE.und,sizeOf,typeInfo,hi,Builtin.lenOf,Builtin.firstCells,hnc,storeCells]
def aLX {w:World} {t e:TypeId} {ty:TypeId} {size I:Nat} (hE:Fh P t e size I) {v:Value} {n:Nat} {xs:List Value} (u:lQ w e size v n xs) {x:Value} {m:Nat} {q:List Value} (j:Ue w x m size q)
 (hb:(n+m)*I≤140737488355328) (hn:n+m≤maxLen):
 ∃v' w',(Builtin.append_ #[t,t] ty #[v,x]).run P w=.ok v' w'∧lQ w' e size v' (n+m) (xs++q)∧w.grownBy w' v.ownBlock∧(∀g,Cb v'=some g→Cb v=some g∨w.heap.size≤g):=by
 rcases u.2 with h|⟨g,cap,U,rfl,h0,hg0,hnc,hcm,hcs,Y⟩
 ·obtain⟨v',w',h1,h2,Z,h4⟩:=aj1 (ty:=ty) hE ⟨u.1,.inl h⟩ j hb hn;exact⟨v',w',h1,.of h2,Z,h4⟩
 obtain⟨i,z,hi,hz,hs,hby,hzs⟩:=hE.info;have hlen:(xs++q).length=(n+m)*size:=by rw[Dk,u.1,j.len,Vu]
 rcases j.at_ with⟨ad,c,rfl,L⟩|⟨c,rfl,rfl⟩
 ·by_cases J:n+m≤cap
  ·have O:n*i.size+q.length≤U.size:=by
    rw[j.len,hs,←Vu];exact EZ (JB _ J) hcs
   have hr:=run_append_room (P:=P) w t ty e i hE.und hi g n cap U hg0 ad m c q (by rw[hs];exact j.len) L j.one J O;rw[hs]at hr O;refine⟨_,_,hr,⟨hlen,.inr ⟨g,cap,_,rfl,EK _,uQ w g U _ e _ hg0,J,hcm,?_,?_⟩⟩,⟨rfl,rfl,rfl,Am,fun k _ hk=>setRow_other w g k _ (fun e=>hk (by simp[Value.ownBlock,e]))⟩,fun g' M=>.inl M⟩
   ·simp only[Zo,Dk,FI,KA,SG];omega
   rw[Y,←hlen];exact aHr
  obtain⟨v',w',h1,h2,Z⟩:=run_append_arg_grows (P:=P) w t ty e i z size I hE.und hi hz hs hby hzs hE.pos ⟨g,0,none⟩ n cap xs u.1 (u.cells (g:=g) rfl) ad m c q j.len L A8 hn hb;refine⟨v',w',h1,.of h2,⟨Z.os,Z.tape,Z.output,Z.size,fun k hk _=>Z.block k hk Am⟩,fun g' M=>.inr ?_⟩;rcases h2.2 with⟨rfl,_⟩|⟨g2,_,_,rfl,hle2,_⟩
  ·simp[Cb]at M
  simp[Cb]at M;subst M;exact hle2
 have hnews:q=[]:=GN (by simpa using j.len);subst hnews;refine⟨.slice (some ⟨g,0,none⟩) n cap,w,?_,LJ,⟨rfl,rfl,rfl,Dc _,fun _ _ _=>rfl⟩,fun g hg=>.inl hg⟩;simp[Builtin.append_,aE7 hE.und,sizeOf,typeInfo,hi,Builtin.lenOf,Builtin.firstCells,hnc,storeCells]
def CS.turn {C:Dw} {ok:Nat→Prop} {H:List BJ} {w w':World} (m:CS C ok H es w) {k:Nat} {e0 e:Aq} {h h':BJ} (hk:es[k]? =some e0) (M:e0.live=true) (hh:H[k]? =some h)
 (hos:w'.os=w.os) (O:w'.tape=w.tape) (hout:w'.output=w.output) (U:w.heap.size≤w'.heap.size)
 (J:∀c,c<w.heap.size→Cb h.v≠some c→w'.heap[c]? =w.heap[c]?) (hb':∀g,Cb h'.v=some g→g<w'.heap.size∧(Cb h.v=some g∨w.heap.size≤g))
 (he:Dz ok w ok w'→EY ok w' (H++[h']) h' e):CS C ok (H++[h']) (es.set k .dead++[e]) w'∧Dz ok w ok w':=by
 have h0:=fun b hb=>m.blk k e0 h b hk M hh hb;have hkl:k<es.length:=(FB.1 hk).1;have hg:Dz ok w ok w':=fun c I=>⟨I,J c (m.jM c I) (fun e=>(h0 c e).1 I)⟩
 refine m.change (fun c=>Cb h.v=some c) hos O hout U J (fun c I _=>⟨(h0 c I).1,(h0 c I).2.2⟩) (fun _ h=>h) (fun _ h=>.inl h) (Names.push _ _) (by simp[m.hlen]) ?_;intro j e' hj' hj u;rcases V4 hj with h1|⟨h1,h2⟩
 ·have hjl:j<H.length:=by rw[m.hlen];simpa using(FB.1 h1).1
  rw[Fv hjl]at u;rcases LD hkl h1 with⟨rfl,rfl⟩|⟨Y,h3⟩
  ·exact .inr ⟨trivial,fun h=>Fr⟩
  refine .inl ⟨h3,u,fun hl c I hcb=>Y ?_⟩;exact m.Dp j k e' e0 hj' h c h3 hk hl M u hh I hcb
 subst h2;have hk2:j=H.length:=by rw[m.hlen];simpa using h1
 subst hk2;simp at u;subst u;refine .inr ⟨he hg,fun _ c I=>?_⟩;obtain⟨h3,q⟩:=hb' c I;refine⟨fun hok=>?_,h3,?_,fun k' e'' h'' Y hk' Z z L=>?_⟩
 ·rcases q with q|q
  ·exact(h0 c q).1 hok
  have :=m.jM c hok;omega
 ·rcases q with q|q
  ·exact(h0 c q).2.2
  exact .inl (EZ m.fr.size q)
 rcases V4 hk' with h5|⟨h5,_⟩
 ·have hkl':k'<H.length:=by rw[m.hlen];simpa using(FB.1 h5).1
  rw[Fv hkl']at z;rcases LD hkl h5 with⟨rfl,rfl⟩|⟨hne',h6⟩
  ·cases Z
  rcases q with q|q
  ·exact hne' (m.Dp k' k e'' e0 h'' h c h6 hk Z M z hh L q)
  have :=(m.blk k' e'' h'' c h6 Z z L).2.1;omega
 simp at h5;exact Y (by rw[h5,m.hlen])
def jH {w:World} {e size n:Nat} {v:Value} {xs:List Value} (h:lQ w e size v n xs) {g:Nat} (j:Cb v=some g):g<w.heap.size:=by
 rcases h.2 with⟨rfl,_⟩|⟨q,_,_,rfl,_,m,_⟩
 ·simp[Cb]at j
 simp[Cb]at j;subst j;exact(FX.1 m).1
def aH4 {w:World} {e size n:Nat} {v:Value} {xs:List Value} (h:lQ w e size v n xs):v.ownBlock=Cb v:=by
 rcases h.2 with⟨rfl,_⟩|⟨j,_,_,rfl,_⟩<;>rfl
def OE {ok:Nat→Prop} {w:World} {H:List BJ} {k:Nat} {v:Value} {h:BJ} (m:R ok w H (.aY k) v) (q:H[k]? =some h):v=h.v:=by
 cases m with
 |aY _ ad n cap s j=>rw[q]at j;rw[CG j]
def amX {C:Dw} {ok:Nat→Prop} {H:List BJ} {w:World} (Z:CS C ok H es w) {t ty e:TypeId} {size m k:Nat} {xs ys:List D} (hE:Fh P t e size m) (hk:es[k]? =some (.arr e size xs))
 {v x:Value} (hv:R ok w H (.aY k) v) {j:List Value} (J:Ue w x ys.length size j) (z:FQ ok w H (flat ys) j) (hys:∀y∈ys,y.cells.length=size) (hb:(xs.length+ys.length)*m≤140737488355328) (hn:xs.length+ys.length≤maxLen):
 ∃v' w' H',(Builtin.append_ #[t,t] ty #[v,x]).run P w=.ok v' w'∧Dz ok w ok w'∧Names H H'∧CS C ok H' (es.set k .dead++[.arr e size (xs++ys)]) w'∧R ok w' H' (.aY es.length) v':=by
 obtain⟨h,hh,hok⟩:=FV Z.ent Z.hlen hk;obtain rfl:=OE hv hh;obtain⟨h1,h2,CQ,u,hrs⟩:=hok;obtain⟨v',w',hr,I,L,M⟩:=aLX (P:=P) (ty:=ty) hE u J hb hn
 obtain⟨h3,h4⟩:=Z.turn (h':=⟨v',size⟩) (e:=.arr e size (xs++ys)) hk rfl hh L.os L.tape L.output L.size (fun c hc hne=>L.block c hc (by rw[aH4 u];exact fun e=>hne e.symm)) (fun g O=>⟨jH I O,M g O⟩) (fun U=>by
  refine⟨rfl,fun y hy=>?_,CQ++j,PK,?_⟩
  ·rcases Fz.1 hy with h|h
   ·exact h2 y h
   exact hys y h
  have Y:=hrs.mono U (Names.push H [⟨v',size⟩]);have a2:=z.mono U (Names.push H [⟨v',size⟩]);rw[bD];refine⟨by rw[Dk,Dk,Y.1,a2.1],fun i hi=>?_⟩;by_cases q:i<(flat xs).length
  ·have e1:(flat xs++flat ys).getD i .junk=(flat xs).getD i .junk:=by simp[List.getD,Fv q]
   have e2:(CQ++j).getD i undef=CQ.getD i undef:=by simp[List.getD,Fv (by rw[Y.1];exact q:i<CQ.length)]
   rw[e1,e2];exact Y.2 i q
  have hi3:i-(flat xs).length<(flat ys).length:=aHW
  have e1:(flat xs++flat ys).getD i .junk=(flat ys).getD (i-(flat xs).length) .junk:=by simp[List.getD,J3 (TN q)]
  have e2:(CQ++j).getD i undef=j.getD (i-(flat xs).length) undef:=by simp[List.getD,J3 (by rw[Y.1];omega:CQ.length≤i),Y.1]
  rw[e1,e2];exact a2.2 _ hi3)
 refine⟨v',w',_,hr,h4,Names.push _ _,h3,?_⟩;have hH:(H++[(⟨v',size⟩:BJ)])[es.length]? =some ⟨v',size⟩:=by rw[←Z.hlen];simp
 rcases I.2 with⟨rfl,_⟩|⟨g',c',_,rfl,_⟩
 ·exact .aY _ _ _ _ size hH
 exact .aY _ _ _ _ size hH
def alm {s x:Operand} {t e:TypeId} {size j k:Nat} {xs ys:List D} (hE:Fh P t e size j) (O:es[k]? =some (.arr e size xs)) (m:∀y∈ys,y.cells.length=size)
 (U:(xs.length+ys.length)*j≤140737488355328) (Y:xs.length+ys.length≤maxLen) (Z:o.op=.call { callee:=.builtin .append,args:= #[s,x],argTypes:= #[t,t] }):
 BN P o [(s,.aY k),(x,.d (.sl ys))] es (.aY es.length) (es.set k .dead++[.arr e size (xs++ys)]):=
 .eff fun C ok H a w hm q=>by
  have J:=(EL q).1;have L:=(EL q).2;simp only at J L;have z:DF ok w (.sl ys) (a.eval x):=by cases L with |d _ _ h=>exact h
  obtain⟨M,u,I⟩:=dK H z m;obtain⟨v',w',H',hr,r1,r2,r3,r4⟩:=amX (ty:=o.type) hm hE O J u I m U Y;refine⟨v',w',ok,H',.inl ?_,r1,r2,r3,r4⟩;simp[execOp,Z,resolve,invoke,builtin,hr]
def aFu {C:Dw} {ok:Nat→Prop} {H:List BJ} {w:World} (m:CS C ok H es w) (e:TypeId) (size:Nat):
 CS C ok (H++[⟨.slice none 0 0,size⟩]) (es++[.arr e size []]) w∧R ok w (H++[⟨.slice none 0 0,size⟩]) (.aY es.length) (.slice none 0 0):=by
 obtain⟨h,_⟩:=m.change (ok':=ok) (w':=w) (H':=H++[⟨.slice none 0 0,size⟩]) (es':=es++[.arr e size []]) (fun _=>False) rfl rfl rfl (Dc _) (fun _ _ _=>rfl) (fun _ h=>h.elim) (fun _ h=>h) (fun _ h=>.inl h) (Names.push _ _) (by simp[m.hlen]) (by
  intro k e' h' u j;rcases V4 u with q|⟨q,I⟩
  ·have z:k<H.length:=by rw[m.hlen];exact(FB.1 q).1
   rw[Fv z]at j;exact .inl ⟨q,j,fun _ _ _ h=>h⟩
  subst I;have z:k=H.length:=by rw[m.hlen];exact q
  subst z;simp at j;subst j
  exact .inr ⟨⟨rfl,Am,[],⟨Am,.inl ⟨rfl,rfl⟩⟩,SB,fun i hi=>aA4⟩,fun _ b J=>by simp[Cb]at J⟩)
 exact⟨h,.aY _ _ _ _ size aBl⟩
def DC (e:TypeId) (size:Nat) (j:o.op=.assign (.const (.slice none 0 0))):BN P o [] es (.aY es.length) (es++[.arr e size []]):=
 .eff fun C ok H a w m _=>by
  obtain⟨q,u⟩:=aFu m e size;exact⟨.slice none 0 0,w,ok,_,.inl aLr,.refl _ _,Names.push _ _,q,u⟩
def ako (j:o.op=.assign (.const (.slice none 0 0))):BN P o [] es (.d (.sl [])) es:=
 .pure fun _ _ a w _ _ _=>⟨.slice none 0 0,aLr,.d _ _ (.sl0 none 0)⟩
def aiW (j:o.op=.move (.const (.slice none 0 0))):BN P o [] es (.d (.sl [])) es:=
 .pure fun _ _ a w _ _ _=>⟨.slice none 0 0,aLr,.d _ _ (.sl0 none 0)⟩
end
def aa7 (off:Nat):∀(vs:List Value) (i:Nat) (cells:Array Value),off+i+vs.length≤cells.size→
 ((vs.zipIdx i).foldl (fun cs (p:Value×Nat)=>cs.setIfInBounds (off+p.2) p.1) cells).toList=setAt cells.toList (off+i) vs
 | [],i,cells,h=>by simp[setAt]
 |v::vs,i,cells,h=>by
  simp only[FC]at h;rw[List.zipIdx_cons,El];rw[aa7 off vs (i+1) _ DK];simp only[aHp];have j:off+i<cells.toList.length:=DK
  unfold setAt;rw[aGa,CJ j];have m:(cells.toList.take (off+i)).length=off+i:=DK
  have q:(List.take (off+i) cells.toList++v::List.drop (off+i+1) cells.toList).take (off+(i+1))=cells.toList.take (off+i)++[v]:=by
   rw[aGP,m,PE A8];have :off+(i+1)-(off+i)=1:=A8
   rw[this];simp
  have u:(List.take (off+i) cells.toList++v::List.drop (off+i+1) cells.toList).drop (off+(i+1)+vs.length)=cells.toList.drop (off+i+(vs.length+1)):=by
   rw[List.drop_append,m,aBa A8];have :off+(i+1)+vs.length-(off+i)=vs.length+1:=A8
   rw[this];simp[aHS];congr 1;omega
  rw[q,u];simp
def Lu :List (Nat×Operand)→List AV→List (Operand×AV)
 |(_,x)::j,v::vs=>(x,v)::Lu j vs
 |_,_=>[]
def Lm (place:Nat→Option (Nat×Nat)) (n:Nat):List (Nat×Operand)→List AV→Bool
 |(i,_)::j,v::vs=>(match place i with |some (off,s)=>decide (v.cells.length=s)&&decide (off+s≤n)&&v.cells.all AV.leaf|none=>false)&&Lm place n j vs
 | [],[]=>true
 |_,_=>false
def J6 (place:Nat→Option (Nat×Nat)):List AV→List (Nat×Operand)→List AV→List AV
 |cs,(i,_)::j,v::vs=>J6 place (setAt cs ((place i).getD (0,0)).1 v.cells) j vs
 |cs,_,_=>cs
def FQ.setAt {ok:Nat→Prop} {w:World} {H:List BJ} {cs ys:List AV} {vs us:List Value} {off:Nat} (h:FQ ok w H cs vs) (k:FQ ok w H ys us) (j:off+ys.length≤cs.length):FQ ok w H (setAt cs off ys) (setAt vs off us):=by
 refine⟨by rw[Ql (by rw[h.1,k.1];exact j),Ql j,h.1],fun i hi=>?_⟩;rw[Ql j]at hi;rw[WG j,WG (by rw[h.1,k.1];exact j),k.1];split
 ·exact k.2 _ A8
 exact h.2 i hi
def jk {ok:Nat→Prop} {w:World} {H:List BJ} {place:Nat→Option (Nat×Nat)} {a:Act}:∀(m:List (Nat×Operand)) (vs:List AV) (cs:List AV) (cells:Array Value),FQ ok w H cs cells.toList→Lm place cs.length m vs=true→
 (∀n∈Lu m vs,R ok w H n.2 (a.eval n.1))→∃j,Instr.fill place cells (m.map fun p=>(p.1,a.eval p.2))=some j∧FQ ok w H (J6 place cs m vs) j.toList
 | [],[],cs,cells,I,_,_=>⟨cells,rfl,I⟩
 | [],_::_,_,_,_,h,_=>by simp[Lm]at h
 |_::_,[],_,_,_,h,_=>by simp[Lm]at h
 |(i,x)::m,v::vs,cs,cells,I,h,M=>by
  simp only[Lm,CV]at h;obtain⟨q,Y⟩:=h;cases J:place i with
  |none=>rw[J]at q;cases q
  |some os=>
   obtain⟨off,s⟩:=os;rw[J]at q;simp only[CV,Fb]at q;obtain⟨⟨h3,h4⟩,Z⟩:=q;have O:FQ ok w H v.cells (a.eval x).cells.toList:=(M (x,v) (by simp[Lu])).ahD Z;have hsz:(a.eval x).cells.size=s:=by have :=O.1;simp at this;omega
   have U:cells.size=cs.length:=by simpa using I.1
   have u:((a.eval x).cells.zipIdx.foldl (fun cs (p:Value×Nat)=>cs.setIfInBounds (off+p.2) p.1) cells).toList=setAt cells.toList off (a.eval x).cells.toList:=by
    rw[←Array.foldl_toList,Array.toList_zipIdx];exact aa7 off (a.eval x).cells.toList 0 cells DK
   have z:=I.setAt O (off:=off) A8;rw[←u]at z;obtain⟨j,hc,hR⟩:=jk m vs (setAt cs off v.cells) _ z (by rw[Ql A8];exact Y) (fun n L=>M n (by simp[Lu,L]));refine⟨j,?_,?_⟩
   ·simp only[I7,Instr.fill,J];rw[CU DK];exact hc
   simp only[J6,J,MH];exact hR
def PS (z:Value) (n:Nat):List AV:=(List.range n).map fun k=>(Et z).getD (k % z.cells.size) .junk
def aoC {ok:Nat→Prop} {w:World} {H:List BJ} {z:Value} {n:Nat} (hl:z.cells.all (·.oneCell')=true) (q:0<z.cells.size):FQ ok w H (PS z n) (((Array.range n).map (z.cells[· % z.cells.size]!)).toList):=by
 refine⟨by simp[PS],fun i hi=>?_⟩;have j:i<n:=by simpa[PS]using hi
 have m:i % z.cells.size<z.cells.size:=cD _ q;have u:(PS z n).getD i .junk=.d (Nz z.cells[i % z.cells.size]):=by simp[PS,Et,List.getD,j,m]
 have I:(((Array.range n).map (z.cells[· % z.cells.size]!)).toList).getD i undef=z.cells[i % z.cells.size]:=by simp[List.getD,j,m]
 rw[u,I];exact⟨qo ((PU.1 hl) _ Am),.d _ _ (bG _)⟩
def aMB {ok:Nat→Prop} {w:World} {H:List BJ} {z:Value} (hl:z.cells.all (·.oneCell')=true):FQ ok w H (Et z) z.cells.toList:=by
 refine⟨by simp[Et],fun i hi=>?_⟩;simp only[Et,C9,SG]at hi;have j:(Et z).getD i .junk=.d (Nz z.cells[i]):=by simp[Et,List.getD,hi]
 have m:z.cells.toList.getD i undef=z.cells[i]:=LX
 rw[j,m];exact⟨qo ((PU.1 hl) _ Am),.d _ _ (bG _)⟩
def aFv {P:Program} {w:World}:∀(l:List Field),(∀f∈l,(P.info? f.type).isSome=true)→
 (l.mapM fun f=>(do pure (f.offset,←sizeOf f.type):Sem (Nat×Nat))).run P w=.ok (l.map fun f=>(f.offset,P.cellsOf f.type)) w
 | [],_=>rfl
 |f::l,h=>by
  obtain⟨i,hi⟩:=RS.1 (h f Am);have j:=aFv (P:=P) (w:=w) l (fun g m=>h g (by simp[m]));have hs:(sizeOf f.type).run P w=.ok i.size w:=by simp[sizeOf,typeInfo,hi]
  have q:P.cellsOf f.type=i.size:=by simp[Program.cellsOf,hi]
  simp only[List.mapM_cons,Ep,hs,F5,Fa,j,I7,q]
structure II (P:Program) (t:TypeId) (places:List (Nat×Nat)) (z:Value):Prop where
 fields:∃fs,P.underlying t=some (.struct fs)∧(∀f∈fs.toList,(P.info? f.type).isSome=true)∧(fs.toList.map fun f=>(f.offset,P.cellsOf f.type))=places
 zero:(P.info? t).bind (·.zero)=some z
 one:z.cells.all (·.oneCell')=true
def ad5 (P:Program) (t:TypeId) (j:List (Nat×Nat)):Bool:=
 match P.underlying t with
 |some (.struct m)=>m.toList.all (fun f=>(P.info? f.type).isSome)&&decide ((m.toList.map fun f=>(f.offset,P.cellsOf f.type))=j)
 |_=>false
def KL {P:Program} {t:TypeId} {j:List (Nat×Nat)} {z:Value} (h:ad5 P t j=true) (m:(P.info? t).bind (·.zero)=some z) (q:z.cells.all (·.oneCell')=true):II P t j z:=by
 unfold ad5 at h;split at h
 ·rename_i u I;simp only[CV,E5,Fb]at h;exact⟨⟨u,I,h.1,h.2⟩,m,q⟩
 cases h
section
variable {P : Program} {o : Oper} {es : List Aq}
def aCm {t:TypeId} {z:Value} (m:(P.info? t).bind (·.zero)=some z) (w:World):(zeroValue t).run P w=.ok z w:=by
 obtain⟨i,hi,j⟩:=eP.1 m;simp[zeroValue,typeInfo,hi,j]
def aPf {l:List AV} (h:l.all AV.yR=true):l=(IG l).map .d:=by
 rw[E5]at h;unfold IG;rw[qg]
 conv=>lhs;rw[←List.map_id l]
 refine aBD fun x j=>?_;have :=h x j;cases x<;>first|rfl|(simp[AV.yR]at this)
def aqH {t:TypeId} {m:Array (Nat×Operand)} {j:List (Nat×Nat)} {z:Value} (Z:II P t j z) (vs:List AV) (hp:Lm (fun(i:Nat)=>j[i]?) (Et z).length m.toList vs=true) (ho:o.op=.build t m):
 BN P o (Lu m.toList vs) es (.ag (J6 (fun(i:Nat)=>j[i]?) (Et z) m.toList vs)) es:=
 .pure fun ok H a w _ _ hn=>by
  obtain⟨⟨U,hu,hf,I⟩,hz,h1⟩:=Z;have J:=aCm (P:=P) hz w;have L:(underlying t).run P w=.ok (.struct U) w:=aAU
  have hm:(U.mapM fun f=>(do pure (f.offset,←sizeOf f.type):Sem (Nat×Nat))).run P w=.ok j.toArray w:=by
   rw[aN5];rw[lI,aFv _ hf,I];rfl
  obtain⟨q,hc,u⟩:=jk (place:=fun(i:Nat)=>j[i]?) m.toList vs (Et z) z.cells (aMB (ok:=ok) (w:=w) (H:=H) h1) hp hn;refine⟨.agg q,?_,.ag _ _ (by simpa using u.1) (fun i hi=>(u.2 i hi).1) (fun i hi=>?_)⟩
  rotate_left
  ·have Y:=(u.2 i hi).2;have M:i<q.size:=by have :=u.1;simp at this;omega
   have O:q.toList.getD i undef=q.getD i undef:=by simp[List.getD,Array.getD,M]
   rw[O]at Y;exact Y
  have e:(m.map fun(i,x)=>(i,a.eval x)).toList=m.toList.map fun p=>(p.1,a.eval p.2):=Am
  have O:(fun(i:Nat)=>j.toArray[i]?)=(fun(i:Nat)=>j[i]?):=by funext i;simp
  simp only[execOp,ho,Instr.build,Ep,J,L,hm,F5];rw[e,O,hc];rfl
def am3 {t:TypeId} {m:Array (Nat×Operand)} {j:List (Nat×Nat)} {z:Value} (hS:II P t j z) (vs:List AV) (hp:Lm (fun(i:Nat)=>j[i]?) (Et z).length m.toList vs=true)
 (hd:(J6 (fun(i:Nat)=>j[i]?) (Et z) m.toList vs).all AV.yR=true) (ho:o.op=.build t m):
 BN P o (Lu m.toList vs) es (.d (.agg (IG (J6 (fun(i:Nat)=>j[i]?) (Et z) m.toList vs)))) es:=
 .pure fun ok H a w _ _ hn=>by
  obtain⟨⟨Z,hu,hf,u⟩,hz,h1⟩:=hS;have I:=aCm (P:=P) hz w;have J:(underlying t).run P w=.ok (.struct Z) w:=aAU
  have hm:(Z.mapM fun f=>(do pure (f.offset,←sizeOf f.type):Sem (Nat×Nat))).run P w=.ok j.toArray w:=by
   rw[aN5];rw[lI,aFv _ hf,u];rfl
  obtain⟨q,hc,L⟩:=jk (place:=fun(i:Nat)=>j[i]?) m.toList vs (Et z) z.cells (aMB (ok:=ok) (w:=w) (H:=H) h1) hp hn;refine⟨.agg q,?_,.d _ _ ?_⟩
  ·have e:(m.map fun(i,x)=>(i,a.eval x)).toList=m.toList.map fun p=>(p.1,a.eval p.2):=Am
   have e2:(fun(i:Nat)=>j.toArray[i]?)=(fun(i:Nat)=>j[i]?):=by funext i;simp
   simp only[execOp,ho,Instr.build,Ep,I,J,hm,F5];rw[e,e2,hc];rfl
  rw[aPf hd]at L;generalize IG (J6 (fun(i:Nat)=>j[i]?) (Et z) m.toList vs)=xs at L ⊢;obtain⟨h2,M⟩:=L;simp only[C9]at h2 M
  have hg:∀i,i<xs.length→(xs.map AV.d).getD i .junk=.d (xs.getD i D8):=by
   intro i hi;simp[List.getD,hi]
  have O:q.size=xs.length:=jq
  refine .agg xs q O ?_ ?_<;>intro i hi
  ·have :=(M i hi).1;rw[hg i hi]at this;exact this
  have U:=(M i hi).2;rw[hg i hi]at U;have Y:i<q.size:=A8
  have e:q.toList.getD i undef=q.getD i undef:=by simp[List.getD,Array.getD,Y]
  rw[e]at U;cases U with |d _ _ h=>exact h
def anH {ok:Nat→Prop} {w:World} {H:List BJ} {ys:List D} {size b:Nat} {cells:Array Value} {e:TypeId} {fr:Nat×Nat} (q:∀y∈ys,y.cells.length=size) (M:w.heap[b]? =some (.cells cells e fr)) (u:ok b) (z:FQ ok w H (flat ys) cells.toList):
 DF ok w (.sl ys) (.slice (some ⟨b,0,none⟩) ys.length ys.length):=by
 have hl:=QZ q;have I:cells.size=ys.length*size:=by have :=z.1;simp at this;omega
 have O:∀i,i<ys.length→ys.getD i D8∈ys:=fun i hi=>LX
 have J:∀i j,i<ys.length→j<size→i*size+j<ys.length*size:=by
  intro i j hi m
  calc i*size+j<i*size+size:=A8
   _=(i+1)*size:=by rw[U0]
   _≤ys.length*size:=JB _ hi
 have L:∀i j,i<ys.length→j<size→w.cell? ⟨b,0+(i*size+j),none⟩=some (cells.toList.getD (i*size+j) undef):=by
  intro i j hi m;have :=J i j hi m;rw[Ic];simp[World.cell?,M,I,this,List.getD]
 refine .sl ys b 0 ys.length size (Dc _) (fun _ _=>u) (fun i hi=>q _ (O i hi)) (fun i hi j m=>?_) (fun i hi j m=>?_) (fun i hi j m=>?_)
 ·have :=(z.2 (i*size+j) (by rw[hl];exact J i j hi m)).1;rw[flat_get q i j hi m]at this;exact this
 ·rw[L i j hi m];rfl
 have :=(z.2 (i*size+j) (by rw[hl];exact J i j hi m)).2;rw[flat_get q i j hi m]at this;unfold cellAt;rw[L i j hi m];cases this with |d _ _ h=>exact h
def aQf {t e:TypeId} {size q len:Nat} {z:Value} (hE:Fh P t e size q) (hz:(P.info? e).bind (·.zero)=some z) (h1:z.cells.all (·.oneCell')=true) (U:z.cells.size=size) (hlen:len*size≤16777216) {j:Array (Nat×Operand)} {vs:List AV}
 (hp:Lm (fun i=>some (i*size,size)) (len*size) j.toList vs=true) {ok:Nat→Prop} {w:World} {H:List BJ} {a:Act} (hn:∀n∈Lu j.toList vs,R ok w H n.2 (a.eval n.1)):
 ∃cells,(Instr.buildSlice t len (j.map fun(i,x)=>(i,a.eval x))).run P w=.ok (.slice (some ⟨w.heap.size,0,none⟩) len len) (w.alloc (.cells cells e))∧FQ ok w H (J6 (fun i=>some (i*size,size)) (PS z (len*size)) j.toList vs) cells.toList:=by
 obtain⟨i,z',hi,_,hs,_,_⟩:=hE.info;have Y:=aCm (P:=P) hz w;have u:(sizeOf e).run P w=.ok size w:=aLH
 have I:(underlying t).run P w=.ok (.slice e) w:=aHZ
 have e0:(j.map fun(i,x)=>(i,a.eval x)).toList=j.toList.map fun p=>(p.1,a.eval p.2):=Am
 have Z:(PS z (len*size)).length=len*size:=by simp[PS]
 have J:0<z.cells.size:=by rw[U];exact hE.pos
 obtain⟨m,hc,hR⟩:=jk (place:=fun i=>some (i*size,size)) j.toList vs (PS z (len*size)) _ (aoC (ok:=ok) (w:=w) (H:=H) (n:=len*size) h1 J) (by rw[Z];exact hp) hn;refine⟨m,?_,hR⟩;have L:¬(len*size>2^24):=A8
 by_cases M:len*size=0
 ·have hr0:(Array.range (len*size)).map (fun k=>(z.cells[k % z.cells.size]! :Value))= #[]:=by rw[M];simp
  rw[hr0]at hc;have O:(Array.range (len*size)).map (fun k=>((#[]:Array Value)[k % (#[]:Array Value).size]! :Value))= #[]:=by rw[M];simp
  simp only[Instr.buildSlice,Ep,I,F5,u,L,JC,Sem.run_ite,M,J5,Fa];simp only[M]at O;rw[O,e0,hc];rfl
 simp only[Instr.buildSlice,Ep,I,F5,u,L,JC,Sem.run_ite,M,Y,Fa];rw[e0,hc];rfl
def aj8 {t e:TypeId} {size m len:Nat} {z:Value} (hE:Fh P t e size m) (M:(P.info? e).bind (·.zero)=some z) (O:z.cells.all (·.oneCell')=true) (I:z.cells.size=size) (hlen:len*size≤16777216) {j:Array (Nat×Operand)} (vs:List AV) (ys:List D)
 (U:Lm (fun i=>some (i*size,size)) (len*size) j.toList vs=true) (J:J6 (fun i=>some (i*size,size)) (PS z (len*size)) j.toList vs=flat ys) (hl:ys.length=len) (q:ys.all (fun y=>decide (y.cells.length=size))=true) (Y:o.op=.buildSlice t len j):
 BN P o (Lu j.toList vs) es (.d (.sl ys)) es:=
 .eff fun C ok H a w Z hn=>by
  obtain⟨cells,hr,u⟩:=aQf hE M O I hlen U hn;rw[J]at u;obtain⟨h2,L⟩:=Z.fresh (.cells cells e);refine⟨.slice (some ⟨w.heap.size,0,none⟩) len len,_,_,H,.inl ?_,L,.refl _,h2,.d _ _ ?_⟩
  ·simp only[execOp,Y,Ep,hr,F5,Fa]
  rw[←hl];exact anH (H:=H) (fun y J=>by rw[E5]at q;simpa using q y J) (ZJ w _) (.inr rfl) (u.mono L (.refl _))
def aQA {t e:TypeId} {size m len:Nat} {z:Value} (hE:Fh P t e size m) (hz:(P.info? e).bind (·.zero)=some z) (h1:z.cells.all (·.oneCell')=true) (O:z.cells.size=size) (hlen:len*size≤16777216) {j:Array (Nat×Operand)} (vs:List AV) (ys:List D)
 (hp:Lm (fun i=>some (i*size,size)) (len*size) j.toList vs=true) (U:J6 (fun i=>some (i*size,size)) (PS z (len*size)) j.toList vs=flat ys) (hl:ys.length=len) (u:ys.all (fun y=>decide (y.cells.length=size))=true) (ho:o.op=.buildSlice t len j):
 BN P o (Lu j.toList vs) es (.aY es.length) (es++[.arr e size ys]):=
 .eff fun C ok H a w Y hn=>by
  obtain⟨cells,hr,q⟩:=aQf hE hz h1 O hlen hp hn;rw[U]at q;have I:∀y∈ys,y.cells.length=size:=fun y U=>by rw[E5]at u;simpa using u y U
  have hfl:=QZ I;have J:cells.size=ys.length*size:=by have :=q.1;simp at this;omega
  have L:=hE.pos
  have Z:ys.length≤16777216:=by
   have :ys.length*1≤ys.length*size:=Nat.mul_le_mul_left _ L;rw[hl]at this ⊢;omega
  obtain⟨h2,h3⟩:=Y.push (.cells cells e) ⟨.slice (some ⟨w.heap.size,0,none⟩) len len,size⟩ (.arr e size ys) (fun b M=>by simpa[Cb]using M.symm) (by
   refine⟨rfl,I,cells.toList,⟨TJ,.inr ⟨w.heap.size,len,cells,by rw[hl],EK _,ZJ w _,A8,aEP,ZB (by rw[J,hl]),?_⟩⟩,?_⟩
   ·rw[PE DK]
   exact q.mono (fun b M=>⟨M,J7 _ _ _ (Y.jM b M)⟩) (Names.push _ _))
  refine⟨.slice (some ⟨w.heap.size,0,none⟩) len len,_,ok,_,.inl ?_,h3,Names.push _ _,h2,.aY _ _ _ _ size (by rw[←Y.hlen];simp)⟩;simp only[execOp,ho,Ep,hr,F5,Fa]
end
section
variable {P : Program} {ops : Array Oper} {Q : Exit → Act → World → Prop} {φ : Nat → Value → World → Prop} {W : World} {a0 : Act} {i : Nat}
variable {d : Option Tmp} {t : TypeId} {p : String} {af : Array Edge} {g : Option (Nat × Bool)}
def Enters (P:Program) (f:FuncId):Prop:=∀args w,(callFunc f args).run P w=.ok (.enter f args) w
def enters_of {f:FuncId} {fn:Func} {c:Code} (m:P.funcs[f]? =some fn) (j:(fn.name== "runtime.NumGoroutine")=false) (q:fn.body=some c):Enters P f:=by
 intro args w;have u:fn.name≠ "runtime.NumGoroutine" :=MK
 simp[callFunc,m,u,q]
def DV (P:Program) (f:FuncId):Bool:=match P.funcs[f]? with
 |some fn=> !(fn.name== "runtime.NumGoroutine")&&fn.body.isSome
 |none=>false
def RI {f:FuncId} (h:DV P f=true):Enters P f:=by
 unfold DV at h;cases j:P.funcs[f]? with
 |none=>rw[j]at h;cases h
 |some fn=>
  rw[j]at h;simp only[CV,Qq]at h;obtain⟨c,m⟩:=RS.1 h.2;exact enters_of j h.1 m
def mV {o:Oper} {a:Act} {f:FuncId} {ats:Array TypeId} {aDK:Array Operand} (j:o.op=.call { callee:=.value (.func f),args:=aDK,argTypes:=ats }):execOp a.eval o=callFunc f (aDK.map a.eval):=by
 have m:a.eval (.func f)=.func (.func f) #[] #[]:=rfl;unfold execOp;simp[j,resolve,Deferred.ofValue,invoke,m]
end
inductive DJ where
 |ent (k:Nat)
 |nil (size:Nat)
def DJ.hd (H:List BJ):DJ→BJ
 | .ent k=>H.getD k ⟨undef,0⟩
 | .nil s=>⟨.slice none 0 0,s⟩
def AV.SY (srcs:List DJ) (n:Nat):AV→AV
 | .d x=>.d x
 | .ptr k off=>match srcs[k]? with |some (.ent j)=>.ptr j off|some (.nil _)=>.junk|none=>.ptr (n+(k-srcs.length)) off
 | .aY k=>match srcs[k]? with |some (.ent j)=>.aY j|some (.nil _)=>.junk|none=>.aY (n+(k-srcs.length))
 | .kT k i off=>match srcs[k]? with |some (.ent j)=>.kT j i off|some (.nil _)=>.junk|none=>.kT (n+(k-srcs.length)) i off
 | .mp k=>match srcs[k]? with |some (.ent j)=>.mp j|some (.nil _)=>.junk|none=>.mp (n+(k-srcs.length))
 | .vT k=>match srcs[k]? with |some (.ent j)=>.vT j|some (.nil _)=>.junk|none=>.vT (n+(k-srcs.length))
 | .clip xs=>.clip xs
 |_=>.junk
def AV.up (srcs:List DJ) (n:Nat):AV→AV
 | .eF xs=>.eF (xs.map (AV.SY srcs n))
 | .fn f fi ca=>.fn f (fi.map (AV.SY srcs n)) (ca.map (AV.SY srcs n))
 |x=>x.SY srcs n
def aHv (srcs:List DJ):AV→AV→Prop
 | .d x,y=>y=.d x
 | .ptr k off,y=>∃i,y=.ptr i off∧srcs[i]? =some (.ent k)
 | .mp k,y=>∃i,y=.mp i∧srcs[i]? =some (.ent k)
 |_,_=>False
def qN (srcs:List DJ):List AV→List AV→Prop
 |x::xs,y::ys=>aHv srcs x y∧qN srcs xs ys
 | [],[]=>True
 |_,_=>False
def s0 {srcs:List DJ}:∀{xs ys:List AV},qN srcs xs ys→xs.length=ys.length
 | [],[],_=>rfl
 |_::xs,_::ys,h=>by simp[s0 h.2]
 | [],_::_,h=>h.elim
 |_::_,[],h=>h.elim
def aHE {srcs:List DJ}:∀{xs ys:List AV},qN srcs xs ys→∀i,i<ys.length→aHv srcs (xs.getD i .junk) (ys.getD i .junk)
 | [],[],_,i,hi=>MO
 |_::xs,_::ys,h,0,_=>by simpa using h.1
 |_::xs,_::ys,h,i+1,hi=>by simpa using aHE h.2 i FU
 | [],_::_,h,_,_=>h.elim
 |_::_,[],h,_,_=>h.elim
def abj (srcs:List DJ):AV→AV→Prop
 | .fn f fi ca,y=>∃j m,y=.fn f j m∧qN srcs fi j∧qN srcs ca m
 | .d x,y=>y=.d x∨(∃i s,x=.lit (.slice none 0 0)∧y=.aY i∧srcs[i]? =some (.nil s))∨(x=.lit (.slice none 0 0)∧y=.d (.sl []))
 | .aY k,y=>∃i,y=.aY i∧srcs[i]? =some (.ent k)
 | .ptr k off,y=>∃i,y=.ptr i off∧srcs[i]? =some (.ent k)
 | .mp k,y=>∃i,y=.mp i∧srcs[i]? =some (.ent k)
 |_,_=>False
def Aq.closed:Aq→Bool
 | .box cs=>cs.all AV.yR
 | .loop .. =>false
 |_=>true
def EY.any {ok:Nat→Prop} {w:World} {H H2:List BJ} {h:BJ} {e:Aq} (m:EY ok w H h e) (z:e.closed=true):EY ok w H2 h e:=by
 cases e with
 |dead=>trivial
 |box cs=>
  obtain⟨b,vs,T,I,J,L,u⟩:=m;refine⟨b,vs,T,I,J,L,fun i hi=>⟨(u i hi).1,?_⟩⟩;have q:=(u i hi).2;simp only[Aq.closed,E5]at z;have j:=z (cs.getD i .junk) LX;cases O:cs.getD i .junk with
  |d x=>rw[O]at q;cases q with |d _ _ h=>exact .d _ _ h
  |_=>rw[O]at j;simp[AV.yR]at j
 |arr e s es=>
  obtain⟨I,J,xs,L,u,q⟩:=m;refine⟨I,J,xs,L,u,fun i hi=>⟨(q i hi).1,?_⟩⟩;have j:=(q i hi).2;have M:(flat es).getD i .junk∈flat es:=LX
  unfold flat at M ⊢;simp only[RX,FH]at M;obtain⟨x,_,y,_,U⟩:=M;unfold flat at j;rw[←U]at j ⊢;cases j with |d _ _ h=>exact .d _ _ h
 |map es=>exact m
 |eH es=>exact m
 |iter es vis=>exact m
 |loop=>cases z
def Aq.up (srcs:List DJ) (n:Nat):Aq→Aq
 | .box cs=>.box (cs.map (AV.SY srcs n))
 |e=>e
def AV.aoH (srcs:List DJ):AV→Bool
 | .d _=>true
 | .mp k=>match srcs[k]? with |some (.ent _)=>true|_=>false
 | .ptr k _=>match srcs[k]? with |some (.ent _)=>true|_=>false
 |_=>false
def Aq.akn (srcs:List DJ):Aq→Bool
 | .box cs=>cs.all (AV.aoH srcs)
 | .loop .. =>false
 |_=>true
def Aq.alZ (srcs:List DJ) (n:Nat):Aq→Bool
 | .box cs=>cs.all fun x=>x.yR||(x.SY srcs n).leaf
 | .loop .. =>false
 |_=>true
def Aq.abP (srcs:List DJ) (n:Nat) (e:Aq):(e.up srcs n).live=e.live:=by cases e<;>rfl
def abn {srcs:List DJ} {n:Nat} {x:AV} (h:x.yR=true):x.SY srcs n=x:=by cases x<;>first|rfl|cases h
def Aq.avt {srcs:List DJ} {n:Nat} {e:Aq} (h:e.closed=true):e.up srcs n=e:=by
 cases e with
 |box cs=>
  simp only[Aq.closed,E5]at h;show Aq.box (cs.map (AV.SY srcs n))=Aq.box cs
  rw[show cs.map (AV.SY srcs n)=cs from by
   conv=>rhs;rw[←List.map_id cs]
   exact aBD fun x j=>abn (h x j)]
 |_=>rfl
def af4 {srcs:List DJ} {n:Nat}:∀{E:List Aq},E.all Aq.closed=true→E.map (Aq.up srcs n)=E
 | [],_=>rfl
 |e::E,h=>by
  simp only[qY,CV]at h;rw[I7,Aq.avt h.1,af4 h.2]
def ahP {srcs:List DJ} {n:Nat} {e:Aq} (h:e.closed=true):e.alZ srcs n=true:=by
 cases e with
 |box cs=>
  simp only[Aq.closed,Aq.alZ,E5]at h ⊢;intro x j;rw[h x j];rfl
 |loop=>cases h
 |_=>rfl
def EY.down {ok:Nat→Prop} {w:World} {H Hc:List BJ} {h:BJ} {srcs:List DJ} {n:Nat} {e:Aq} (J:∀(j:Nat) (s:DJ),srcs[j]? =some s→Hc[j]? =some (DJ.hd H s)) (hd:e.akn srcs=true) (u:EY ok w H h (e.up srcs n)):EY ok w Hc h e:=by
 cases e with
 |dead=>trivial
 |arr=>exact u.any rfl
 |map=>exact u
 |eH=>exact u
 |iter=>exact u
 |loop=>cases hd
 |box cs=>
  obtain⟨b,vs,T,L,M,O,U⟩:=u;refine⟨b,vs,T,L,M,by rw[O,C9],fun i hi=>?_⟩;obtain⟨z,q⟩:=U i aMW;rw[TS _ _ _ hi]at q z;simp only[Aq.akn,E5]at hd;have m:=hd (cs.getD i .junk) LX;generalize cs.getD i .junk=x at q m z ⊢;generalize vs.toList.getD i undef=v at q ⊢;cases x with
  |d x=>exact⟨z,by cases q with |d _ _ h=>exact .d _ _ h⟩
  |mp k=>
   refine⟨rfl,?_⟩;simp only[AV.aoH]at m;simp only[AV.SY]at q;cases hs:srcs[k]? with
   |none=>rw[hs]at m;cases m
   |some s=>
    cases s with
    |nil _=>rw[hs]at m;cases m
    |ent j=>
     rw[hs]at q;cases q with
     |mp _ _ s hl I=>
      refine .mp k _ s hl ?_;rw[J k _ hs];simp[DJ.hd,List.getD,I]
  |ptr k off=>
   refine⟨rfl,?_⟩;simp only[AV.aoH]at m;simp only[AV.SY]at q;cases hs:srcs[k]? with
   |none=>rw[hs]at m;cases m
   |some s=>
    cases s with
    |nil _=>rw[hs]at m;cases m
    |ent j=>
     rw[hs]at q;cases q with
     |ptr _ _ b s I=>
      refine .ptr k off b s ?_;rw[J k _ hs];simp[DJ.hd,List.getD,I]
  |_=>simp[AV.aoH]at m
def KU (srcs:List DJ) (es E':List Aq):List Aq:=
 (es.zipIdx.map fun(e,j)=>match srcs.findIdx? (fun s=>match s with | .ent k=>k==j| .nil _=>false)with |some i=>(E'.getD i .dead).up srcs es.length|none=>e)++(E'.drop srcs.length).map (Aq.up srcs es.length)
def Qs (srcs:List DJ) (es E E':List Aq):Bool:=
 decide (srcs.length=E.length)&&decide (srcs.length≤E'.length)&&E.all (Aq.akn srcs)&&E'.all (Aq.alZ srcs es.length)&&
 decide ((srcs.filterMap fun s=>match s with | .ent k=>some k| .nil _=>none).Nodup)&&
 ((srcs.zip E').all fun p=>match p.1 with | .ent _=>true| .nil _=> !p.2.live)&&(srcs.all fun s=>match s with | .ent k=>decide (k<es.length)&&(es.getD k .dead).live| .nil _=>true)
def rQ (srcs:List DJ) (es:List Aq):List Aq→Prop
 |E=>∀(i:Nat) (s:DJ),srcs[i]? =some s→match s with | .ent k=>(E[i]?).map (Aq.up srcs es.length)=es[k]? | .nil sz=>∃e,E[i]? =some (.arr e sz [])
def TK {ok:Nat→Prop} {w:World} {H Hc H':List BJ} {srcs:List DJ} {x:AV} {v:Value} (M:Hc=srcs.map (DJ.hd H)) (z:∀(i k:Nat),srcs[i]? =some (.ent k)→k<H.length) (O:Names Hc H') (h:R ok w H' x v):R ok w (H++H'.drop srcs.length) (x.SY srcs H.length) v:=by
 have key:∀(k:Nat) (hd:BJ),H'[k]? =some hd→(∀(j:Nat),srcs[k]? =some (.ent j)→(H++H'.drop srcs.length)[j]? =some hd)∧(srcs[k]? =none→(H++H'.drop srcs.length)[H.length+(k-srcs.length)]? =some hd):=by
  intro k hd J;refine⟨fun j L=>?_,fun I=>?_⟩
  ·have u:=z k j L;have q:Hc[k]? =some (H.getD j ⟨undef,0⟩):=by rw[M,Ia,L];rfl
   have m:=O _ _ q;rw[J]at m;rw[Fv u];simp[List.getD,u]at m;simp[u,m]
  have U:srcs.length≤k:=PK
  rw[J3 A8,Og];have :srcs.length+(H.length+(k-srcs.length)-H.length)=k:=A8
  rw[this,J]
 cases h with
 |d x v h=>exact .d x v h
 |ptr k off b s h=>
  obtain⟨q,m⟩:=key k _ h;simp only[AV.SY];split<;>rename_i hs
  ·exact .ptr _ off b s (q _ hs)
  ·exact .junk _
  exact .ptr _ off b s (m hs)
 |aY k ad n cap s h=>
  obtain⟨q,m⟩:=key k _ h;simp only[AV.SY];split<;>rename_i hs
  ·exact .aY _ ad n cap s (q _ hs)
  ·exact .junk _
  exact .aY _ ad n cap s (m hs)
 |kT k i off b n cap s h=>
  obtain⟨q,m⟩:=key k _ h;simp only[AV.SY];split<;>rename_i hs
  ·exact .kT _ i off b n cap s (q _ hs)
  ·exact .junk _
  exact .kT _ i off b n cap s (m hs)
 |mp k v s hl h=>
  obtain⟨q,m⟩:=key k _ h;simp only[AV.SY];split<;>rename_i hs
  ·exact .mp _ v s hl (q _ hs)
  ·exact .junk _
  exact .mp _ v s hl (m hs)
 |clip xs ad h=>exact .clip xs ad h
 |vT k ad n cap s h=>
  obtain⟨q,m⟩:=key k _ h;simp only[AV.SY];split<;>rename_i hs
  ·exact .vT _ ad n cap s (q _ hs)
  ·exact .junk _
  exact .vT _ ad n cap s (m hs)
 |fn f first cap vs us hl Y h h'=>exact .junk _
 |eF xs vs hl h=>exact .junk _
 |ag xs vs hl Z h=>exact .junk _
 |junk v=>exact .junk _
def aOJ {ok:Nat→Prop} {w:World} {H Hc H':List BJ} {srcs:List DJ} {x:AV} {v:Value} (m:Hc=srcs.map (DJ.hd H)) (j:∀(i k:Nat),srcs[i]? =some (.ent k)→k<H.length) (q:Names Hc H') (h:R ok w H' x v):R ok w (H++H'.drop srcs.length) (x.up srcs H.length) v:=by
 cases h with
 |eF xs vs hl h=>exact .eF _ vs Zc (fun i hi=>aQ9)
 |ag xs vs hl z h=>exact .junk _
 |d x v h=>exact TK m j q (.d x v h)
 |ptr k off b s h=>exact TK m j q (.ptr k off b s h)
 |aY k ad n cap s h=>exact TK m j q (.aY k ad n cap s h)
 |kT k i off b n cap s h=>exact TK m j q (.kT k i off b n cap s h)
 |mp k v s hl h=>exact TK m j q (.mp k v s hl h)
 |clip xs ad h=>exact TK m j q (.clip xs ad h)
 |vT k ad n cap s h=>exact TK m j q (.vT k ad n cap s h)
 |fn f first cap vs us hl u h h'=>exact .fn f _ _ vs us Zc (by simp[u]) (fun i hi=>aQ9) (fun i hi=>by rw[C9]at hi;rw[TS _ _ _ hi];exact TK m j q (h' i hi))
 |junk v=>exact .junk _
def EY.upw {ok:Nat→Prop} {w:World} {H Hc H':List BJ} {h:BJ} {srcs:List DJ} {n:Nat} {e:Aq} (z:Hc=srcs.map (DJ.hd H)) (q:∀(i k:Nat),srcs[i]? =some (.ent k)→k<H.length) (I:Names Hc H') (hl:H.length=n) (u:e.alZ srcs n=true) (j:EY ok w H' h e):
 EY ok w (H++H'.drop srcs.length) h (e.up srcs n):=by
 cases e with
 |dead=>trivial
 |arr=>exact j.any rfl
 |map=>exact j
 |eH=>exact j
 |iter=>exact j
 |loop=>cases u
 |box cs=>
  obtain⟨b,vs,T,J,L,M,O⟩:=j;refine⟨b,vs,T,J,L,by rw[M,C9],fun i hi=>?_⟩;rw[C9]at hi;obtain⟨U,Y⟩:=O i hi;simp only[Aq.alZ,E5]at u;have m:=u (cs.getD i .junk) LX;rw[TS _ _ _ hi];refine⟨?_,by have :=TK z q I Y;rwa [hl]at this⟩;rcases Bool.or_eq_true_iff.1 m with m|m
  ·rw[abn m];exact U
  exact m
def Em :List Operand→List AV→List (Operand×AV)
 |x::xs,v::vs=>(x,v)::Em xs vs
 |_,_=>[]
def Kz (srcs:List DJ):List AV→List AV→Prop
 |x::xs,y::ys=>abj srcs x y∧Kz srcs xs ys
 | [],[]=>True
 |_,_=>False
def aPT {srcs:List DJ}:∀{xs ys:List AV},Kz srcs xs ys→xs.length=ys.length
 | [],[],_=>rfl
 |_::xs,_::ys,h=>by simp[aPT h.2]
 | [],_::_,h=>h.elim
 |_::_,[],h=>h.elim
def aqs {srcs:List DJ} {ops:List Operand}:∀{xs ys:List AV},ops.length=xs.length→Kz srcs xs ys→∀i,i<ys.length→∃o x,ops[i]? =some o∧(o,x)∈Em ops xs∧abj srcs x (ys.getD i .junk):=by
 induction ops with
 |nil=>
  intro xs ys hl h i hi;cases xs with
  |nil=>cases ys with |nil=>simp at hi|cons _ _=>exact h.elim
  |cons _ _=>simp at hl
 |cons o ops j=>
  intro xs ys hl h i hi;cases xs with
  |nil=>simp at hl
  |cons x xs=>
   cases ys with
   |nil=>exact h.elim
   |cons y ys=>
    cases i with
    |zero=>exact⟨o,x,rfl,by simp[Em],h.1⟩
    |succ i=>
     obtain⟨m,q,u,z,I⟩:=j Ko h.2 i FU;exact⟨m,q,LJ,by simp[Em,z],PK⟩
def agQ {srcs:List DJ} {H:List BJ} {b:Nat}:b∈(srcs.filterMap fun s=>match s with | .ent k=>Cb (H.getD k ⟨undef,0⟩).v| .nil _=>none)↔∃k,.ent k∈srcs∧Cb (H.getD k ⟨undef,0⟩).v=some b:=by
 rw[SN];constructor
 ·rintro⟨s,hs,h⟩;cases s with
  |ent k=>exact⟨k,hs,h⟩
  |nil _=>cases h
 rintro⟨k,hs,h⟩;exact⟨_,hs,h⟩
section
variable {P : Program} {o : Oper} {es : List Aq}
def aRy :∀{srcs:List DJ},(srcs.filterMap fun s=>match s with | .ent k=>some k| .nil _=>none).Nodup→∀(i j k:Nat),srcs[i]? =some (.ent k)→srcs[j]? =some (.ent k)→i=j
 | [],_,i,j,k,h,_=>Gv
 |s::srcs,q,i,j,k,hi,u=>by
  have m:∀(n:Nat),srcs[n]? =some (.ent k)→k∈srcs.filterMap fun s=>match s with | .ent k=>some k| .nil _=>none:=fun n h=>by
   rw[SN];exact⟨_,VJ h,rfl⟩
  have z:(srcs.filterMap fun s=>match s with | .ent k=>some k| .nil _=>none).Nodup:=by
   cases s with
   |ent k'=>simp only[Ny]at q;exact(JX.1 q).2
   |nil _=>simpa only[Ny]using q
  match i,j with
  |0,0=>rfl
  |0,j+1=>
   simp at hi u;subst hi;simp only[Ny]at q;exact absurd (m j u) (JX.1 q).1
  |i+1,0=>
   simp at hi u;subst u;simp only[Ny]at q;exact absurd (m i hi) (JX.1 q).1
  |i+1,j+1=>rw[aRy z i j k FU LJ]
def aP6 {f:FuncId} {C:Dw} {ok:Nat→Prop} {H:List BJ} {w:World} (Y:CS C ok H es w) (srcs:List DJ) {dX fV:List AV} {E E':List Aq} {res:AV} (hr:Ap P f fV E res E')
 (hb:Qs srcs es E E'=true) (hE:rQ srcs es E) (ha:Kz srcs dX fV) {ops:List Operand} (hl:ops.length=dX.length) {a:Act} (hn:∀n∈Em ops dX,R ok w H n.2 (a.eval n.1)):
 Calls P f (ops.map a.eval).toArray w fun e w'=>∃v ok' H',e=.returned v∧Dz ok w ok' w'∧Names H H'∧CS C ok' H' (KU srcs es E') w'∧R ok' w' H' (res.up srcs es.length) v:=by
 unfold Qs at hb;simp only[CV,Fb,E5]at hb;obtain⟨⟨⟨⟨⟨⟨hb1,hb2⟩,hb3⟩,hb4⟩,hb5⟩,hb6⟩,hb7⟩:=hb;have hidx:=aRy hb5
 let Hc:=srcs.map (DJ.hd H)
 let X:=srcs.filterMap fun s=>match s with | .ent k=>Cb (H.getD k ⟨undef,0⟩).v| .nil _=>none
 have hX:∀b,b∈X↔∃k,.ent k∈srcs∧Cb (H.getD k ⟨undef,0⟩).v=some b:=fun b=>agQ
 have O:∀(i k:Nat),srcs[i]? =some (.ent k)→k<es.length∧(es.getD k .dead).live=true:=by
  intro i k hi;have :=hb7 _ (VJ hi);simpa using this
 have hlt:∀(i k:Nat),srcs[i]? =some (.ent k)→k<H.length:=fun i k hi=>by rw[Y.hlen];exact(O i k hi).1
 have hHk:∀(k:Nat),k<H.length→H[k]? =some (H.getD k ⟨undef,0⟩):=fun k hk=>by simp[List.getD,hk]
 have al0:∀(k:Nat),k<es.length→es[k]? =some (es.getD k .dead):=fun k hk=>by simp[List.getD,hk]
 have J:∀b,b∈X→∃(i k:Nat),srcs[i]? =some (.ent k)∧Cb (H.getD k ⟨undef,0⟩).v=some b∧¬ok b∧b<w.heap.size∧(C.w0.heap.size≤b∨b∈C.X):=by
  intro b hb;obtain⟨k,hk,hbk⟩:=(hX b).1 hb;obtain⟨i,hi,L⟩:=Hf hk;have hi':srcs[i]? =some (.ent k):=by simp[hi,L]
  have :=Y.blk k _ _ b (al0 k (O i k hi').1) (O i k hi').2 (hHk k (hlt i k hi')) hbk;exact⟨i,k,hi',hbk,this⟩
 have hmc:CS ⟨w,ok,X,Hc⟩ ok Hc E w:=by
  refine⟨.refl _ _,fun _ h=>h,fun _ h=>.inl h,Y.jM,.refl _,by simp[Hc,hb1],?_,?_,?_⟩
  ·intro i e h L z;have hi:i<srcs.length:=aGZ
   have hcl:e.akn srcs=true:=hb3 e (VJ L);have aCS:∀(j:Nat) (s:DJ),srcs[j]? =some s→Hc[j]? =some (DJ.hd H s):=fun j s hs=>by simp[Hc,hs]
   have hs:srcs[i]? =some srcs[i]:=Pq
   have hd:=hE i _ hs;simp only[Hc,Ia,hs,Ho,KJ]at z;cases hsi:srcs[i]with
   |ent k=>
    rw[hsi]at hd z hs;simp only[DJ.hd]at z;subst z;simp only at hd;rw[L,Ho]at hd;exact EY.down aCS hcl (Y.ent k _ _ hd.symm (hHk k (hlt i k hs)))
   |nil sz=>
    rw[hsi]at hd z;simp only[DJ.hd]at z;subst z;obtain⟨e',he'⟩:=hd;rw[L]at he';obtain rfl:=CG he';exact⟨rfl,Am,[],⟨Am,.inl ⟨rfl,rfl⟩⟩,SB,fun i hi=>aA4⟩
  ·intro i e h b L I z q;have hi:i<srcs.length:=aGZ
   have hs:srcs[i]? =some srcs[i]:=Pq
   simp only[Hc,Ia,hs,Ho,KJ]at z;cases hsi:srcs[i]with
   |ent k=>
    rw[hsi]at z hs;simp only[DJ.hd]at z;subst z;have hbX:b∈X:=(hX b).2 ⟨k,VJ hs,q⟩;obtain⟨_,_,_,_,M,U,_⟩:=J b hbX;exact⟨M,U,.inr hbX⟩
   |nil sz=>
    rw[hsi]at z;simp only[DJ.hd]at z;subst z;simp[Cb]at q
  intro i j e e' h h' b L he' I Z z hh' q ai8;have hi:i<srcs.length:=aGZ
  have hj:j<srcs.length:=by rw[hb1];exact(FB.1 he').1
  have hs:srcs[i]? =some srcs[i]:=Pq
  have hs':srcs[j]? =some srcs[j]:=by simp[hj]
  simp only[Hc,Ia,hs,Ho,KJ]at z;simp only[Hc,Ia,hs',Ho,KJ]at hh';cases hsi:srcs[i]with
  |nil sz=>rw[hsi]at z;simp only[DJ.hd]at z;subst z;simp[Cb]at q
  |ent k=>
   cases hsj:srcs[j]with
   |nil sz=>rw[hsj]at hh';simp only[DJ.hd]at hh';subst hh';simp[Cb]at ai8
   |ent k'=>
    rw[hsi]at z hs;rw[hsj]at hh' hs';simp only[DJ.hd]at z hh';subst z;subst hh';have hkk:=Y.Dp k k' _ _ _ _ b (al0 k (O i k hs).1) (al0 k' (O j k' hs').1) (O i k hs).2 (O j k' hs').2 (hHk k (hlt i k hs)) (hHk k' (hlt j k' hs')) q ai8;subst hkk;exact hidx i j k hs hs'
 have hargs:∀i,i<fV.length→R ok w Hc (fV.getD i .junk) ((ops.map a.eval).toArray.getD i undef):=by
  intro i hi;obtain⟨op,x,ho,hmem,harg⟩:=aqs hl ha i hi;have hR:=hn _ hmem
  have e:(ops.map a.eval).toArray.getD i undef=a.eval op:=by
   obtain⟨M,U⟩:=FB.1 ho;simp[Array.getD,M,U]
  rw[e];simp only at hR;generalize fV.getD i .junk=y at harg ⊢;generalize a.eval op=u at hR ⊢;have hHc:∀(j:Nat) (s:DJ),srcs[j]? =some s→Hc[j]? =some (DJ.hd H s):=fun j s hs=>by simp[Hc,hs]
  cases x with
  |d x=>
   rcases harg with rfl|⟨j,s,rfl,rfl,hs⟩|⟨rfl,rfl⟩
   ·cases hR with |d _ _ h=>exact .d _ _ h
   ·have :=hR.lit;rw[this];exact .aY j none 0 0 s (hHc j _ hs)
   have :=hR.lit;rw[this];exact .d _ _ (.sl0 none 0)
  |aY k=>
   obtain⟨j,rfl,hs⟩:=harg;cases hR with
   |aY _ ad n cap s hH=>
    refine .aY j ad n cap s ?_;rw[hHc j _ hs];simp[DJ.hd,List.getD,hH]
  |ptr k off=>
   obtain⟨j,rfl,hs⟩:=harg;cases hR with
   |ptr _ _ b s hH=>
    refine .ptr j off b s ?_;rw[hHc j _ hs];simp[DJ.hd,List.getD,hH]
  |mp k=>
   obtain⟨j,rfl,hs⟩:=harg;cases hR with
   |mp _ _ s hl hH=>
    refine .mp j _ s hl ?_;rw[hHc j _ hs];simp[DJ.hd,List.getD,hH]
  |fn f fi ca=>
   obtain⟨fi',ca',rfl,M,U⟩:=harg
   have one:∀(x y:AV) (v:Value),aHv srcs x y→R ok w H x v→R ok w Hc y v:=by
    intro x y v hxy hx;cases x with
    |d x=>obtain rfl:=hxy;cases hx with |d _ _ h=>exact .d _ _ h
    |mp k=>
     obtain⟨j,rfl,hs⟩:=hxy;cases hx with
     |mp _ _ s hl hH=>
      refine .mp j _ s hl ?_;rw[hHc j _ hs];simp[DJ.hd,List.getD,hH]
    |ptr k off=>
     obtain⟨j,rfl,hs⟩:=hxy;cases hx with
     |ptr _ _ b s hH=>
      refine .ptr j off b s ?_;rw[hHc j _ hs];simp[DJ.hd,List.getD,hH]
    |_=>exact hxy.elim
   cases hR with
   |fn _ _ _ vs us hl1 hl2 h3 h4=>
    refine .fn f fi' ca' vs us (by rw[hl1,s0 M]) (by rw[hl2,s0 U]) (fun i hi=>?_) (fun i hi=>?_)
    ·exact one _ _ _ (aHE M i hi) (h3 i (by rw[s0 M];exact hi))
    exact one _ _ _ (aHE U i hi) (h4 i (by rw[s0 U];exact hi))
  |_=>exact harg.elim
 refine(hr ok X Hc w _ hmc (by simp[hl,aPT ha]) hargs).mono ?_;rintro e w' ⟨v,ok',H',rfl,m,hR⟩;have hgr:Dz ok w ok' w':=fun b hb=>⟨m.xu b hb,m.fr.block b (Y.jM b hb) (fun hbX=>by obtain⟨_,_,_,_,M,_⟩:=J b hbX;exact M hb)⟩
 have aDz:srcs.length≤H'.length:=by rw[m.hlen];exact hb2
 refine⟨v,ok',H++H'.drop srcs.length,rfl,hgr,Names.push _ _,?_,by have :=aOJ rfl hlt m.names hR;rwa [Y.hlen]at this⟩
 let idx:Nat→Option Nat:=fun j=>srcs.findIdx? (fun s=>match s with | .ent k=>k==j| .nil _=>false)
 have aBP:∀(j i:Nat),idx j=some i→srcs[i]? =some (.ent j):=by
  intro j i h;simp only[idx,aPA]at h;obtain⟨M,U,_⟩:=h;have :srcs[i]? =some srcs[i]:=by simp[M]
  cases hs:srcs[i]with
  |ent k=>rw[hs]at U this;simp at U;rw[this,U]
  |nil _=>rw[hs]at U;simp at U
 have aBQ:∀(j:Nat),idx j=none→∀(i:Nat),srcs[i]? ≠some (.ent j):=by
  intro j h i hi;simp only[idx,List.findIdx?_eq_none_iff]at h;have :=h _ (VJ hi);simp at this
 have hlow:∀(j:Nat),j<es.length→(KU srcs es E')[j]? =some (match idx j with |some i=>(E'.getD i .dead).up srcs es.length|none=>es.getD j .dead):=by
  intro j hj;unfold KU;rw[Fv (by simpa using hj)];simp only[Ia,List.getElem?_zipIdx,al0 j hj,Ho,Ic];rfl
 have aAF:(KU srcs es E').length=es.length+(E'.length-srcs.length):=by simp[KU]
 have hhigh:∀(j:Nat),es.length≤j→(KU srcs es E')[j]? =(E'[srcs.length+(j-es.length)]?).map (Aq.up srcs es.length):=by
  intro j hj;unfold KU;rw[J3 (by simpa using hj),Ia,Og];simp
 have aBR:∀(j:Nat),j<es.length→(H++H'.drop srcs.length)[j]? =H[j]? :=fun j hj=>Fv (by rw[Y.hlen];exact hj)
 have aAG:∀(j:Nat),es.length≤j→(H++H'.drop srcs.length)[j]? =H'[srcs.length+(j-es.length)]? :=by
  intro j hj;rw[J3 (by rw[Y.hlen];exact hj),Og,Y.hlen]
 have hcls:∀(j:Nat) (e:Aq) (h:BJ),(KU srcs es E')[j]? =some e→e.live=true∨True→(H++H'.drop srcs.length)[j]? =some h→
  (∃(i:Nat) (e0:Aq),e=e0.up srcs es.length∧E'[i]? =some e0∧H'[i]? =some h∧((j<es.length∧srcs[i]? =some (.ent j))∨(es.length≤j∧i=srcs.length+(j-es.length))))∨(j<es.length∧es[j]? =some e∧H[j]? =some h∧∀(i:Nat),srcs[i]? ≠some (.ent j)):=by
  intro j e h L _ z;by_cases hj:j<es.length
  ·rw[hlow j hj]at L;rw[aBR j hj]at z;cases hi:idx j with
   |none=>
    rw[hi]at L;simp only[KJ]at L;exact .inr ⟨hj,by rw[al0 j hj,L],z,aBQ j hi⟩
   |some i=>
    rw[hi]at L;simp only[KJ]at L;have hs:=aBP j i hi;have hil:i<srcs.length:=(FB.1 hs).1;have hiE:i<E'.length:=A8
    refine .inl ⟨i,_,L.symm,by simp[List.getD,hiE],?_,.inl ⟨hj,hs⟩⟩;refine m.names i h ?_;simp only[Hc,Ia,hs,Ho,DJ.hd];simp[List.getD,z]
  rw[hhigh j A8]at L;rw[aAG j A8]at z;rw[TT]at L;obtain⟨e0,L,rfl⟩:=L;exact .inl ⟨_,_,rfl,L,z,.inr ⟨A8,rfl⟩⟩
 have hold:∀(j:Nat) (e:Aq) (h:BJ) (b:Nat),es[j]? =some e→H[j]? =some h→(∀(i:Nat),srcs[i]? ≠some (.ent j))→e.live=true→Cb h.v=some b→b<w.heap.size∧b∉X∧¬ok b∧(C.w0.heap.size≤b∨b∈C.X):=by
  intro j e h b L z hno I q;have M:=Y.blk j e h b L I z q;refine⟨M.2.1,fun hbX=>?_,M.1,M.2.2⟩;obtain⟨i,k,hs,hbk,_⟩:=J b hbX;have :=Y.Dp j k e _ h _ b L (al0 k (O i k hs).1) I (O i k hs).2 z (hHk k (hlt i k hs)) q hbk;subst this;exact hno i hs
 have al1:∀(i:Nat) (e:Aq) (h:BJ) (b:Nat),E'[i]? =some e→H'[i]? =some h→e.live=true→Cb h.v=some b→¬ok' b∧b<w'.heap.size∧(w.heap.size≤b∨b∈X):=fun i e h b L z I q=>m.blk i e h b L I z q;refine⟨⟨m.fr.os.trans Y.fr.os,m.fr.tape.trans Y.fr.tape,m.fr.output.trans Y.fr.output,EZ Y.fr.size m.fr.size,fun k hk hx=>?_⟩,fun b hb=>m.xu b (Y.xu b hb),?_,m.jM,Y.names.trans (Names.push _ _),?_,?_,?_,?_⟩
 ·have hkw:k<w.heap.size:=Vh hk Y.fr.size
  rw[m.fr.block k hkw (fun hkX=>by
   obtain⟨_,_,_,_,_,_,h⟩:=J k hkX;rcases h with h|h
   ·omega
   exact hx h)]
  exact Y.fr.block k hk hx
 ·intro b hb;rcases m.xw b hb with h|h|h
  ·exact Y.xw b h
  ·exact .inr (.inl (EZ Y.fr.size h))
  obtain⟨_,_,_,_,_,_,h⟩:=J b h;exact .inr h
 ·rw[aAF,Dk,KA,Y.hlen,m.hlen]
 ·intro j e h L z;rcases hcls j e h L (.inr trivial) z with⟨i,e0,rfl,M,U,_⟩|⟨_,M,U,h3⟩
  ·exact EY.upw rfl hlt m.names Y.hlen (hb4 e0 (VJ M)) (m.ent i e0 h M U)
  refine(Y.ent j e h M U).mono hgr (Names.push _ _) (fun I b q=>?_);have h4:=hold j e h b M U h3 I q;exact m.fr.block b h4.1 h4.2.1
 ·intro j e h b L I z q;rcases hcls j e h L (.inr trivial) z with⟨i,e0,rfl,M,U,_⟩|⟨_,M,U,h3⟩
  ·have h4:=al1 i e0 h b M U aHj q;refine⟨h4.1,h4.2.1,?_⟩;rcases h4.2.2 with h5|h5
   ·exact .inl (EZ Y.fr.size h5)
   obtain⟨_,_,_,_,_,_,h⟩:=J b h5;exact h
  have h4:=hold j e h b M U h3 I q;refine⟨fun hok'=>?_,Vh h4.1 m.fr.size,h4.2.2.2⟩;rcases m.xw b hok' with h5|h5|h5
  ·exact h4.2.2.1 h5
  ·have :w.heap.size≤b:=h5;omega
  exact h4.2.1 h5
 intro j j' e e' h h' b L he' I Z z hh' q ai8;rcases hcls j e h L (.inr trivial) z with⟨i,e0,rfl,M,U,h3⟩|⟨_,M,U,h3⟩
 ·rcases hcls j' e' h' he' (.inr trivial) hh' with⟨i',e0',rfl,h1',h2',h3'⟩|⟨_,h1',h2',h3'⟩
  ·have hii:=m.Dp i i' e0 e0' h h' b M h1' aHj (by rw[Aq.abP]at Z;exact Z) U h2' q ai8;subst hii;rcases h3 with⟨_,h4⟩|⟨h4,h5⟩
   ·rcases h3' with⟨_,h4'⟩|⟨h4',h5'⟩
    ·rw[h4]at h4';simpa using h4'
    have :=(FB.1 h4).1;omega
   rcases h3' with⟨_,h4'⟩|⟨h4',h5'⟩
   ·have :=(FB.1 h4').1;omega
   omega
  have h4:=hold j' e' h' b h1' h2' h3' Z ai8;rcases(al1 i e0 h b M U aHj q).2.2 with h5|h5
  ·omega
  exact absurd h5 h4.2.1
 rcases hcls j' e' h' he' (.inr trivial) hh' with⟨i',e0',rfl,h1',h2',h3'⟩|⟨_,h1',h2',h3'⟩
 ·have h4:=hold j e h b M U h3 I q;rcases(al1 i' e0' h' b h1' h2' (by rw[Aq.abP]at Z;exact Z) ai8).2.2 with h5|h5
  ·omega
  exact absurd h5 h4.2.1
 exact Y.Dp j j' e e' h h' b M h1' I Z U h2' q ai8
def abm {f:FuncId} {ops:Array Operand} {ats:Array TypeId} (srcs:List DJ) {dX fV:List AV} {E E':List Aq} {j:AV} (m:Ap P f fV E j E') (q:DV P f=true) (u:Qs srcs es E E'=true) (hE:rQ srcs es E) (ha:Kz srcs dX fV) (hl:ops.toList.length=dX.length)
 (z:o.op=.call { callee:=.value (.func f),args:=ops,argTypes:=ats }):BN P o (Em ops.toList dX) es (j.up srcs es.length) (KU srcs es E'):=by
 intro C ok H a w Q I J;unfold Oper.wp;rw[mV z,RI q,ZE];have e:ops.map a.eval=(ops.toList.map a.eval).toArray:=yx
 rw[e];refine(aP6 I srcs m u hE ha hl J).mono ?_;rintro e w' ⟨v,ok',H',rfl,L,M,O,U⟩;exact⟨v,ok',H',rfl,L,M,O,U⟩
end
def Ac (n:Int):D:=.lit (.int .i64 n)
def Ea (n:Int):D:=.lit (.int .u8 n)
def DX (b:Bool):D:=.lit (.bool b)
def DU (s:ByteArray):D:=.lit (.string s)
def BG {α:Type} (e:α→D) (l:List α):D:=.sl (l.map e)
def Aw (x:D):List AV:=x.cells.map .d
def Af {α:Type} (l:List α) (i:Int):Option α:=if 0≤i then l[i.toNat]? else none
def Bq {α:Type} (j:Nat) (l m:List α):Option (List α):=if(l.length+m.length)*j≤140737488355328 then some (l++m)else none
def GL (s:ByteArray) (i:Int):Option Int:=if 0≤i then(s[i.toNat]?).map fun c=>(c.toNat:Int)else none
def Gh {α:Type} (l:List α) (lo hi:Int):Option (List α):=if 0≤lo∧lo≤hi∧hi≤l.length then some ((l.drop lo.toNat).take (hi.toNat-lo.toNat))else none
def MI (s:ByteArray) (lo hi:Int):Option ByteArray:=if 0≤lo∧lo≤hi∧hi≤s.size then some (s.extract lo.toNat hi.toNat)else none
def IK {α:Type} (j:Nat) (z:α) (n c:Int):Option (List α):=if 0≤n∧n≤c∧(j:Int)*c≤140737488355328 then some (List.replicate n.toNat z)else none
def JY {α:Type} {l:List α} {i:Int} {x:α} (h:Af l i=some x):0≤i∧l[i.toNat]? =some x:=by
 unfold Af at h;split at h
 ·exact⟨‹_›,h⟩
 cases h
def at1 {α β:Type} {l:List α} {i:Nat} {x:α} (f:α→β) (h:l[i]? =some x):(l.map f)[i]? =some (f x):=by simp[h]
def jo {α:Type} {b:Bool} {x y z:α} (j:b=true) (h:(bif b then x else y)=z):x=z:=by subst j;exact h
def kW {α:Type} {b:Bool} {x y z:α} (j:b=false) (h:(bif b then x else y)=z):y=z:=by subst j;exact h
def DI {α β:Type} {x:Option α} {f:α→Option β} {z:β} (h:x.bind f=some z):∃a,x=some a∧f a=some z:=eP.1 h
def Ag :Nat:=9223372036854775808
section
variable {P : Program} {o : Oper} {es : List Aq} {α : Type}
def BR {x:Operand} {t e:TypeId} (enc:α→D) (l:List α) (j:P.underlying t=some (.slice e)) (m:o.op=.call { callee:=.builtin .len,args:= #[x],argTypes:= #[t] }):
 BN P o [(x,.d (BG enc l))] es (.d (Ac l.length)) es:=by
 have :=ash (es:=es) (xs:=l.map enc) j m;rw[C9]at this;exact this
def QH {x:Operand} {t e e':TypeId} {k s:Nat} (enc:α→D) (l:List α) (j:es[k]? =some (.arr e' s (l.map enc))) (m:P.underlying t=some (.slice e)) (q:o.op=.call { callee:=.builtin .len,args:= #[x],argTypes:= #[t] }):
 BN P o [(x,.aY k)] es (.d (Ac l.length)) es:=by
 have :=agp j m q;rw[C9]at this;exact this
def aq7 {x:Operand} {t:TypeId} (s:ByteArray) (j:P.underlying t=some .string) (m:o.op=.call { callee:=.builtin .len,args:= #[x],argTypes:= #[t] }):
 BN P o [(x,.d (DU s))] es (.d (Ac s.size)) es:=aoX j m
def ajO {x y:Operand} {t e:TypeId} {k:IntKind} {i:Int} {agg:Bool} {size:Nat} (enc:α→D) {l:List α} {a:α} (h:Af l i=some a) (j:P.underlying t=some (.slice e)) (m:Dl P e agg size) (hs:(enc a).cells.length=size) (q:o.op=.indexAddr t x y):
 BN P o [(x,.d (BG enc l)),(y,.d (.lit (.int k i)))] es (.d (.ref (enc a).cells 0)) es:=
 anK j m (JY h).1 (at1 enc (JY h).2) hs q
def OQ {x y:Operand} {t e e':TypeId} {kd:IntKind} {i:Int} {k size:Nat} {agg:Bool} (enc:α→D) {l:List α} {a:α} (h:Af l i=some a) (j:es[k]? =some (.arr e' size (l.map enc))) (m:P.underlying t=some (.slice e)) (q:Dl P e agg size) (u:o.op=.indexAddr t x y):
 BN P o [(x,.aY k),(y,.d (.lit (.int kd i)))] es (.kT k i.toNat 0) es:=
 aoW j m q (JY h).1 (by have :=(FB.1 (JY h).2).1;simpa using this) u
def arz {s:ByteArray} {i n:Int} (h:GL s i=some n):∃c,0≤i∧s[i.toNat]? =some c∧n=c.toNat:=by
 unfold GL at h;split at h
 ·rename_i j;rw[TT]at h;obtain⟨c,m,q⟩:=h;exact⟨c,j,m,q.symm⟩
 cases h
def Uu {x y:Operand} {t:TypeId} {k:IntKind} {i n:Int} {s:ByteArray} (h:GL s i=some n) (j:P.underlying t=some .string) (m:o.op=.index t x y):
 BN P o [(x,.d (DU s)),(y,.d (.lit (.int k i)))] es (.d (Ea n)) es:=by
 obtain⟨c,q,u,rfl⟩:=arz h;exact agP j q u m
def aAV {b:Nat} {l m r:List α} (h:Bq b l m=some r):r=l++m∧(l.length+m.length)*b≤140737488355328:=by
 unfold Bq at h;split at h
 ·exact⟨(CG h).symm, ‹_›⟩
 cases h
def aKz {n b:Nat} (j:0<b) (h:n*b≤140737488355328):n≤maxLen:=by
 have :n*1≤n*b:=Nat.mul_le_mul_left _ j;unfold maxLen;omega
def En {s x:Operand} {t e:TypeId} {size j k:Nat} (enc:α→D) {l m r:List α} (h:Bq j l m=some r) (hE:Fh P t e size j) (u:es[k]? =some (.arr e size (l.map enc))) (z:∀a,(enc a).cells.length=size) (I:0<j)
 (J:o.op=.call { callee:=.builtin .append,args:= #[s,x],argTypes:= #[t,t] }):
 BN P o [(s,.aY k),(x,.d (BG enc m))] es (.aY es.length) (es.set k .dead++[.arr e size (r.map enc)]):=by
 obtain⟨rfl,q⟩:=aAV h;have :=alm (ys:=m.map enc) hE u (fun y L=>by obtain⟨a,_,rfl⟩:=FH.1 L;exact z a) MV (by simpa using aKz I q) J;rw[←Ip]at this;exact this
def ags {s r:ByteArray} {lo hi:Int} (h:MI s lo hi=some r):(0≤lo∧lo≤hi∧hi≤s.size)∧r=s.extract lo.toNat hi.toNat:=by
 unfold MI at h;split at h
 ·exact⟨‹_›,(CG h).symm⟩
 cases h
def vF (x:Option Operand) (n:Int):List (Operand×AV):=match x with |some y=>[(y,.d (Ac n))]|none=>[]
def aJk {t:TypeId} {x:Operand} {lo hi:Option Operand} {l h:Int} {s r:ByteArray} (hr:MI s l h=some r) (hl:lo=none→l=0) (Y:hi=none→h=s.size) (ht:P.underlying t=some .string) (I:o.op=.slice t x lo hi none):
 BN P o ((x,.d (DU s))::(vF lo l++vF hi h)) es (.d (DU r)) es:=
 .pure fun ok H a w _ _ L=>by
  obtain⟨⟨M,h1,h2⟩,rfl⟩:=ags hr;have m:=(L (x,.d (DU s)) Am).lit;simp only at m;have J:(underlying t).run P w=.ok .string w:=aEE
  refine⟨.string (s.extract l.toNat h.toNat),?_,.d _ _ (.lit _)⟩;have q:∀y,lo=some y→a.eval y=.int .i64 l:=fun y e=>(L (y,.d (Ac l)) aCG).lit;have u:∀y,hi=some y→a.eval y=.int .i64 h:=fun y e=>(L (y,.d (Ac h)) aCG).lit;have Z:((0:Int)≤h∧h≤(s.size:Int)):=⟨A8,h2⟩
  have e2:((0:Int)≤l∧l≤(h.toNat:Int)):=⟨M,A8⟩
  cases lo with
  |none=>
   have O:=hl rfl;subst O;cases hi with
   |none=>
    have j:=Y rfl;subst j;simp[execOp,I,m,Instr.sliceAt,Instr.slice,J,Instr.sliceBounds]
   |some y=>
    simp[execOp,I,m,Instr.sliceAt,Instr.slice,J,Instr.sliceBounds,Instr.sliceBound,u y rfl,asIntOf,Z]
  |some z=>
   cases hi with
   |none=>
    have j:=Y rfl;subst j;have U:((0:Int)≤l∧l≤(s.size:Int)):=⟨M,A8⟩
    simp[execOp,I,m,Instr.sliceAt,Instr.slice,J,Instr.sliceBounds,Instr.sliceBound,q z rfl,asIntOf,U]
   |some y=>
    simp[execOp,I,m,Instr.sliceAt,Instr.slice,J,Instr.sliceBounds,Instr.sliceBound,q z rfl,u y rfl,asIntOf,Z];intro hc;have :=hc M;omega
def aaC {l r:List α} {lo hi:Int} (h:Gh l lo hi=some r):(0≤lo∧lo≤hi∧hi≤l.length)∧r=(l.drop lo.toNat).take (hi.toNat-lo.toNat):=by
 unfold Gh at h;split at h
 ·exact⟨‹_›,(CG h).symm⟩
 cases h
def aRM {ok:Nat→Prop} {w:World} {xs:List D} {ad:Option Addr} {cap size l h:Nat} (U:DF ok w (.sl xs) (.slice ad xs.length cap)) (hs:∀x∈xs,x.cells.length=size) (Y:l≤h) (Z:h≤xs.length):
 DF ok w (.sl ((xs.drop l).take (h-l))) (.slice (if cap=l then ad else ad.map (·.add (l*size))) (h-l) (cap-l)):=by
 have hlen:((xs.drop l).take (h-l)).length=h-l:=DK
 by_cases hz:h-l=0
 ·have :(xs.drop l).take (h-l)=[]:=by rw[hz];rfl
  rw[this,hz];exact .sl0 _ _
 have u:0<xs.length:=A8
 generalize hn:xs.length=n at U;cases U with
 |sl0=>simp at u
 |sl _ b off _ m hcap J z hf hx hc=>
  have L:m=size:=by
   rw[←z 0 u];exact hs _ (by simp[List.getD,u])
  subst L;have M:cap≠l:=A8
  rw[CU M];simp only[Ho,addr_add]
  have O:∀i,i<h-l→((xs.drop l).take (h-l)).getD i D8=xs.getD (l+i) D8:=by
   intro i hi;simp[List.getD,Ln hi,Og]
  have q:∀i j,off+l*m+(i*m+j)=off+((l+i)*m+j):=by
   intro i j;rw[Vu];omega
  have :=DF.sl ((xs.drop l).take (h-l)) b (off+l*m) (cap-l) m (ok:=ok) (w:=w) (by rw[hlen];omega) (fun Y Z=>J (by rw[hlen]at Y;omega) Z) (fun i hi=>by rw[hlen]at hi;rw[O i hi];exact z _ A8)
   (fun i hi j I=>by rw[hlen]at hi;rw[O i hi];exact hf _ A8 j I) (fun i hi j I=>by rw[hlen]at hi;rw[q];exact hx _ A8 j I)
   (fun i hi j I=>by rw[hlen]at hi;rw[O i hi,q];exact hc _ A8 j I)
  rw[hlen]at this;exact this
def wK {t e:TypeId} {agg:Bool} {size:Nat} {x:Operand} {lo hi:Option Operand} {l h:Int} (enc:α→D) {xs r:List α} (hr:Gh xs l h=some r) (hl:lo=none→l=0) (hh:hi=none→h=xs.length) (ht:P.underlying t=some (.slice e)) (M:Dl P e agg size)
 (hc:∀a,(enc a).cells.length=size) (O:o.op=.slice t x lo hi none):BN P o ((x,.d (BG enc xs))::(vF lo l++vF hi h)) es (.d (BG enc r)) es:=
 .pure fun ok H a w _ _ Z=>by
  obtain⟨⟨h0,h1,h2⟩,rfl⟩:=aaC hr;have hx:=Z (x,.d (BG enc xs)) Am;simp only at hx;generalize U:a.eval x=v at hx;have Y:(underlying t).run P w=.ok (.slice e) w:=aEE
  have J:∀y,lo=some y→a.eval y=.int .i64 l:=fun y e=>(Z (y,.d (Ac l)) aCG).lit;have L:∀y,hi=some y→a.eval y=.int .i64 h:=fun y e=>(Z (y,.d (Ac h)) aCG).lit;have q:DF ok w (.sl (xs.map enc)) v:=by cases hx with |d _ _ h=>exact h
  have u:∃ad cap,v=.slice ad (xs.map enc).length cap∧(xs.map enc).length≤cap:=by
   generalize hys:xs.map enc=ys at q;cases q with
   |sl0 ad cap=>exact⟨ad,cap,rfl,EK _⟩
   |sl _ b off cap size j=>exact⟨_,cap,rfl,j⟩
  obtain⟨ad,cap,rfl,j⟩:=u;have m:=aRM (l:=l.toNat) (h:=h.toNat) q (size:=size) (fun y hy=>aKZ) A8 DK;rw[←Yv,←XY]at m;rw[C9]at j;refine⟨_,?_,.d _ _ m⟩;have e1:((0:Int)≤h∧h≤(cap:Int)):=⟨A8,A8⟩
  cases lo with
  |none=>
   have hl0:=hl rfl;subst hl0;cases hi with
   |none=>
    have I:=hh rfl;subst I;simp[execOp,O,U,Instr.sliceAt,Instr.slice,Y,Instr.sliceBounds,M.size]
   |some y=>
    simp[execOp,O,U,Instr.sliceAt,Instr.slice,Y,Instr.sliceBounds,Instr.sliceBound,L y rfl,asIntOf,e1,M.size]
  |some z=>
   cases hi with
   |none=>
    have I:=hh rfl;subst I;have e2':((0:Int)≤l∧l≤(xs.length:Int)):=⟨h0,A8⟩
    simp[execOp,O,U,Instr.sliceAt,Instr.slice,Y,Instr.sliceBounds,Instr.sliceBound,J z rfl,asIntOf,e2',M.size]
   |some y=>
    simp[execOp,O,U,Instr.sliceAt,Instr.slice,Y,Instr.sliceBounds,Instr.sliceBound,J z rfl,L y rfl,asIntOf,e1,M.size];intro hc';have :=hc' h0;omega
def bI (P:Program) (t:TypeId) (f off:Nat) (agg:Bool) (n:Nat):Bool:=
 match P.underlying t with
 |some (.struct m)=>match m[f]? with
  |some j=>decide (j.offset=off)&&aIz P j.type agg n
  |none=>false
 |_=>false
def alp {x:Operand} {t:TypeId} {f off n:Nat} {agg:Bool} {cs:List D} (m:bI P t f off agg n=true) (hn:off+n≤cs.length) (Z:agg=false→n=1) (M:o.op=.field t x f):BN P o [(x,.d (.agg cs))] es (.d (Oy agg cs off n)) es:=
 .pure fun ok H a w _ _ I=>by
  have J:=Jk I;simp only at J;generalize O:a.eval x=v at J;unfold bI at m;split at m
  ·rename_i fs hu;split at m
   ·rename_i j U;simp only[CV,Fb]at m;obtain⟨rfl,q⟩:=m;have q:=FM q;have u:(underlying t).run P w=.ok (.struct fs) w:=aAU
    cases J with
    |d _ _ h=>
     cases h with
     |agg _ vs hl L Y=>
      cases agg with
      |false=>
       have :=Z rfl;subst this;have z:j.offset<vs.size:=A8
       refine⟨vs[j.offset],?_,?_⟩
       ·simp[execOp,M,O,Instr.field,u,U,asAgg,part,q.agg,z]
       have :=Y j.offset A8;simp[Array.getD,z]at this;exact .d _ _ this
      |true=>
       refine⟨.agg (vs.extract j.offset (j.offset+n)),?_,?_⟩
       ·simp[execOp,M,O,Instr.field,u,U,asAgg,part,q.agg,q.size]
       simp only[Oy,J5];have hlen:((cs.drop j.offset).take n).length=n:=DK
       have hg:∀i,i<n→((cs.drop j.offset).take n).getD i D8=cs.getD (j.offset+i) D8:=by
        intro i hi;simp[List.getD,Ln hi,Og]
       refine .d _ _ (.agg _ _ (by rw[hlen];simp;omega) ?_ ?_)<;>intro i hi<;>rw[hlen]at hi<;>rw[hg i hi]
       ·exact L _ A8
       have :=Y (j.offset+i) A8
       have e:(vs.extract j.offset (j.offset+n)).getD i undef=vs.getD (j.offset+i) undef:=by
        have h3:j.offset+i<vs.size:=A8
        have h4:i<(vs.extract j.offset (j.offset+n)).size:=DK
        have h5:i<min (j.offset+n) vs.size-j.offset:=A8
        simp[Array.getD,h3,h5]
       rw[e];exact this
   cases m
  cases m
def AV.flat:AV→Bool
 | .d (.lit _)=>true
 | .eF xs=>xs.all fun x=>match x with | .d (.lit _)=>true|_=>false
 |_=>false
def aRs (es:List Aq):AV→AV→Prop
 | .d x,y=>y=.d x
 | .aY k,y=>∃e s xs,es[k]? =some (.arr e s xs)∧y=.d (.sl xs)
 |_,_=>False
def Yg (es:List Aq):List AV→List AV→Prop
 |x::xs,y::ys=>aRs es x y∧Yg es xs ys
 | [],[]=>True
 |_,_=>False
def aFp :∀{xs ys:List AV},Yg es xs ys→xs.length=ys.length
 | [],[],_=>rfl
 |_::xs,_::ys,h=>by simp[aFp h.2]
 | [],_::_,h=>h.elim
 |_::_,[],h=>h.elim
def aP5 {ops:List Operand}:∀{xs ys:List AV},ops.length=xs.length→Yg es xs ys→∀i,i<ys.length→∃o x,ops[i]? =some o∧(o,x)∈Em ops xs∧aRs es x (ys.getD i .junk):=by
 induction ops with
 |nil=>
  intro xs ys hl h i hi;cases xs with
  |nil=>cases ys with |nil=>simp at hi|cons _ _=>exact h.elim
  |cons _ _=>simp at hl
 |cons o ops j=>
  intro xs ys hl h i hi;cases xs with
  |nil=>simp at hl
  |cons x xs=>
   cases ys with
   |nil=>exact h.elim
   |cons y ys=>
    cases i with
    |zero=>exact⟨o,x,rfl,by simp[Em],h.1⟩
    |succ i=>
     obtain⟨m,q,u,z,I⟩:=j Ko h.2 i FU;exact⟨m,q,LJ,by simp[Em,z],PK⟩
def gq {ok ok':Nat→Prop} {w:World} {H:List BJ} {h:BJ} {e s:Nat} {xs:List D} (he:EY ok w H h (.arr e s xs)) (u:∀b,ok b→ok' b) (M:∀b,Cb h.v=some b→ok' b):DF ok' w (.sl xs) h.v:=by
 obtain⟨h1,J,ys,⟨h3,h4⟩,h5⟩:=he;rcases h4 with⟨L,h7⟩|⟨g,cap,q,L,h7,h8,h9,h10,O,U⟩
 ·rw[GN h7,L];exact .sl0 none 0
 rw[L];have z:=M g (by rw[L];rfl);have I:=QZ J
 have Y:∀i j,i<xs.length→j<s→i*s+j<xs.length*s:=by
  intro i j hi m
  calc i*s+j<i*s+s:=A8
   _=(i+1)*s:=by rw[U0]
   _≤xs.length*s:=JB _ hi
 have hcur:xs.length*s≤q.size:=by
  exact EZ (JB _ h9) O
 have hc:∀i j,i<xs.length→j<s→w.cell? ⟨g,0+(i*s+j),none⟩=some (ys.getD (i*s+j) undef):=by
  intro i j hi m;have Z:=Y i j hi m;rw[Ic]
  have e1:ys.getD (i*s+j) undef=q[i*s+j]' A8:=by
   rw[←U];simp[List.getD,Ln Z,show i*s+j<q.size by omega]
  rw[e1];simp[World.cell?,h8,show i*s+j<q.size by omega]
 have hg:∀i,i<xs.length→xs.getD i D8∈xs:=fun i hi=>LX
 refine .sl xs g 0 cap s h9 (fun _ _=>z) (fun i hi=>J _ (hg i hi)) (fun i hi j m=>?_) (fun i hi j m=>?_) (fun i hi j m=>?_)
 ·have :=(h5.2 (i*s+j) (by rw[I];exact Y i j hi m)).1;rw[flat_get J i j hi m]at this;exact this
 ·rw[hc i j hi m];rfl
 have :=(h5.2 (i*s+j) (by rw[I];exact Y i j hi m)).2;rw[flat_get J i j hi m]at this;unfold cellAt;rw[hc i j hi m];cases this with |d _ _ h=>exact h.mono (fun b M=>⟨u b M,rfl⟩)
def aeN {f:FuncId} {ops:Array Operand} {ats:Array TypeId} {dX fV:List AV} {z:AV} (hr:Ap P f fV [] z []) (hf:DV P f=true) (q:z.flat=true) (ha:Yg es dX fV) (hl:ops.toList.length=dX.length)
 (ho:o.op=.call { callee:=.value (.func f),args:=ops,argTypes:=ats }):BN P o (Em ops.toList dX) es z es:=by
 intro C ok H a w Q I hn;unfold Oper.wp;rw[mV ho,RI hf,ZE];have e:ops.map a.eval=(ops.toList.map a.eval).toArray:=yx
 rw[e]
 let J:Nat→Prop:=fun b=>b<w.heap.size
 have hmc:CS ⟨w,J,[],[]⟩ J [] [] w:=
  ⟨.refl _ _,fun _ h=>h,fun _ h=>.inl h,fun _ h=>h,.refl _,rfl,fun k e h L _=>by simp at L,fun k e h b L=>by simp at L,fun k k' e e' h h' b L=>by simp at L⟩
 refine(hr J [] [] w _ hmc (by simp[hl,aFp ha]) (fun i hi=>?_)).mono ?_
 ·obtain⟨op,x,ho',U,j⟩:=aP5 hl ha i hi;have O:=hn _ U
  have e:(ops.toList.map a.eval).toArray.getD i undef=a.eval op:=by
   obtain⟨h1,h2⟩:=FB.1 ho';have Y:i<ops.size:=by simpa using h1
   have Z:ops[i]=op:=jq
   simp[Array.getD,Y,Z]
  rw[e];simp only at O;generalize fV.getD i .junk=y at j;generalize a.eval op=u at O;cases x with
  |d x=>
   obtain rfl:=j;cases O with |d _ _ h=>exact .d _ _ (h.mono (fun b M=>⟨I.jM b M,rfl⟩))
  |aY k=>
   obtain⟨e',s,xs,hk,rfl⟩:=j;obtain⟨h,hh,hok⟩:=FV I.ent I.hlen hk;obtain rfl:=OE O hh;exact .d _ _ (gq hok (fun b M=>I.jM b M) (fun b M=>(I.blk k _ h b hk rfl hh M).2.1))
  |_=>exact j.elim
 rintro e w' ⟨v,ok',H',rfl,m,O⟩;have hblk:∀b,b<w.heap.size→¬False→w'.heap[b]? =w.heap[b]? :=fun b M _=>m.fr.block b M Am;obtain⟨h1,h2⟩:=I.change (ok':=ok) (H':=H) (es':=es) (w':=w') (fun _=>False) m.fr.os m.fr.tape m.fr.output m.fr.size hblk (fun _ h=>h.elim) (fun _ h=>h) (fun _ h=>.inl h) (.refl _) I.hlen (fun k e h L hh=>.inl ⟨L,hh,fun _ _ _ h=>h⟩);refine⟨v,ok,H,rfl,h2,.refl _,h1,?_⟩;cases O with
 |d x v h=>
  cases x with
  |lit u=>cases h;exact .d _ _ (.lit _)
  |_=>simp[AV.flat]at q
 |eF xs vs hl' h=>
  refine .eF xs vs hl' (fun i hi=>?_);simp only[AV.flat,E5]at q;have Y:=q (xs.getD i .junk) LX;have Z:=h i hi;generalize xs.getD i .junk=x at Y Z;generalize vs.getD i undef=u at Z;cases Z with
  |d y _ h5=>
   cases y with
   |lit u=>cases h5;exact .d _ _ (.lit _)
   |_=>simp at Y
  |_=>simp at Y
 |_=>simp[AV.flat]at q
end
def AV.thaw (k:Nat) (xs:List D):AV→AV
 | .aY j=>if j=k then .d (.sl xs)else .aY j
 | .kT j i off=>if j=k then .junk else .kT j i off
 |x=>x
def Aj.thaw (σ:Aj) (k:Nat) (xs:List D):Aj:=⟨σ.slots.map (AV.thaw k xs),σ.ents.set k .dead,σ.base⟩
def Qp {σ:Aj} (k:Nat) {e s:Nat} {xs:List D} (hk:σ.ents[k]? =some (.arr e s xs)):∀C ok H a w,Holds C ok H σ a w→∃ok',Holds C ok' H (σ.thaw k xs) a w:=by
 intro C ok H a w q;obtain⟨hd,M,hok⟩:=FV q.mem.ent q.mem.hlen hk;have z:k<σ.ents.length:=(FB.1 hk).1
 let ok':Nat→Prop:=fun b=>ok b∨Cb hd.v=some b
 have L:=fun b m=>q.mem.blk k _ hd b hk rfl M m;have hg:Dz ok w ok' w:=fun b m=>⟨.inl m,rfl⟩
 refine⟨ok',⟨q.mem.fr,fun b m=>.inl (q.mem.xu b m),?_,?_,q.mem.names,by simp[Aj.thaw,q.mem.hlen],?_,?_,?_⟩,by simp[Aj.thaw,q.size],q.defers.mono hg,q.base,?_⟩
 ·rintro b (m|m)
  ·exact q.mem.xw b m
  exact .inr (L b m).2.2
 ·rintro b (m|m)
  ·exact q.mem.jM b m
  exact(L b m).2.1
 ·intro j e' h' he I;rcases LD z he with⟨rfl,rfl⟩|⟨_,J⟩
  ·trivial
  exact(q.mem.ent j e' h' J I).mono hg (.refl _) (fun _ _ _=>rfl)
 ·intro j e' h' b he hl I m;rcases LD z he with⟨rfl,rfl⟩|⟨hne,J⟩
  ·cases hl
  have h3:=q.mem.blk j e' h' b J hl I m;refine⟨fun u=>?_,h3.2⟩;rcases u with u|u
  ·exact h3.1 u
  exact hne (q.mem.Dp j k e' _ h' hd b J hk hl rfl I M m u)
 ·intro i j e1 e2 h1 h2 b he1 he2 U Y hh1 hh2 hb1 hb2;rcases LD z he1 with⟨rfl,rfl⟩|⟨_,Z⟩
  ·cases U
  rcases LD z he2 with⟨rfl,rfl⟩|⟨_,apj⟩
  ·cases Y
  exact q.mem.Dp i j e1 e2 h1 h2 b Z apj U Y hh1 hh2 hb1 hb2
 intro t ht;simp only[Aj.thaw,C9]at ht
 have e1:(σ.thaw k xs).slots.getD t .junk=(σ.slots.getD t .junk).thaw k xs:=by
  simp only[Aj.thaw];exact TS _ _ _ ht
 rw[e1];have O:=(q.slot t ht).mono hg (Names.refl H);generalize σ.slots.getD t .junk=x at O ⊢;generalize a.tmps.getD t undef=v at O ⊢;cases x with
 |aY j=>
  simp only[AV.thaw];split
  ·rename_i hj;subst hj;obtain rfl:=OE O M;exact .d _ _ (gq hok (fun b m=>.inl m) (fun b m=>.inr m))
  exact O
 |kT j i off=>
  simp only[AV.thaw];split
  ·exact .junk _
  exact O
 |_=>exact O
def AP.thaw {P:Program} {c:Code} {σ:Aj} {Q:Exit→Aj→Prop} (k:Nat) {e s:Nat} {xs:List D} (m:σ.ents[k]? =some (.arr e s xs)) (h:AP P c (σ.thaw k xs) Q):AP P c σ Q:=by
 refine⟨fun ro q C ok H a w u=>?_⟩;obtain⟨ok',j⟩:=Qp k m C ok H a w u;exact h.run ro q C ok' H a w j
def Ap.view {P:Program} {f:FuncId} {args:List AV} {e s:Nat} {xs:List D} (h:Ap P f args [] (.aY 0) [.arr e s xs]):Ap P f args [] (.d (.sl xs)) []:=by
 intro ok X H w m J hs ha;refine(h ok X H w m J hs ha).mono ?_;rintro e' w' ⟨v,ok',H',rfl,j,L⟩;have M:H=[]:=GN J.hlen;have hl:H'.length=1:=j.hlen
 match H',hl with
 | [hd],_=>
   obtain rfl:=OE L (h:=hd) rfl;have z:=j.ent 0 _ hd rfl rfl;have u:=fun b u=>j.blk 0 _ hd b rfl rfl rfl u
   let I:Nat→Prop:=fun b=>ok' b∨Cb hd.v=some b
   refine⟨hd.v,I,[],rfl,⟨j.fr,fun b h=>.inl (j.xu b h),?_,?_,by intro k v O;subst M;simp at O,rfl,fun k e h q=>TG,fun k e h b q=>TG,fun k k' e e' h h' b q=>TG⟩,.d _ _ (gq z (fun b h=>.inl h) (fun b h=>.inr h))⟩
   ·rintro b (h|h)
    ·exact j.xw b h
    exact .inr (u b h).2.2
   rintro b (h|h)
   ·exact j.jM b h
   exact(u b h).2.1
def asC (es E':List Aq) (j:E'.all Aq.closed=true):KU [] es E'=es++E':=by
 unfold KU;simp only[List.findIdx?_nil,Kr,jL];rw[af4 j];congr 1;apply Yl;intro i;simp only[Ia,List.getElem?_zipIdx];cases es[i]? <;>rfl
def acM {P:Program} {o:Oper} {es:List Aq} {f:FuncId} {ops:Array Operand} {ats:Array TypeId} {dX fV:List AV} {j res':AV} {E':List Aq} (u:Ap P f fV [] j E') (z:DV P f=true) (m:E'.all Aq.closed=true)
 (ha:Kz [] dX fV) (hl:ops.toList.length=dX.length) (I:j.up [] es.length=res') (J:o.op=.call { callee:=.value (.func f),args:=ops,argTypes:=ats }):BN P o (Em ops.toList dX) es res' (es++E'):=by
 have :=abm (es:=es) [] u z (by
  have q:E'.all (Aq.alZ [] es.length)=true:=by
   rw[E5]at m ⊢;exact fun e L=>ahP (m e L)
  simp[Qs,q]) (fun i s h=>Gv) ha hl J
 rw[asC _ _ m,I]at this;exact this
def aNW {P:Program} {o:Oper} {es:List Aq} {f:FuncId} {ops:Array Operand} {ats:Array TypeId} {dX fV:List AV} {j res':AV} (m:Ap P f fV [] j []) (q:DV P f=true)
 (ha:Kz [] dX fV) (hl:ops.toList.length=dX.length) (u:j.up [] es.length=res') (z:o.op=.call { callee:=.value (.func f),args:=ops,argTypes:=ats }):BN P o (Em ops.toList dX) es res' es:=by
 have :=acM (es:=es) m q rfl ha hl u z;rw[PG]at this;exact this
section
variable {P : Program} {σ : Aj} {Q : Exit → Aj → Prop}
def aMy (P:Program) (σ:Aj):ResultVar→AV→Prop
 | .tmp t,x=>x=σ.slots.getD t .junk
 | .cell t T,x=>∃k cs agg n,σ.slots.getD t .junk=.ptr k 0∧σ.ents[k]? =some (.box cs)∧cs.all AV.yR=true∧Dl P T agg n∧n≤cs.length∧(agg=false→n=1)∧x=.d (Oy agg (IG cs) 0 n)
def Ua {P:Program} {σ:Aj} {t:Tmp} {x:AV} (h:x=σ.slots.getD t .junk):aMy P σ (.tmp t) x:=h
def Xu (P:Program) (σ:Aj):List ResultVar→List AV→Prop
 |r::rs,x::xs=>aMy P σ r x∧Xu P σ rs xs
 | [],[]=>True
 |_,_=>False
def fB :List AV→AV
 | [x]=>x
 |xs=>.eF xs
def aOs (P:Program) (fn:Func) (j:AV) (E':List Aq):Exit→Aj→Prop
 | .ret,σ=>∃xs π,Xu P σ fn.results.toList xs∧TI σ.base σ.ents π=true∧j=(fB xs).back π∧E'=Qy σ.ents π
 | .normal,σ=>∃xs π,Xu P σ fn.results.toList xs∧TI σ.base σ.ents π=true∧j=(fB xs).back π∧E'=Qy σ.ents π
 |_,_=>False
def aEs (tmps:Array Value):ResultVar→Sem Value
 | .tmp t=>pure (tmps.getD t undef)
 | .cell t T=>do loadVar T (←asAddr (tmps.getD t undef))
def ai0 {C:Dw} {ok:Nat→Prop} {H:List BJ} {a:Act} {w:World} (h:Holds C ok H σ a w) {r:ResultVar} {x:AV} (j:aMy P σ r x):
 ∃v,(aEs a.tmps r).run P w=.ok v w∧R ok w H x v:=by
 cases r with
 |tmp t=>
  obtain rfl:=j;exact⟨_,rfl,h.asQ t⟩
 |cell t T=>
  obtain⟨k,cs,agg,n,hs,J,hd,L,hn,M,rfl⟩:=j;have q:=hs▸h.asQ t;obtain⟨O,U,m⟩:=FV h.mem.ent h.mem.hlen J;obtain⟨b,z,Y,Z,hc⟩:=aNO m hd;generalize hu:a.tmps.getD t undef=u at q;cases q with
  |ptr _ _ b' s I=>
   rw[U]at I;obtain rfl:=CG I;simp at z;subst z;show ∃v,((do loadVar T (←asAddr (a.tmps.getD t undef)):Sem Value)).run P w=.ok v w∧_;rw[hu];obtain⟨v,j,hD⟩:=aDM L (off:=0) (by rw[lq];omega) M Y Z hc;refine⟨v,?_,.d _ _ hD⟩;simp only[Instr.loadAt,Instr.sureAddr,Ep,Fa,F5,Ic]at j;simp only[asAddr,Ep,Fa,F5];exact j
def aaA {C:Dw} {ok:Nat→Prop} {H:List BJ} {a:Act} {w:World} (h:Holds C ok H σ a w):∀(rs:List ResultVar) (xs:List AV),Xu P σ rs xs→
 ∃vs:List Value,(rs.mapM (aEs a.tmps)).run P w=.ok vs w∧vs.length=xs.length∧∀i,i<xs.length→R ok w H (xs.getD i .junk) (vs.getD i undef)
 | [],[],_=>⟨[],rfl,rfl,fun i hi=>MO⟩
 | [],_::_,h'=>h'.elim
 |_::_,[],h'=>h'.elim
 |r::rs,x::xs,h'=>by
  obtain⟨v,q,u⟩:=ai0 (P:=P) h h'.1;obtain⟨vs,j,hl,m⟩:=aaA h rs xs h'.2;refine⟨v::vs,?_,Zc,fun i hi=>?_⟩
  ·simp only[List.mapM_cons,Ep,q,j,F5,Fa]
  cases i with
  |zero=>exact u
  |succ i=>simpa using m i FU
def akP {C:Dw} {ok:Nat→Prop} {H:List BJ} {a:Act} {w:World} (h:Holds C ok H σ a w) {fn:Func} {xs:List AV} (z:Xu P σ fn.results.toList xs):
 ∃v,(results fn a.tmps).run P w=.ok v w∧R ok w H (fB xs) v:=by
 obtain⟨vs,q,hl,j⟩:=aaA (P:=P) h _ _ z
 have I:(results fn a.tmps).run P w=.ok (if h:vs.toArray.size=1 then vs.toArray[0]else .tuple vs.toArray) w:=by
  have e:results fn a.tmps=(do let vs ←fn.results.mapM (aEs a.tmps);pure (if h:vs.size=1 then vs[0]else .tuple vs)):=rfl;rw[e,aN5];simp only[Ep,lI,q,F5,Fa]
 refine⟨_,I,?_⟩
 match xs,hl,j with
 | [x],hl,j=>
   have m:vs.toArray.size=1:=Ko
   rw[dif_pos m];have :=j 0 Am
   have e:vs.getD 0 undef=vs.toArray[0]:=by
    have :0<vs.length:=Zc
    simp[List.getD,this]
   rw[e]at this;exact this
 | [],hl,j=>
   have m:¬vs.toArray.size=1:=by simp at hl;simp[hl]
   rw[dif_neg m];exact .eF [] _ Ko (fun i hi=>MO)
 |x::y::xs,hl,j=>
  have m:¬vs.toArray.size=1:=by simp at hl;simp[hl]
  rw[dif_neg m];refine .eF _ _ Ko (fun i hi=>?_);have :=j i hi;have u:i<vs.length:=A8
  have e:vs.toArray.getD i undef=vs.getD i undef:=by simp[Array.getD,List.getD,u]
  rw[e];exact this
def arb {w:World} {D:Nat} {x:Option (List Deferred)} (h:w.heap[D]? =some (.deferred x)) (o:Nat):w.cell? ⟨D,o,none⟩=none:=by
 unfold World.cell?;rw[h]
def Holds.take {C:Dw} {ok:Nat→Prop} {H:List BJ} {σ:Aj} {a:Act} {w:World} (hC:∀b,C.ok0 b→b<C.w0.heap.size) (h:Holds C ok H σ a w) {D:Nat} {Ds:List Nat} (hd:∀d∈Ds,ok d∧C.w0.heap.size≤d∧w.heap[d]? =some (.deferred (some [])))
 (hD:ok D∧C.w0.heap.size≤D∧w.heap[D]? =some (.deferred (some []))) (I:(D::Ds).Nodup):
 ∃ok',Holds C ok' H σ { a with defers:=Ds.map fun D=>{ target:=.collected D,args:= #[] } } (w.putObj D (.deferred none))∧∀d∈Ds,ok' d∧C.w0.heap.size≤d∧(w.putObj D (.deferred none)).heap[d]? =some (.deferred (some [])):=by
 obtain⟨h1,h2,Z⟩:=hD;have m:∀b,b≠D→(w.putObj D (.deferred none)).heap[b]? =w.heap[b]? :=fun b j=>Xc j;have J:∀b o,ok b→(w.cell? ⟨b,o,none⟩).isSome=true→ok b∧b≠D:=fun b o j L=>⟨j,fun e=>by subst e;rw[arb Z]at L;cases L⟩
 have hg:Dz (fun b=>ok b∧b≠D) w (fun b=>ok b∧b≠D) (w.putObj D (.deferred none)):=fun b j=>⟨j,m b j.2⟩
 have U:∀(k:Nat) (e:Aq) (hd:BJ) (b:Nat),σ.ents[k]? =some e→e.live=true→H[k]? =some hd→Cb hd.v=some b→b≠D:=fun k e hd b u hl z j Y=>(h.mem.blk k e hd b u hl z j).1 (Y▸h1)
 have M:∀d∈Ds,(ok d∧d≠D)∧C.w0.heap.size≤d∧(w.putObj D (.deferred none)).heap[d]? =some (.deferred (some [])):=fun d q=>by
  have O:d≠D:=fun e=>(JX.1 I).1 (e▸q);exact⟨⟨(hd d q).1,O⟩,(hd d q).2.1,by rw[m d O];exact(hd d q).2.2⟩
 refine⟨fun b=>ok b∧b≠D,⟨⟨⟨h.mem.fr.os,h.mem.fr.tape,h.mem.fr.output,by simpa[World.putObj]using h.mem.fr.size,fun k hk hX=>by rw[m k A8];exact h.mem.fr.block k hk hX⟩,fun b j=>⟨h.mem.xu b j,fun e=>by have :=hC b j;omega⟩,fun b j=>h.mem.xw b j.1,fun b j=>by simpa[World.putObj]using h.mem.jM b j.1,h.mem.names,h.mem.hlen,?_,?_,?_⟩,h.size,⟨Ds,rfl,(JX.1 I).2,M⟩,h.base,fun t ht=>((h.slot t ht).shrink J).mono hg (.refl _)⟩,M⟩
 ·intro k e hd u z;exact((h.mem.ent k e hd u z).shrink J (fun b ms c j L=>⟨j,fun e=>by subst e;rw[Z]at L;cases L⟩)).mono hg (.refl _) fun hl b j=>m b (U k e hd b u hl z j)
 ·intro k e hd b u hl z j;obtain⟨h4,h5,h6⟩:=h.mem.blk k e hd b u hl z j;exact⟨fun hx=>h4 hx.1,by simpa[World.putObj]using h5,h6⟩
 exact h.mem.Dp
def aLf {fn:Func} {Rr:Ending→World→Prop} {C:Dw} (q:∀b,C.ok0 b→b<C.w0.heap.size) {H:List BJ} {σ:Aj}
 (u:∀ok a w,Holds C ok H σ a w→∃v,(results fn a.tmps).run P w=.ok v w∧Rr (.returned v) w):∀(Ds:List Nat) {ok:Nat→Prop} {a:Act} {w:World},Holds C ok H σ a w→(∀d∈Ds,ok d∧C.w0.heap.size≤d∧w.heap[d]? =some (.deferred (some [])))→Ds.Nodup→
  LeavesInM (IE none) 0 P fn a.tmps Rr (Ds.map fun D=>{ target:=.collected D,args:= #[] }) .returning w
 | [],ok,a,w,h,_,_=>u ok a w h
 |D::Ds,ok,a,w,h,hd,z=>by
  obtain⟨ok',h',j⟩:=h.take q (fun d m=>hd d (Ez _ m)) (hd D (Ec ..)) z;have I:=aLf q u Ds h' j (JX.1 z).2;exact⟨Am,.inl ⟨D,_,rfl,run_takeDeferred (hd D (Ec ..)).2.2,I⟩⟩
def Ap.aK {f:FuncId} {fn:Func} {c:Code} {args:List AV} {E E':List Aq} {q:AV} (hf:P.funcs[f]? =some fn) (hb:fn.body=some c)
 (h:AP P c (.enter args fn.ntmps E) (aOs P fn q E')):Ap P f args E q E':=by
 intro ok X H w j I hs ha;refine(aDR (ro:=none) (n:=0)).1 (aHQ hf hb trivial (TF (h.run none (.inl rfl) ⟨w,ok,X,H⟩ ok H _ w ?_) ?_) rfl)
 ·refine⟨I,?_,.nil _ _ _,I.hlen,fun t ht=>?_⟩
  ·simp[Aj.enter,hs]
  simp only[Aj.enter];by_cases e:t<args.length
  ·have J:(args++List.replicate (fn.ntmps-args.length) AV.junk).getD t .junk=args.getD t .junk:=aFr
   have e2:(j++Array.replicate (fn.ntmps-j.size) undef).getD t undef=j.getD t undef:=by
    simp[Gj,Yq (show t<j.size by omega)]
   rw[J,e2];exact ha t e
  have J:(args++List.replicate (fn.ntmps-args.length) AV.junk).getD t .junk=.junk:=by
   simp only[List.getD,J3 (TN e),aMY];split<;>rfl
  rw[J];exact .junk _
 rintro e a' w' ⟨ok',H',σ',h1,L⟩;obtain⟨Ds,M,O,U⟩:=h1.defers
 have key:∀(x:List AV) (π:List (Nat×Bool)),Xu P σ' fn.results.toList x→TI σ'.base σ'.ents π=true→q=(fB x).back π→E'=Qy σ'.ents π→
  LeavesInM (IE none) 0 P fn a'.tmps (fun e w'=>∃v ok' H',e=.returned v∧CS ⟨w,ok,X,H⟩ ok' H' E' w'∧R ok' w' H' q v) a'.defers .returning w':=by
  rintro x π z m rfl rfl;rw[M];refine aLf (P:=P) (C:=⟨w,ok,X,H⟩) I.jM (fun Y a2 w2 u=>?_) Ds h1 U O;obtain⟨v,hv,hR⟩:=akP (P:=P) u z;exact⟨v,hv,v,Y,_,rfl,u.mem.norm π (u.base▸m),hR.back π⟩
 cases e with
 |ret=>obtain⟨x,π,z,m,u,Z⟩:=L;exact key x π z m u Z
 |normal=>obtain⟨x,π,z,m,u,Z⟩:=L;exact key x π z m u Z
 |_=>exact L.elim
def Ad {x y:Code} (j:AP P x σ (Jf (fun s=>AP P y s Q) Q)):AP P (.seq x y) σ Q:=AP.seq _ j (fun _ h=>h)
def DW {x y:Code} (K:Aj→Prop) (j:∀s,K s→AP P y s Q) (m:(∀s,K s→AP P y s Q)→AP P x σ (Jf (fun s=>AP P y s Q) Q)):AP P (.seq x y) σ Q:=AP.seq _ (m j) (fun _ h=>h)
def RP {c:Operand} {x y:Code} (j:σ.get c=.d (.lit (.bool true))) (h:AP P x σ Q):AP P (.cond c x y) σ Q:=AP.cond true j (fun _=>h) (fun h=>Fr)
def NY {c:Operand} {x y:Code} (j:σ.get c=.d (.lit (.bool false))) (h:AP P y σ Q):AP P (.cond c x y) σ Q:=AP.cond false j (fun h=>Fr) (fun _=>h)
def H9 {id:Nat} {ops:Array Oper} {y:Code} {σ':Aj} {rs:List AV} {ess:List (List Aq)} {bs:List Bool} (q:P.follows .mixedOrders=true) (j:(Uz ops&&Ut ops&&UC ops σ.slots.length&&VE ops)=true) (m:XZ ops bs=true)
 (h:Eb P ops ops.toList σ rs ess bs σ') (u:AP P y σ' Q):AP P (.seq (.region id ops true) y) σ Q:=
 AP.seq (fun s=>s=σ') (.draw q j m h rfl) (fun _ e=>e▸u)
end
section
variable {P : Program} {o : Oper} {es : List Aq}
def akQ {x:Operand} {t:TypeId} {agg:Bool} {n off:Nat} {cs:List D} {y:D} (j:y=Oy agg cs off n) (m:Dl P t agg n) (q:off+n≤cs.length) (u:agg=false→n=1) (z:o.op=.load t x):BN P o [(x,.d (.ref cs off))] es (.d y) es:=j▸aj0 m q u z
def as3 {x:Operand} {t:TypeId} {agg:Bool} {k n off:Nat} {cs:List AV} {y:D} (j:y=Oy agg (IG cs) off n) (m:es[k]? =some (.box cs)) (hd:cs.all AV.yR=true) (q:Dl P t agg n) (u:off+n≤cs.length) (z:agg=false→n=1) (I:o.op=.load t x):
 BN P o [(x,.ptr k off)] es (.d y) es:=j▸anZ m hd q u z I
def amW {x:Operand} {t:TypeId} {f off n:Nat} {agg:Bool} {cs:List D} {y:D} (j:y=Oy agg cs off n) (m:bI P t f off agg n=true) (q:off+n≤cs.length) (u:agg=false→n=1) (z:o.op=.field t x f):BN P o [(x,.d (.agg cs))] es (.d y) es:=j▸alp m q u z
def aoF {t:TypeId} {m:Array (Nat×Operand)} {j:List (Nat×Nat)} {z:Value} {y:D} (q:II P t j z) (vs:List AV) (u:o.op=.build t m) (I:y=.agg (IG (J6 (fun(i:Nat)=>j[i]?) (Et z) m.toList vs))) (J:Lm (fun(i:Nat)=>j[i]?) (Et z).length m.toList vs=true)
 (hd:(J6 (fun(i:Nat)=>j[i]?) (Et z) m.toList vs).all AV.yR=true):BN P o (Lu m.toList vs) es (.d y) es:=I▸am3 q vs J hd u
def asj {s t:TypeId} {x:Operand} {j k:IntKind} {n:Int} (hs:P.underlying s=some (.int j)) (m:P.underlying t=some (.int k)) (q:o.op=.convert s t x):BN P o [(x,.d (.lit (.int j n)))] es (.d (.lit (.int k (k.wrap n)))) es:=
 adr q fun w=>by simp[convert,underlying,hs,m,Conv.intToInt]
def asL {s t:TypeId} {x:Operand} {u:ByteArray} (hs:P.underlying s=some .string) (j:P.underlying t=some .string) (m:o.op=.convert s t x):BN P o [(x,.d (DU u))] es (.d (DU u)) es:=
 adr m fun w=>by simp[convert,underlying,hs,j]
def aoo {t t':TypeId} {x y:Operand} {a b:Bool} (j:P.underlying t=some .bool) (m:o.op=.binOp .eql t x y t'):BN P o [(x,.d (DX a)),(y,.d (DX b))] es (.d (DX (a==b))) es:=
 Kq (u:=.bool a) (v:=.bool b) (r:=.bool (a==b)) m (fun w=>by
  show((do pure (.bool (←Op.equal t (.bool a) (.bool b))):Sem Value)).run P w=_
  simp only[Ep,run_equal_bool w t a b j,F5,Fa]) ⟨rfl,rfl⟩
def amV {t t':TypeId} {x y:Operand} {a b:Bool} (j:P.underlying t=some .bool) (m:o.op=.binOp .neq t x y t'):BN P o [(x,.d (DX a)),(y,.d (DX b))] es (.d (DX (!(a==b)))) es:=
 Kq (u:=.bool a) (v:=.bool b) (r:=.bool (!(a==b))) m (fun w=>by
  show((do pure (.bool (!(←Op.equal t (.bool a) (.bool b)))):Sem Value)).run P w=_
  simp only[Ep,run_equal_bool w t a b j,F5,Fa]) ⟨rfl,rfl⟩
end
def bn {A Rr:Type} (body:(A→Option Rr)→A→Option Rr):Nat→A→Option Rr
 |0,_=>none
 |n+1,a=>body (bn body n) a
def F9 {P:Program} {σ:Aj} {Q:Exit→Aj→Prop} {m:Code} {A Rr:Type} (S:A→Aj) (body:(A→Option Rr)→A→Option Rr) (r:Rr) (a0:A) (hs:CO σ (S a0)) (h:Go.Proofs.YtkkdimcnpacjhaaGreat.bn body Ag a0=some r)
 (round:∀(J:Aj→Prop) (k:A→Option Rr),(∀σ' a,CO σ' (S a)→k a=some r→J σ')→∀a,body k a=some r→AP P m (S a) (Jf J Q)):AP P (.loop m) σ Q:=by
 refine AP.loop (fun n s=>∃a,CO s (S a)∧Go.Proofs.YtkkdimcnpacjhaaGreat.bn body n a=some r) Ag ⟨a0,hs,h⟩ ?_;rintro n s ⟨a,j,q⟩;refine Ci j ?_;cases n with
 |zero=>cases q
 |succ n=>exact round _ (Go.Proofs.YtkkdimcnpacjhaaGreat.bn body n) (fun σ' a u z=>⟨n,XU n,a,u,z⟩) a q
def aP {A B Rr:Type} (body:(A→B→Option Rr)→A→B→Option Rr):Nat→A→B→Option Rr
 |0,_,_=>none
 |n+1,a,b=>body (aP body n) a b
def ES {P:Program} {σ:Aj} {Q:Exit→Aj→Prop} {q:Code} {A B Rr:Type} (S:A→B→Aj) (body:(A→B→Option Rr)→A→B→Option Rr) (r:Rr) (a0:A) (m:B) (hs:CO σ (S a0 m)) (h:Go.Proofs.YtkkdimcnpacjhaaGreat.aP body Ag a0 m=some r)
 (round:∀(J:Aj→Prop) (k:A→B→Option Rr),(∀σ' a b,CO σ' (S a b)→k a b=some r→J σ')→∀a b,body k a b=some r→AP P q (S a b) (Jf J Q)):AP P (.loop q) σ Q:=by
 refine AP.loop (fun n s=>∃a b,CO s (S a b)∧Go.Proofs.YtkkdimcnpacjhaaGreat.aP body n a b=some r) Ag ⟨a0,m,hs,h⟩ ?_;rintro n s ⟨a,b,j,u⟩;refine Ci j ?_;cases n with
 |zero=>cases u
 |succ n=>exact round _ (Go.Proofs.YtkkdimcnpacjhaaGreat.aP body n) (fun σ' a b z I=>⟨n,XU n,a,b,z,I⟩) a b u
def kN {A B C Rr:Type} (body:(A→B→C→Option Rr)→A→B→C→Option Rr):Nat→A→B→C→Option Rr
 |0,_,_,_=>none
 |n+1,a,b,c=>body (kN body n) a b c
def zO {P:Program} {σ:Aj} {Q:Exit→Aj→Prop} {u:Code} {A B C Rr:Type} (S:A→B→C→Aj) (body:(A→B→C→Option Rr)→A→B→C→Option Rr) (r:Rr) (a0:A) (m:B) (q:C) (hs:CO σ (S a0 m q)) (h:Go.Proofs.YtkkdimcnpacjhaaGreat.kN body Ag a0 m q=some r)
 (round:∀(J:Aj→Prop) (k:A→B→C→Option Rr),(∀σ' a b c,CO σ' (S a b c)→k a b c=some r→J σ')→∀a b c,body k a b c=some r→AP P u (S a b c) (Jf J Q)):AP P (.loop u) σ Q:=by
 refine AP.loop (fun n s=>∃a b c,CO s (S a b c)∧Go.Proofs.YtkkdimcnpacjhaaGreat.kN body n a b c=some r) Ag ⟨a0,m,q,hs,h⟩ ?_;rintro n s ⟨a,b,c,j,z⟩;refine Ci j ?_;cases n with
 |zero=>cases z
 |succ n=>exact round _ (Go.Proofs.YtkkdimcnpacjhaaGreat.kN body n) (fun σ' a b c I L=>⟨n,XU n,a,b,c,I,L⟩) a b c z
def VI {A B C D Rr:Type} (body:(A→B→C→D→Option Rr)→A→B→C→D→Option Rr):Nat→A→B→C→D→Option Rr
 |0,_,_,_,_=>none
 |n+1,a,b,c,d=>body (VI body n) a b c d
def AP.VI {P:Program} {σ:Aj} {Q:Exit→Aj→Prop} {z:Code} {A B C D Rr:Type} (S:A→B→C→D→Aj) (body:(A→B→C→D→Option Rr)→A→B→C→D→Option Rr) (r:Rr) (a0:A) (m:B) (q:C) (u:D) (hs:CO σ (S a0 m q u)) (h:Go.Proofs.YtkkdimcnpacjhaaGreat.VI body Ag a0 m q u=some r)
 (round:∀(J:Aj→Prop) (k:A→B→C→D→Option Rr),(∀σ' a b c d,CO σ' (S a b c d)→k a b c d=some r→J σ')→∀a b c d,body k a b c d=some r→AP P z (S a b c d) (Jf J Q)):AP P (.loop z) σ Q:=by
 refine AP.loop (fun n s=>∃a b c d,CO s (S a b c d)∧Go.Proofs.YtkkdimcnpacjhaaGreat.VI body n a b c d=some r) Ag ⟨a0,m,q,u,hs,h⟩ ?_;rintro n s ⟨a,b,c,d,j,I⟩;refine Ci j ?_;cases n with
 |zero=>cases I
 |succ n=>exact round _ (Go.Proofs.YtkkdimcnpacjhaaGreat.VI body n) (fun σ' a b c d L M=>⟨n,XU n,a,b,c,d,L,M⟩) a b c d I
def DN {A B C D E Rr:Type} (body:(A→B→C→D→E→Option Rr)→A→B→C→D→E→Option Rr):Nat→A→B→C→D→E→Option Rr
 |0,_,_,_,_,_=>none
 |n+1,a,b,c,d,e=>body (DN body n) a b c d e
def AP.DN {P:Program} {σ:Aj} {Q:Exit→Aj→Prop} {I:Code} {A B C D E Rr:Type} (S:A→B→C→D→E→Aj) (body:(A→B→C→D→E→Option Rr)→A→B→C→D→E→Option Rr) (r:Rr) (a0:A) (m:B) (q:C) (u:D) (z:E) (hs:CO σ (S a0 m q u z)) (h:Go.Proofs.YtkkdimcnpacjhaaGreat.DN body Ag a0 m q u z=some r)
 (round:∀(J:Aj→Prop) (k:A→B→C→D→E→Option Rr),(∀σ' a b c d e,CO σ' (S a b c d e)→k a b c d e=some r→J σ')→∀a b c d e,body k a b c d e=some r→AP P I (S a b c d e) (Jf J Q)):AP P (.loop I) σ Q:=by
 refine AP.loop (fun n s=>∃a b c d e,CO s (S a b c d e)∧Go.Proofs.YtkkdimcnpacjhaaGreat.DN body n a b c d e=some r) Ag ⟨a0,m,q,u,z,hs,h⟩ ?_;rintro n s ⟨a,b,c,d,e,j,L⟩;refine Ci j ?_;cases n with
 |zero=>cases L
 |succ n=>exact round _ (Go.Proofs.YtkkdimcnpacjhaaGreat.DN body n) (fun σ' a b c d e M O=>⟨n,XU n,a,b,c,d,e,M,O⟩) a b c d e L
def DR {A B C D E F Rr:Type} (body:(A→B→C→D→E→F→Option Rr)→A→B→C→D→E→F→Option Rr):Nat→A→B→C→D→E→F→Option Rr
 |0,_,_,_,_,_,_=>none
 |n+1,a,b,c,d,e,f=>body (DR body n) a b c d e f
def AP.DR {P:Program} {σ:Aj} {Q:Exit→Aj→Prop} {L:Code} {A B C D E F Rr:Type} (S:A→B→C→D→E→F→Aj) (body:(A→B→C→D→E→F→Option Rr)→A→B→C→D→E→F→Option Rr) (r:Rr) (a0:A) (m:B) (q:C) (u:D) (z:E) (I:F) (hs:CO σ (S a0 m q u z I)) (h:Go.Proofs.YtkkdimcnpacjhaaGreat.DR body Ag a0 m q u z I=some r)
 (round:∀(J:Aj→Prop) (k:A→B→C→D→E→F→Option Rr),(∀σ' a b c d e f,CO σ' (S a b c d e f)→k a b c d e f=some r→J σ')→∀a b c d e f,body k a b c d e f=some r→AP P L (S a b c d e f) (Jf J Q)):AP P (.loop L) σ Q:=by
 refine AP.loop (fun n s=>∃a b c d e f,CO s (S a b c d e f)∧Go.Proofs.YtkkdimcnpacjhaaGreat.DR body n a b c d e f=some r) Ag ⟨a0,m,q,u,z,I,hs,h⟩ ?_;rintro n s ⟨a,b,c,d,e,f,j,M⟩;refine Ci j ?_;cases n with
 |zero=>cases M
 |succ n=>exact round _ (Go.Proofs.YtkkdimcnpacjhaaGreat.DR body n) (fun σ' a b c d e f O U=>⟨n,XU n,a,b,c,d,e,f,O,U⟩) a b c d e f M
def Y6 {A B C D E F G Rr:Type} (body:(A→B→C→D→E→F→G→Option Rr)→A→B→C→D→E→F→G→Option Rr):Nat→A→B→C→D→E→F→G→Option Rr
 |0,_,_,_,_,_,_,_=>none
 |n+1,a,b,c,d,e,f,g=>body (Y6 body n) a b c d e f g
def AP.Y6 {P:Program} {σ:Aj} {Q:Exit→Aj→Prop} {M:Code} {A B C D E F G Rr:Type} (S:A→B→C→D→E→F→G→Aj) (body:(A→B→C→D→E→F→G→Option Rr)→A→B→C→D→E→F→G→Option Rr) (r:Rr) (a0:A) (m:B) (q:C) (u:D) (z:E) (I:F) (L:G) (hs:CO σ (S a0 m q u z I L)) (h:Go.Proofs.YtkkdimcnpacjhaaGreat.Y6 body Ag a0 m q u z I L=some r)
 (round:∀(J:Aj→Prop) (k:A→B→C→D→E→F→G→Option Rr),(∀σ' a b c d e f g,CO σ' (S a b c d e f g)→k a b c d e f g=some r→J σ')→∀a b c d e f g,body k a b c d e f g=some r→AP P M (S a b c d e f g) (Jf J Q)):AP P (.loop M) σ Q:=by
 refine AP.loop (fun n s=>∃a b c d e f g,CO s (S a b c d e f g)∧Go.Proofs.YtkkdimcnpacjhaaGreat.Y6 body n a b c d e f g=some r) Ag ⟨a0,m,q,u,z,I,L,hs,h⟩ ?_;rintro n s ⟨a,b,c,d,e,f,g,j,O⟩;refine Ci j ?_;cases n with
 |zero=>cases O
 |succ n=>exact round _ (Go.Proofs.YtkkdimcnpacjhaaGreat.Y6 body n) (fun σ' a b c d e f g U Y=>⟨n,XU n,a,b,c,d,e,f,g,U,Y⟩) a b c d e f g O
section
variable {P : Program} {o : Oper} {es : List Aq} {α : Type}
def aox {b:Nat} {z:α} {n c:Int} {r:List α} (h:IK b z n c=some r):(0≤n∧n≤c∧(b:Int)*c≤140737488355328)∧r=List.replicate n.toNat z:=by
 unfold IK at h;split at h
 ·exact⟨‹_›,(CG h).symm⟩
 cases h
def Xw {x y:Operand} {t e:TypeId} {size j:Nat} {m:Value} {n c:Int} {r:List α} (enc:α→D) (z:α) (h:IK j z n c=some r) (hE:Fh P t e size j) (hz:(P.info? e).bind (·.zero)=some m) (h1:m.cells.all (·.oneCell')=true) (L:m.cells.size=size)
 (q:Et m=(enc z).cells.map .d) (hb:0<j) (ho:o.op=.makeSlice t x y):BN P o [(x,.d (Ac n)),(y,.d (Ac c))] es (.aY es.length) (es++[.arr e size (List.map enc r)]):=
 .eff fun C ok H a w hm hn=>by
  obtain⟨⟨h0,hnc,hbc⟩,rfl⟩:=aox h;have hx:=(EL hn).1.lit;have M:=(EL hn).2.lit;simp only at hx M;obtain⟨i,z',hi,hz',hs,hby,_⟩:=hE.info;have hzv:i.zero=some m:=by rw[hi]at hz;simpa using hz
  have O:c≤9223372036854775807:=by
   have h2:(1:Int)*c≤(j:Int)*c:=Int.mul_le_mul_of_nonneg_right A8 A8;omega
  have hr:=run_make (P:=P) w t e i m hE.und hi hzv .i64 .i64 n c h0 hnc (by rw[hby];omega) O;rw[hs]at hr
  let cells:=madeCells m.cells (c.toNat*size)
  have U:=hE.pos;have u:cells.size=c.toNat*size:=size_madeCells _ _;have Y:(Et m).length=size:=by simp[Et,L]
  have I:∀y∈List.map enc (List.replicate n.toNat z),y.cells.length=size:=by
   intro y M;simp only[List.map_replicate,List.mem_replicate]at M;rw[M.2,←Y,q];simp
  have J:=QZ I;have hlen:(List.map enc (List.replicate n.toNat z)).length=n.toNat:=Am
  rw[hlen]at J;have aDB:n.toNat*size≤c.toNat*size:=JB _ A8
  have hrs:∀{ok:Nat→Prop} {w:World} {H:List BJ},FQ ok w H (flat (List.map enc (List.replicate n.toNat z))) (cells.toList.take (n.toNat*size)):=by
   intro ok w H;refine⟨by rw[J,FI,SG,u];omega,fun k hk=>?_⟩;rw[J]at hk;have hd:=aCc k size;have hq:k/size<n.toNat:=jU (by rwa [Tj]at hk);have hm':k % size<size:=cD _ U;have e0:k=k/size*size+k % size:=by rw[Tj];exact hd.symm
   have e1:(flat (List.map enc (List.replicate n.toNat z))).getD k .junk=.d ((enc z).cells.getD (k % size) D8):=by
    have hg:=flat_get I (k/size) (k % size) (by rw[hlen];exact hq) hm';rw[←e0]at hg;rw[hg];congr 3;simp[List.getD,hq]
   have hcl:(enc z).cells.length=size:=by rw[←Y,q];simp
   have e2:(AV.d ((enc z).cells.getD (k % size) D8))=(Et m).getD (k % size) .junk:=by
    rw[q];have :k % size<(enc z).cells.length:=A8
    simp[List.getD,this]
   have Z:k % size<m.cells.size:=A8
   have e3:(cells.toList.take (n.toNat*size)).getD k undef=m.cells[k % size]:=by
    have hk2:k<c.toNat*size:=A8
    have e:cells.toList=(List.range (c.toNat*size)).map fun i=>m.cells[i % m.cells.size]! :=by
     show(madeCells m.cells (c.toNat*size)).toList=_;simp[madeCells]
    rw[e];simp only[List.getD,Ln hk];simp[hk2,L];rw[o8 m.cells (k % size) Z]
   rw[e1,e2,e3];have e4:(Et m).getD (k % size) .junk=.d (Nz m.cells[k % size]):=by simp[Et,List.getD,Z]
   rw[e4];exact⟨qo ((PU.1 h1) _ Am),.d _ _ (bG _)⟩
  obtain⟨h2,h3⟩:=hm.push (.cells cells e) ⟨.slice (some ⟨w.heap.size,0,none⟩) n.toNat c.toNat,size⟩ (.arr e size (List.map enc (List.replicate n.toNat z))) (fun b hb=>by simpa[Cb]using hb.symm) (by
   refine⟨rfl,I,cells.toList.take (n.toNat*size),⟨?_,.inr ⟨w.heap.size,c.toNat,cells,by rw[hlen],EK _,ZJ w _,by rw[hlen];omega,aEP,ZB u.symm,by rw[hlen]⟩⟩,hrs⟩
   rw[hlen,FI,SG,u];omega)
  refine⟨.slice (some ⟨w.heap.size,0,none⟩) n.toNat c.toNat,_,ok,_,.inl ?_,h3,Names.push _ _,h2,.aY _ _ _ _ size aGz⟩;simp only[execOp,ho,hx,M,Ep,hr,F5,Fa];rfl
def gCopy (l m:List α):List α:=m.take l.length++l.drop m.length
def arv {x y:Operand} {t e:TypeId} {size bytes k:Nat} (enc:α→D) (l m:List α) (hE:Fh P t e size bytes) (hk:es[k]? =some (.arr e size (List.map enc l))) (hc:∀a,(enc a).cells.length=size) (ho:o.op=.call { callee:=.builtin .copy,args:= #[x,y],argTypes:= #[t,t] }):
 BN P o [(x,.aY k),(y,.d (BG enc m))] es .junk (es.set k (.arr e size (List.map enc (gCopy l m)))):=
 .eff fun C ok H a w hm hn=>by
  have hx:=(EL hn).1;have hy:=(EL hn).2;simp only at hx hy;obtain⟨h,hh,hok⟩:=FV hm.ent hm.hlen hk;have hxv:=OE hx hh;obtain⟨i,z',hi,hz',hs,hby,_⟩:=hE.info;have hu:(underlying t).run P w=.ok (.slice e) w:=aHZ
  have hsz:(sizeOf e).run P w=.ok size w:=aLH
  have Y:∀(q:List α),∀y∈q.map enc,y.cells.length=size:=fun q y hy=>aKZ
  have hyR:DF ok w (.sl (m.map enc)) (a.eval y):=by cases hy with |d _ _ h=>exact h
  obtain⟨z,U,aCT⟩:=dK H hyR (Y m);obtain⟨h1,h2,ys,Z,hrs⟩:=hok;have hlm:(m.map enc).length=m.length:=Am
  have hll:(l.map enc).length=l.length:=Am
  have hnl:z.length=m.length*size:=by rw[U.len,hlm]
  let n:=Nat.min m.length l.length
  have hlenx:(Builtin.lenOf (a.eval y)).run P w=.ok m.length w:=by
   rcases U.at_ with⟨ad,c,e1,_⟩|⟨c,e1,e2⟩
   ·rw[e1];simp[Builtin.lenOf]
   rw[e1];rw[hlm]at e2;simp[Builtin.lenOf,e2]
  have J:(Builtin.firstCells size n (a.eval y)).run P w=.ok (z.take (n*size)).toArray w:=by
   rcases U.at_ with⟨ad,c,e1,hcells⟩|⟨c,e1,e2⟩
   ·rw[e1];refine run_firstCells_some (P:=P) w size n ad _ c (z.take (n*size)) ?_ ?_
    ·rw[FI,hnl];have :n*size≤m.length*size:=JB _ (aNB _ _);omega
    intro j v hj;rw[sS]at hj;split at hj
    ·exact hcells j v hj
    cases hj
   rw[e1];rw[hlm]at e2;have :z=[]:=GN (by rw[hnl,e2];simp);simp[Builtin.firstCells,this]
  have hone:∀u∈z.take (n*size),u.oneCell'=true:=fun u hu=>U.one u (qx hu);have hn1:n≤m.length:=aNB _ _;have hn2:n≤l.length:=Nat.min_le_right _ _
  have I:(z.take (n*size)).length=n*size:=by
   rw[FI,hnl];have :n*size≤m.length*size:=JB _ hn1;omega
  have hgc:gCopy l m=m.take n++l.drop n:=by
   unfold gCopy;by_cases hle:m.length≤l.length
   ·have e1:n=m.length:=mM hle;rw[e1,PE hle,GY]
   have e1:n=l.length:=Nat.min_eq_right A8;rw[e1,aBa A8,Na]
  have L:(gCopy l m).length=l.length:=by rw[hgc];simp;omega
  rcases Z.2 with⟨hv,hl0⟩|⟨g,cap,M,hv,_,hg,hncap,hcm,hcs,htake⟩
  ·
   rw[hll]at hl0;have hn0:n=0:=A8
   have hl:l=[]:=GN hl0;have hge:gCopy l m=l:=by rw[hgc,hn0];simp
   rw[hge]
   have hset:es.set k (.arr e size (List.map enc l))=es:=by
    apply Yl;intro j;by_cases hj:k=j
    ·subst hj;have hkl:=(FB.1 hk).1;rw[List.getElem?_set_self hkl,hk]
    rw[XT hj]
   rw[hset];refine⟨goInt n,w,ok,H,.inl ?_,.refl _ _,.refl _,hm,.junk _⟩;have e0:Nat.min m.length 0=n:=by rw[hn0];simp
   have hf0:(Builtin.firstCells size 0 (a.eval y)).run P w=.ok #[] w:=by rw[hn0]at J;simpa using J
   simp[execOp,ho,resolve,invoke,builtin,Builtin.copy_,hxv,hv,hu,hlenx,hsz,hf0,hn0]
  ·rw[hll]at hv hncap htake;have hlt:g<w.heap.size:=(FX.1 hg).1
   have hfit:n*size≤M.size:=by
    exact EZ (JB _ A8) hcs
   have hst:=aLW (P:=P) g 0 e (z.take (n*size)) 0 M w hg (by rw[I];omega) hone;have axb:∀y∈(gCopy l m).map enc,y.cells.length=size:=Y _
   obtain⟨h3,h4⟩:=hm.upd (e:=.arr e size (List.map enc (gCopy l m))) (w':=w.setRow g (M.toList.take (0+0)++z.take (n*size)++M.toList.drop (0+0+(z.take (n*size)).length)).toArray) hk rfl hh (by rw[hv];rfl) rfl rfl rfl aHY (fun c hc=>aF6 _ _ _ _ hc) (fun hg'=>by
    refine⟨h1,axb,z.take (n*size)++ys.drop (n*size),?_,?_⟩
    ·refine⟨?_,.inr ⟨g,cap,_,by rw[C9,L];exact hv,EK _,uQ w g M _ e (0,0) hg,by rw[C9,L];exact hncap,hcm,?_,?_⟩⟩
     ·simp only[Dk,I,KA,Z.1,C9,L];have :n*size≤l.length*size:=JB _ hn2;omega
     ·simp only[OY,aGV,Hd,Ic,I];simp only[Zo,Dk,I,KA,SG];rw[show n*size+(M.size-n*size)=M.size by omega];exact hcs
     simp only[OY,aGV,Hd,Ic,I,aBg];rw[C9,L,←htake];rw[aGP,I,PE (by rw[I];exact JB _ hn2)];congr 1;rw[List.drop_take]
    have ha:=aCT.mono hg' (Names.refl H);have hb:=hrs.mono hg' (Names.refl H);have aCU:=QZ (Y l);have aCV:=QZ (Y m);have aAK:=QZ axb;have aDC:n*size≤l.length*size:=JB _ hn2;have aDD:n*size≤m.length*size:=JB _ hn1;refine⟨by simp only[aAK,Dk,I,KA,Z.1,C9,L];omega,fun j hj=>?_⟩;rw[aAK,C9,L]at hj;have hpos:=hE.pos;have e0:j=j/size*size+j % size:=by rw[Tj];exact(aCc j size).symm
    have hq:j/size<l.length:=jU (by rwa [Tj]at hj);have hr:j % size<size:=cD _ hpos;have hg3:=flat_get axb (j/size) (j % size) (by rw[C9,L];exact hq) hr;rw[←e0]at hg3;by_cases hjn:j<n*size
    ·have hqn:j/size<n:=jU (by rwa [Tj]at hjn);have hg2:=flat_get (Y m) (j/size) (j % size) (by rw[hlm];omega) hr;rw[←e0]at hg2
     have O:((gCopy l m).map enc).getD (j/size) D8=(m.map enc).getD (j/size) D8:=by
      rw[hgc];simp only[List.getD,Ip];rw[Fv DK,XY,Ln hqn]
     rw[hg3,O,←hg2]
     have e5:(z.take (n*size)++ys.drop (n*size)).getD j undef=z.getD j undef:=by
      simp only[List.getD];rw[Fv (by rw[I];exact hjn),Ln hjn]
     rw[e5];exact ha.2 j (by rw[aCV,hlm];omega)
    have hqn:n≤j/size:=(Nat.le_div_iff_mul_le hpos).2 A8;have hg1:=flat_get (Y l) (j/size) (j % size) (by rw[hll];exact hq) hr;rw[←e0]at hg1
    have O:((gCopy l m).map enc).getD (j/size) D8=(l.map enc).getD (j/size) D8:=by
     rw[hgc];have hlt':(m.take n).length=n:=DK
     simp only[List.getD,Ip];rw[J3 (by rw[C9,hlt'];exact hqn),C9,hlt',Yv,Og];congr 2;omega
    rw[hg3,O,←hg1]
    have e5:(z.take (n*size)++ys.drop (n*size)).getD j undef=ys.getD j undef:=by
     simp only[List.getD];rw[J3 (by rw[I];omega),I,Og];congr 2;omega
    rw[e5]
    exact hb.2 j (by rw[aCU,hll];omega))
   refine⟨goInt n,_,ok,H,.inl ?_,h4,.refl _,h3,.junk _⟩;have e0:Nat.min m.length l.length=n:=rfl;simp[execOp,ho,resolve,invoke,builtin,Builtin.copy_,hxv,hv,hu,hlenx,hsz,e0,J];rw[hst];simp
end
def BO (s:ByteArray):List Int:=s.data.toList.map fun c=>(c.toNat:Int)
def H8 (s:ByteArray):(BO s).length=s.size:=by unfold BO;rw[C9,SG];rfl
section
variable {P : Program} {o : Oper} {es : List Aq} {α : Type}
def aCw :∀(l:List Int),flat (l.map Ea)=l.map fun n=>.d (Ea n)
 | []=>rfl
 |n::l=>by rw[I7,Uf,aCw l];rfl
def akF {w:World} {t u ty e:TypeId} {i:TypeInfo} (ht:P.underlying t=some (.slice e)) (hu:P.underlying u=some .string) (hi:P.info? e=some i) (hz:i.zero=some (.int .u8 0)) (j:i.size=1) (Y:i.bytes=1)
 {v:Value} {n:Nat} {xs:List Value} (q:lQ w e 1 v n xs) (s:ByteArray) (M:n+s.size≤maxLen) (J:n+s.size≤140737488355328):
 ∃v' w',(Builtin.append_ #[t,u] ty #[v,.string s]).run P w=.ok v' w'∧lQ w' e 1 v' (n+s.size) (xs++Lib.strCells s)∧w.grownBy w' v.ownBlock∧(∀U,Cb v'=some U→Cb v=some U∨w.heap.size≤U):=by
 have L:xs.length=n:=by simpa using q.1
 have hlen:(xs++Lib.strCells s).length=(n+s.size)*1:=by rw[Dk,L,aGU,dL]
 rcases q.2 with⟨rfl,rfl⟩|⟨g,cap,Z,rfl,_,hg,hnc,O,hcs,z⟩
 ·have hx:xs=[]:=GN L;subst hx;obtain⟨v',w',q1,q2,q3,q4⟩:=Lib.run_append_own_string (P:=P) w w.heap.size t u ty e i ht hu hi hz j Y _ 0 [] (yB w w.heap.size e 1) s M J (Dc _);refine⟨v',w',q1,.of q2,q3,fun U m=>.inr ?_⟩;rcases q2.2 with⟨rfl,_⟩|⟨g2,_,_,rfl,hle,_⟩
  ·simp[Cb]at m
  simp[Cb]at m;subst m;exact hle
 rw[dL]at hcs z;by_cases I:n+s.size≤cap
 ·have hr:=Lib.run_append_room_string (P:=P) w t u ty e i ht hu hi j g n cap Z hg s I A8;refine⟨_,_,hr,⟨hlen,.inr ⟨g,cap,_,rfl,EK _,uQ w g Z _ e _ hg,I,O,?_,?_⟩⟩,⟨rfl,rfl,rfl,Am,fun k _ hk=>setRow_other w g k _ (fun e=>hk (by simp[Value.ownBlock,e]))⟩,fun U m=>.inl m⟩
  ·simp only[Zo,Dk,FI,KA,SG,aGU];omega
  rw[z,←hlen];exact aHr
 have hr:=Lib.run_append_grow_string (P:=P) w t u ty e i (.int .u8 0) ht hu hi hz ⟨g,0,none⟩ n cap xs (by rw[j];simpa using L) (q.cells (g:=g) rfl) s A8 (by unfold maxLen at M;omega) (by rw[Y];exact growslice_fits A8 A8);have hge:=grownCap_ge w (n+s.size) cap e;have O:grownCap w (n+s.size) cap e≤maxLen:=grownCap_le_maxLen w (n+s.size) cap e M;refine⟨_,_,hr,⟨hlen,.inr ⟨w.heap.size,_,_,rfl,EK _,ZJ w.drew _,hge,O,ZB ?_,?_⟩⟩,⟨rfl,rfl,rfl,Am,fun k hk _=>J7 w.drew _ k hk⟩,fun U m=>.inr (by simp[Cb]at m;omega)⟩
 ·have hz1:(Value.int IntKind.u8 0).cells.size=1:=rfl;simp only[Array.size_append,Zo,size_zeroCells,hz1,L,aGU];omega
 simp only[Array.toList_append,Gq];rw[←Gq,←hlen];exact aHr
def apK {s x:Operand} {t u e:TypeId} {k:Nat} {l r:List Int} {j:ByteArray} (h:Bq 1 l (BO j)=some r) (hE:Fh P t e 1 1) (hz:(P.info? e).bind (·.zero)=some (.int .u8 0)) (hu:P.underlying u=some .string) (hk:es[k]? =some (.arr e 1 (List.map Ea l)))
 (ho:o.op=.call { callee:=.builtin .append,args:= #[s,x],argTypes:= #[t,u] }):BN P o [(s,.aY k),(x,.d (DU j))] es (.aY es.length) (es.set k .dead++[.arr e 1 (List.map Ea r)]):=
 .eff fun C ok H a w hm hn=>by
  obtain⟨rfl,hlen⟩:=aAV h;rw[H8,dL]at hlen;have hs:=(EL hn).1;have hx:=(EL hn).2.lit;simp only at hs hx;obtain⟨hd,hh,hok⟩:=FV hm.ent hm.hlen hk;have hsv:=OE hs hh;obtain⟨h1,h2,ys,z,hrs⟩:=hok;obtain⟨i,z',hi,hz',hs1,hby,_⟩:=hE.info;have hz2:i.zero=some (.int .u8 0):=by rw[hi]at hz;simpa using hz
  have J:(l.map Ea).length=l.length:=Am
  have L:(l.map Ea).length+j.size≤maxLen:=by rw[J];unfold maxLen;omega
  obtain⟨v',w',hr,I,M,O⟩:=akF (P:=P) (ty:=o.type) hE.und hu hi hz2 hs1 hby z j L (by rw[J];exact hlen)
  obtain⟨h3,h4⟩:=hm.turn (h':=⟨v',1⟩) (e:=.arr e 1 (List.map Ea (l++BO j))) hk rfl hh M.os M.tape M.output M.size (fun c hc hne=>M.block c hc (by rw[aH4 z];exact fun e=>hne e.symm)) (fun g U=>⟨jH I U,O g U⟩) (fun hgr=>by
   refine⟨rfl,fun y hy=>by obtain⟨q,_,rfl⟩:=FH.1 hy;rfl,ys++Lib.strCells j,?_,?_⟩
   ·have e:(List.map Ea (l++BO j)).length=(l.map Ea).length+j.size:=by simp[H8]
    rw[e];exact I
   have Y:=hrs.mono hgr (Names.push H [⟨v',1⟩]);have hfl:(flat (l.map Ea)).length=l.length:=by rw[aCw];simp
   have hcl:(Lib.strCells j)=(BO j).map (.int .u8):=by unfold Lib.strCells BO;rw[qg];rfl
   rw[Ip,bD,aCw (BO j),hcl];refine⟨by rw[Dk,Dk,Y.1,C9,C9],fun i hi=>?_⟩;by_cases m:i<(flat (l.map Ea)).length
   ·have e1:(flat (l.map Ea)++(BO j).map fun n=>AV.d (Ea n)).getD i .junk=(flat (l.map Ea)).getD i .junk:=by simp[List.getD,Fv m]
    have e2:(ys++(BO j).map (Value.int .u8)).getD i undef=ys.getD i undef:=by simp[List.getD,Fv (by rw[Y.1];exact m:i<ys.length)]
    rw[e1,e2];exact Y.2 i m
   have Z:i-(flat (l.map Ea)).length<(BO j).length:=by rw[Dk,C9]at hi;omega
   have e1:(flat (l.map Ea)++(BO j).map fun n=>AV.d (Ea n)).getD i .junk=.d (Ea (BO j)[i-(flat (l.map Ea)).length]):=by simp[List.getD,J3 (TN m),Z]
   have e2:(ys++(BO j).map (Value.int .u8)).getD i undef=.int .u8 (BO j)[i-(flat (l.map Ea)).length]:=by simp[List.getD,J3 (by rw[Y.1];omega:ys.length≤i),Y.1,Z]
   rw[e1,e2]
   exact⟨rfl,.d _ _ (.lit _)⟩)
  have hH:(H++[(⟨v',1⟩:BJ)])[es.length]? =some ⟨v',1⟩:=aGz
  refine⟨v',w',ok,_,.inl ?_,h4,Names.push _ _,h3,?_⟩
  ·simp[execOp,ho,resolve,invoke,builtin,hx,hsv,hr]
  rcases I.2 with⟨rfl,_⟩|⟨g',c',_,rfl,_⟩
  ·exact .aY _ _ _ _ 1 hH
  exact .aY _ _ _ _ 1 hH
def Dx (op:BinOp) (k:IntKind) (x y:Int):Int:=
 match op with
 | .and=>k.wrap ((BitVec.ofInt k.bits x&&& BitVec.ofInt k.bits y).toNat)
 | .or=>k.wrap ((BitVec.ofInt k.bits x|||BitVec.ofInt k.bits y).toNat)
 | .xor=>k.wrap ((BitVec.ofInt k.bits x^^^BitVec.ofInt k.bits y).toNat)
 |_=>k.wrap ((BitVec.ofInt k.bits x&&& ~~~(BitVec.ofInt k.bits y)).toNat)
def PV {t t':TypeId} {x y:Operand} {k:IntKind} {u v:Int} (j:o.op=.binOp .and t x y t'):BN P o [(x,.d (.lit (.int k u))),(y,.d (.lit (.int k v)))] es (.d (.lit (.int k (Dx .and k u v)))) es:=
 Kq j (fun w=>aAy) ⟨rfl,rfl⟩
def VY {t t':TypeId} {x y:Operand} {k:IntKind} {u v:Int} (j:o.op=.binOp .or t x y t'):BN P o [(x,.d (.lit (.int k u))),(y,.d (.lit (.int k v)))] es (.d (.lit (.int k (Dx .or k u v)))) es:=
 Kq j (fun w=>aAy) ⟨rfl,rfl⟩
def atA {t t':TypeId} {x y:Operand} {k:IntKind} {u v:Int} (j:o.op=.binOp .xor t x y t'):BN P o [(x,.d (.lit (.int k u))),(y,.d (.lit (.int k v)))] es (.d (.lit (.int k (Dx .xor k u v)))) es:=
 Kq j (fun w=>aAy) ⟨rfl,rfl⟩
def apQ {t t':TypeId} {x y:Operand} {k:IntKind} {u v:Int} (j:o.op=.binOp .andNot t x y t'):BN P o [(x,.d (.lit (.int k u))),(y,.d (.lit (.int k v)))] es (.d (.lit (.int k (Dx .andNot k u v)))) es:=
 Kq j (fun w=>aAy) ⟨rfl,rfl⟩
def gI (k:IntKind) (x:Int):Int:=Dx .xor k (if k.signed then -1 else k.max) x
def ag4 {t:TypeId} {x:Operand} {k:IntKind} {u:Int} (j:o.op=.unOp .xor t x):BN P o [(x,.d (.lit (.int k u)))] es (.d (.lit (.int k (gI k u)))) es:=
 aLi j (fun w=>by simp[Op.unary,Op.intBits,gI,Dx])
def NZ (op:BinOp) (k:IntKind) (x y:Int):Option Int:=
 if y<0 then none else some (match op with | .shl=>k.wrap (x*2^(min y.toNat k.bits))|_=>x.fdiv (2^(min y.toNat k.bits)))
def aNG {t t':TypeId} {x y:Operand} {k k':IntKind} {u v r:Int} (h:NZ .shl k u v=some r) (j:o.op=.binOp .shl t x y t'):BN P o [(x,.d (.lit (.int k u))),(y,.d (.lit (.int k' v)))] es (.d (.lit (.int k r))) es:=by
 unfold NZ at h;split at h
 ·cases h
 rename_i m;obtain rfl:=CG h;exact Kq j (fun w=>by simp[binOp,Op.shift,m]) ⟨rfl,rfl⟩
def abg {t t':TypeId} {x y:Operand} {k k':IntKind} {u v r:Int} (h:NZ .shr k u v=some r) (j:o.op=.binOp .shr t x y t'):BN P o [(x,.d (.lit (.int k u))),(y,.d (.lit (.int k' v)))] es (.d (.lit (.int k r))) es:=by
 unfold NZ at h;split at h
 ·cases h
 rename_i m;obtain rfl:=CG h;exact Kq j (fun w=>by simp[binOp,Op.shift,m]) ⟨rfl,rfl⟩
def aNN (k:IntKind) (a b:Int):Option Int:=if b=0 then none else some (k.wrap (a.tdiv b))
def Ya (a b:Int):Option Int:=if b=0 then none else some (a.tmod b)
end
section
variable {P : Program} {o : Oper} {es : List Aq} {α : Type}
def aew {ok:Nat→Prop} {w:World} {H:List BJ} {h:BJ} {e size k i off:Nat} {xs:List D} {v:Value} (O:H[k]? =some h) (u:EY ok w H h (.arr e size xs)) (hi:i<xs.length) (U:R ok w H (.kT k i off) v):
 ∃g cap j ys,h.v=.slice (some ⟨g,0,none⟩) xs.length cap∧w.heap[g]? =some (.cells j e (0,0))∧xs.length≤cap∧cap≤maxLen∧xs.length*size≤j.size∧cap*size≤j.size∧j.toList.take (xs.length*size)=ys∧ys.length=xs.length*size∧FQ ok w H (flat xs) ys∧(∀x∈xs,x.cells.length=size)∧v=.pointer (some ⟨g,i*size+off,none⟩):=by
 obtain⟨J,Y,ys,⟨Z,h4⟩,h5⟩:=u;rcases h4 with⟨q,h7⟩|⟨g,cap,j,q,h7,h8,L,z,m,I⟩
 ·omega
 refine⟨g,cap,j,ys,q,h8,L,z,EZ (JB _ L) m,m,I,Z,h5,Y,?_⟩;cases U with
 |kT _ _ _ b n c s M=>
  rw[O]at M;obtain rfl:=CG M;simp only[eI,KJ,Addr.mk.injEq]at q;simp only at J;rw[q.1.1,J]
def acQ {size n i j:Nat} (hi:i<n) (m:j<size):i*size+j<n*size:=
 calc i*size+j<i*size+size:=A8
  _=(i+1)*size:=by rw[U0]
  _≤n*size:=JB _ hi
def UO {x:Operand} {t:TypeId} {agg:Bool} {k n i off e size:Nat} {y:D} (enc:α→D) {l:List α} {a:α} (hy:y=Oy agg (enc a).cells off n) (hk:es[k]? =some (.arr e size (List.map enc l))) (ha:l[i]? =some a) (hT:Dl P t agg n) (hn:off+n≤(enc a).cells.length) (h1:agg=false→n=1)
 (ho:o.op=.load t x):BN P o [(x,.kT k i off)] es (.d y) es:=
 .pure fun ok H ac w M hl Y=>by
  have hx:=Jk Y;simp only at hx;subst hy;obtain⟨h,hh,Z⟩:=FV M hl hk;obtain⟨I,O⟩:=FB.1 ha;have m:i<(List.map enc l).length:=PK
  obtain⟨g,cap,q,ys,e1,e2,e3,e4,e5,e5',e6,e7,e8,e9,e10⟩:=aew hh Z m hx;have J:(List.map enc l).getD i D8=enc a:=by simp[List.getD,I,O]
  have hsz:(enc a).cells.length=size:=by
   refine e9 _ ?_;exact FH.2 ⟨a,by rw[←O];exact E8 I,rfl⟩
  have hfl:=QZ e9
  have u:∀j,j<size→w.cell? ⟨g,i*size+j,none⟩=some (ys.getD (i*size+j) undef):=by
   intro j L;have z:=acQ m L;have hcur:(List.map enc l).length*size≤q.size:=e5;have h15:i*size+j<q.size:=A8
   have e11:ys.getD (i*size+j) undef=q[i*size+j]'(h15):=by
    rw[←e6];have h14:i*size+j<l.length*size:=SS
    simp[List.getD,Ln h14,show i*size+j<q.size by omega]
   rw[e11];simp[World.cell?,e2,show i*size+j<q.size by omega]
  have U:∀j,j<size→((enc a).cells.getD j D8).leaf=true∧DF ok w ((enc a).cells.getD j D8) (ys.getD (i*size+j) undef):=by
   intro j L;have z:=e8.2 (i*size+j) (by rw[hfl];exact acQ m L);rw[flat_get e9 i j m L,J]at z;refine⟨z.1,?_⟩;cases z.2 with |d _ _ h=>exact h
  obtain⟨v,hr,hD⟩:=aDM (ok:=ok) (w:=w) (b:=g) (p:=i*size) (cs:=(enc a).cells) hT hn h1 (fun j L=>(U j A8).1) (fun j L=>by rw[u j A8];rfl) (fun j L=>by unfold cellAt;rw[u j A8];exact(U j A8).2);exact⟨v,by simp only[execOp,ho,e10,Ep,hr,F5,Fa],.d _ _ hD⟩
def qL {t:TypeId} {x y:Operand} {k i off n e size:Nat} (enc:α→D) {l:List α} {a a':α} {v:AV} (hk:es[k]? =some (.arr e size (List.map enc l))) (ha:l[i]? =some a) (hl:v.cells.all AV.leaf=true) (hs:∀w,(sizeOf t).run P w=.ok n w) (hn:v.cells.length=n)
 (hle:off+n≤(enc a).cells.length) (hset:(enc a').cells.map AV.d=setAt ((enc a).cells.map AV.d) off v.cells) (hc:∀b,(enc b).cells.length=size) (ho:o.op=.store t x y):
 BN P o [(x,.kT k i off),(y,v)] es .junk (es.set k (.arr e size (List.map enc (l.set i a')))):=
 .eff fun C ok H I w hm hn'=>by
  have h1:=(EL hn').1;have h2:=(EL hn').2;simp only at h1 h2;obtain⟨h,hh,hok⟩:=FV hm.ent hm.hlen hk;obtain⟨U,hia⟩:=FB.1 ha;have aCW:i<(List.map enc l).length:=Yy
  have hok1:=hok.1;obtain⟨g,cap,m,ys,e1,e2,e3,e4,e5,e5',e6,e7,e8,e9,e10⟩:=aew hh hok aCW h1;have z:=h2.ahD hl;have hll:(List.map enc l).length=l.length:=Am
  rw[hll]at e1 e3 e6 e7;have hea:(enc a).cells.length=size:=hc a;have Y:(I.eval y).cells.toList.length=n:=by rw[z.1,hn]
  have hsz:(I.eval y).cells.size=n:=Mid
  have hcur:l.length*size≤m.size:=by simpa using e5
  have hend:i*size+off+n≤l.length*size:=by
   have :(i+1)*size≤l.length*size:=JB _ U;rw[U0]at this;omega
  have hst:=aLW (P:=P) g (i*size+off) e (I.eval y).cells.toList 0 m w e2 (by rw[Y];omega) (fun u hu=>by
   obtain⟨j,J,rfl⟩:=Hf hu;have h5:=z.2 j (by rw[←z.1];exact J);have :=h5.2.leaf h5.1
   rwa [xO J]at this)
  simp only[OY]at hst;have M:∀(q:List α),∀y∈q.map enc,y.cells.length=size:=fun q y hy=>aKZ
  obtain⟨h3,h4⟩:=hm.upd (e:=.arr e size (List.map enc (l.set i a'))) (w':=w.setRow g (m.toList.take (i*size+off)++(I.eval y).cells.toList++m.toList.drop (i*size+off+(I.eval y).cells.toList.length)).toArray) hk rfl hh (by rw[e1];rfl) rfl rfl rfl aHY (fun c hc=>aF6 _ _ _ _ hc) (fun hg'=>by
   have esz:(setAt m.toList (i*size+off) (I.eval y).cells.toList).length=m.toList.length:=Ql (by have :=m.length_toList;omega);refine⟨hok1,M _,setAt ys (i*size+off) (I.eval y).cells.toList,⟨?_,.inr ⟨g,cap,_,by simp;exact e1,EK _,uQ w g m _ e (0,0) e2,by simpa using e3,e4,?_,?_⟩⟩,?_⟩
   ·rw[Ql A8];simpa using e7
   ·have h9:(setAt m.toList (i*size+off) (I.eval y).cells.toList).toArray.size=m.size:=by rw[Zo,esz];simp
    show _≤(setAt m.toList (i*size+off) (I.eval y).cells.toList).toArray.size;rw[h9];exact e5'
   ·rw[aBg];show(setAt m.toList (i*size+off) (I.eval y).cells.toList).take _=_;rw[←e6];have hlen':(List.map enc (l.set i a')).length=l.length:=Am
    rw[hlen'];apply Yl;intro j;have hcl:=m.length_toList;by_cases J:j<l.length*size
    ·have a1:((setAt m.toList (i*size+off) (I.eval y).cells.toList).take (l.length*size))[j]? =some ((setAt m.toList (i*size+off) (I.eval y).cells.toList).getD j undef):=by
      rw[Ln J];simp[List.getD,show j<(setAt m.toList (i*size+off) (I.eval y).cells.toList).length by rw[esz];omega]
     have tl:(m.toList.take (l.length*size)).length=l.length*size:=DK
     have sl:(setAt (m.toList.take (l.length*size)) (i*size+off) (I.eval y).cells.toList).length=l.length*size:=by rw[Ql A8,tl]
     have a2:(setAt (m.toList.take (l.length*size)) (i*size+off) (I.eval y).cells.toList)[j]? =some ((setAt (m.toList.take (l.length*size)) (i*size+off) (I.eval y).cells.toList).getD j undef):=by
      simp[List.getD,show j<(setAt (m.toList.take (l.length*size)) (i*size+off) (I.eval y).cells.toList).length by omega]
     rw[a1,a2,WG A8,WG A8];congr 1;split
     ·rfl
     simp[List.getD,Ln J]
    have tl:(m.toList.take (l.length*size)).length=l.length*size:=DK
    have sl:(setAt (m.toList.take (l.length*size)) (i*size+off) (I.eval y).cells.toList).length=l.length*size:=by rw[Ql A8,tl]
    rw[Gu DK,Gu A8]
   have hb:=e8.mono hg' (Names.refl H);have hcr:=z.mono hg' (Names.refl H);have hfl:=QZ (M l);have Z:=QZ (M (l.set i a'));refine⟨by rw[Ql A8,e7,Z];simp,fun j J=>?_⟩;rw[Z]at J;simp only[C9,Zx]at J
   have hpos:0<size:=by
    rcases Xv size with h0|h0
    ·rw[h0,Nat.mul_zero]at J;omega
    exact h0
   have e0:j=j/size*size+j % size:=by rw[Tj];exact(aCc j size).symm
   have hq:j/size<l.length:=jU (by rwa [Tj]at J);have hr:j % size<size:=cD _ hpos
   have hdiv:j/size=i↔i*size≤j∧j<i*size+size:=by
    rw[Nat.div_eq_iff hpos,Tj];omega
   rw[Y]at hb hcr;generalize j/size=qd at e0 hq hdiv;generalize j % size=L at e0 hr;have hg3:=flat_get (M (l.set i a')) qd L (by simpa using hq) hr;rw[←e0]at hg3;have hg1:=flat_get (M l) qd L (by simpa using hq) hr;rw[←e0]at hg1;rw[hg3,WG A8,Y];by_cases O:qd=i
   ·have hnew:(List.map enc (l.set i a')).getD (qd) D8=enc a':=by rw[O];simp[List.getD,U]
    have hold:(List.map enc l).getD (qd) D8=enc a:=by rw[O];simp[List.getD,U,hia]
    rw[hnew];have aDE:(enc a').cells.length=size:=hc a'
    have e11:AV.d ((enc a').cells.getD (L) D8)=(setAt ((enc a).cells.map AV.d) off v.cells).getD (L) .junk:=by
     rw[←hset];simp[List.getD,show L<(enc a').cells.length by omega]
    rw[e11,WG (by rw[C9,hn];exact hle),hn];have hji:j=i*size+L:=by rw[←O];exact e0
    by_cases hin:off≤L∧L<off+n
    ·rw[CJ hin,CJ A8];have :j-(i*size+off)=L-off:=A8
     rw[this];exact hcr.2 _ A8
    rw[CU hin,CU A8];have e12:((enc a).cells.map AV.d).getD (L) .junk=.d ((enc a).cells.getD (L) D8):=by simp[List.getD,show L<(enc a).cells.length by omega]
    rw[e12,←hold,←hg1];exact hb.2 j (by rw[hfl];simpa using J)
   have hsame:(List.map enc (l.set i a')).getD (qd) D8=(List.map enc l).getD (qd) D8:=by
    simp[List.getD,XT (Ne.symm O)]
   have hnot:¬(i*size+off≤j∧j<i*size+off+n):=by
    rintro⟨ha1,ha2⟩;exact O (hdiv.2 ⟨A8,A8⟩)
   rw[CU hnot,hsame,←hg1]
   exact hb.2 j (by rw[hfl];simpa using J))
  refine⟨undef,_,ok,H,.inr ⟨rfl,?_⟩,h4,.refl _,h3,.junk _⟩;simp only[execOp,ho,e10,Instr.storeAt,Instr.sureAddr,storeVar,Ep,Fa,F5,hs,hsz,ne_eq,not_true_eq_false,JC,hst]
end
def AV.Rz (k:Nat) (cs:List D):AV→AV
 | .ptr j off=>if j=k then .d (.ref cs off)else .ptr j off
 |x=>x
def Aj.Rz (σ:Aj) (k:Nat) (cs:List D):Aj:=⟨σ.slots.map (AV.Rz k cs),σ.ents.set k .dead,σ.base⟩
def Tn {σ:Aj} (k:Nat) {cs:List AV} (hk:σ.ents[k]? =some (.box cs)) (hd:cs.all AV.yR=true):∀C ok H a w,Holds C ok H σ a w→∃ok',Holds C ok' H (σ.Rz k (IG cs)) a w:=by
 intro C ok H a w m;obtain⟨h,M,hok⟩:=FV m.mem.ent m.mem.hlen hk;have z:k<σ.ents.length:=(FB.1 hk).1;obtain⟨b0,O,hf,hx,hc⟩:=aNO hok hd
 let ok':Nat→Prop:=fun b=>ok b∨Cb h.v=some b
 have L:=fun b q=>m.mem.blk k _ h b hk rfl M q;have hg:Dz ok w ok' w:=fun b q=>⟨.inl q,rfl⟩
 refine⟨ok',⟨m.mem.fr,fun b q=>.inl (m.mem.xu b q),?_,?_,m.mem.names,by simp[Aj.Rz,m.mem.hlen],?_,?_,?_⟩,by simp[Aj.Rz,m.size],m.defers.mono hg,m.base,?_⟩
 ·rintro b (q|q)
  ·exact m.mem.xw b q
  exact .inr (L b q).2.2
 ·rintro b (q|q)
  ·exact m.mem.jM b q
  exact(L b q).2.1
 ·intro j e' h' he I;rcases LD z he with⟨rfl,rfl⟩|⟨_,J⟩
  ·trivial
  exact(m.mem.ent j e' h' J I).mono hg (.refl _) (fun _ _ _=>rfl)
 ·intro j e' h' b he hl I q;rcases LD z he with⟨rfl,rfl⟩|⟨hne,J⟩
  ·cases hl
  have h3:=m.mem.blk j e' h' b J hl I q;refine⟨fun u=>?_,h3.2⟩;rcases u with u|u
  ·exact h3.1 u
  exact hne (m.mem.Dp j k e' _ h' h b J hk hl rfl I M q u)
 ·intro i j e1 e2 h1 h2 b he1 he2 U Y hh1 hh2 hb1 hb2;rcases LD z he1 with⟨rfl,rfl⟩|⟨_,Z⟩
  ·cases U
  rcases LD z he2 with⟨rfl,rfl⟩|⟨_,apj⟩
  ·cases Y
  exact m.mem.Dp i j e1 e2 h1 h2 b Z apj U Y hh1 hh2 hb1 hb2
 intro t ht;simp only[Aj.Rz,C9]at ht
 have e1:(σ.Rz k (IG cs)).slots.getD t .junk=(σ.slots.getD t .junk).Rz k (IG cs):=by
  simp only[Aj.Rz];exact TS _ _ _ ht
 rw[e1];have hR:=(m.slot t ht).mono hg (Names.refl H);generalize σ.slots.getD t .junk=x at hR ⊢;generalize a.tmps.getD t undef=v at hR ⊢;cases x with
 |ptr j off=>
  simp only[AV.Rz];split
  ·rename_i hj;subst hj;cases hR with
   |ptr _ _ b s hH=>
    rw[M]at hH;obtain rfl:=CG hH;simp at O;subst O;have :=DF.ref (ok:=ok') (w:=w) (IG cs) off b 0 (fun _=>.inr rfl) hf hx (fun j hj=>(hc j hj).mono hg);rw[Ic]at this;exact .d _ _ this
  exact hR
 |_=>exact hR
section
variable {P : Program} {o : Oper} {es : List Aq} {α β γ : Type}
def iy {ok:Nat→Prop} {w:World} {H:List BJ} {a:Act}:∀{xs:List Operand} {vs:List AV},xs.length=vs.length→(∀n∈Em xs vs,R ok w H n.2 (a.eval n.1))→∀i,i<vs.length→R ok w H (vs.getD i .junk) ((xs.map a.eval).getD i undef)
 | [],[],_,_,i,hi=>MO
 | [],_::_,h,_,_,_=>Gv
 |_::_,[],h,_,_,_=>Gv
 |x::xs,v::vs,h,j,0,_=>by simpa using j (x,v) (by simp[Em])
 |x::xs,v::vs,h,j,i+1,hi=>by
  have :=iy JU (fun n m=>j n (by simp[Em,m])) i FU;simpa using this
def UW {fn:Fn} {j:Array Operand} (m:List D) (hl:j.toList.length=m.length) (z:o.op=.makeFunc fn #[] j):BN P o (Em j.toList (m.map .d)) es (.d (.fn fn [] m)) es:=
 .pure fun ok H a w _ _ I=>by
  refine⟨.func fn #[] (j.map a.eval),by simp[execOp,z,Instr.makeFunc],.d _ _ (.fn fn [] m #[] _ rfl Ko (fun i hi=>MO) (fun i hi=>?_))⟩;have u:=iy (xs:=j.toList) (vs:=m.map .d) Ko I i FU;have J:(m.map AV.d).getD i .junk=.d (m.getD i D8):=LX
  have q:i<j.size:=by have :j.size=m.length:=Ko
                      omega
  have L:(j.toList.map a.eval).getD i undef=(j.map a.eval).getD i undef:=by simp[List.getD,Array.getD,q]
  rw[J,L]at u;cases u with |d _ _ h=>exact h
def ab6 {f:FuncId} {C:Dw} {ok:Nat→Prop} {H:List BJ} {w:World} (L:CS C ok H es w) {u:List D} {q:AV} (Z:Ap P f (u.map .d) [] q []) (m:Array Value) (hs:m.size=u.length) (O:∀i,i<u.length→DF ok w (u.getD i D8) (m.getD i undef)) (I:q.up [] es.length=q):
 Calls P f m w fun e w'=>∃v ok' H',e=.returned v∧Dz ok w ok' w'∧Names H H'∧CS C ok' H' es w'∧R ok' w' H' q v:=by
 have U:CS ⟨w,ok,[],[]⟩ ok [] [] w:=
  ⟨.refl _ _,fun _ h=>h,fun _ h=>.inl h,L.jM,.refl _,rfl,fun k e h z _=>by simp at z,fun k e h b z=>by simp at z,fun k k' e e' h h' b z=>by simp at z⟩
 refine(Z ok [] [] w m U nZ (fun i hi=>?_)).mono ?_
 ·have J:i<u.length:=FU
  have e1:(u.map AV.d).getD i .junk=.d (u.getD i D8):=by simp[List.getD,J]
  rw[e1];exact .d _ _ (O i J)
 rintro e w' ⟨v,ok',H',rfl,j,hR⟩;have Y:H'=[]:=GN j.hlen
 obtain⟨h1,h2⟩:=L.change (ok':=ok') (H':=H) (es':=es) (w':=w') (fun _=>False) j.fr.os j.fr.tape j.fr.output j.fr.size (fun b M _=>j.fr.block b M Am) (fun _ h=>h.elim) j.xu (fun b M=>by
  rcases j.xw b M with h|h|h
  ·exact .inl h
  ·exact .inr ⟨h,j.jM b M⟩
  simp at h) (.refl _) L.hlen (fun k e h z hh=>.inl ⟨z,hh,fun _ _ _ h=>h⟩)
 refine⟨v,ok',H,rfl,h2,.refl _,h1,?_⟩;have :=aOJ (srcs:=[]) (H:=H) (Hc:=[]) (H':=H') rfl (fun i k h=>Gv) (fun k v O=>by simp at O) hR;rw[L.hlen,I,Y]at this;simpa using this
def aOn {f:FuncId} {x:Operand} {ops:Array Operand} {ats:Array TypeId} (j cs:List D) {m:AV} (hr:Ap P f ((j++cs).map .d) [] m []) (hf:DV P f=true) (hl:ops.toList.length=j.length) (I:m.up [] es.length=m)
 (ho:o.op=.call { callee:=.value x,args:=ops,argTypes:=ats }):BN P o ((x,.d (.fn (.func f) [] cs))::Em ops.toList (j.map .d)) es m es:=by
 intro C ok H a w Q hm hn;have M:=hn (x,.d (.fn (.func f) [] cs)) Am;simp only at M;have u:=iy (xs:=ops.toList) (vs:=j.map .d) Ko (fun n O=>hn n (Ez _ O));generalize hv:a.eval x=v at M;cases M with
 |d _ _ h=>
  cases h with
  |fn _ _ _ vs us U Y h1 h2=>
   have Z:vs= #[]:=Yx Yy;subst Z;unfold Oper.wp
   have he:(execOp a.eval o).run P w=.ok (.enter f ((ops.map a.eval)++us)) w:=by
    have :=RI hf (ops.map a.eval++us) w;simp[execOp,ho,resolve,hv,Deferred.ofValue,invoke,this]
   rw[he,ZE];have J:(ops.map a.eval).size=j.length:=Ko
   refine(ab6 hm hr _ (by simp[J,Y]) (fun i hi=>?_) I).mono ?_
   ·by_cases q:i<j.length
    ·have L:=u i MV;have e1:(j.map AV.d).getD i .junk=.d (j.getD i D8):=aIs
     have z:i<ops.size:=adS
     have e2:(ops.toList.map a.eval).getD i undef=(ops.map a.eval++us).getD i undef:=by
      simp[List.getD,Gj,Yq,z]
     have e3:(j++cs).getD i D8=j.getD i D8:=by simp[List.getD,Fv q]
     rw[e1,e2]at L;rw[e3];cases L with |d _ _ h=>exact h
    have z:i-j.length<cs.length:=aHW
    have e3:(j++cs).getD i D8=cs.getD (i-j.length) D8:=by simp[List.getD,J3 (TN q)]
    have e4:(ops.map a.eval++us).getD i undef=us.getD (i-j.length) undef:=by
     simp only[Gj];rw[aLZ A8,J]
    rw[e3,e4];exact h2 _ z
   rintro e w' ⟨v,ok',H',rfl,L,h4,h5,h6⟩;exact⟨v,ok',H',rfl,L,h4,h5,h6⟩
def SQ (P:Program) (j:α→D) (m:β→D) (d:D) (g:α→Option β):Prop:=∃f cs,d=.fn (.func f) [] cs∧DV P f=true∧∀a b,g a=some b→Ap P f (([j a]++cs).map .d) [] (.d (m b)) []
def Ur (P:Program) (j:α→D) (m:β→D) (q:γ→D) (d:D) (g:α→β→Option γ):Prop:=∃f cs,d=.fn (.func f) [] cs∧DV P f=true∧∀a b c,g a b=some c→Ap P f (([j a,m b]++cs).map .d) [] (.d (q c)) []
def rF {x y:Operand} {ats:Array TypeId} {j:α→D} {m:β→D} {d:D} {g:α→Option β} {a:α} {b:β} (hd:SQ P j m d g) (h:g a=some b) (q:o.op=.call { callee:=.value x,args:= #[y],argTypes:=ats }):
 BN P o [(x,.d d),(y,.d (j a))] es (.d (m b)) es:=by
 obtain⟨f,cs,rfl,u,z⟩:=hd;exact aOn [j a] cs (z a b h) u rfl rfl q
def Wi {x y z:Operand} {ats:Array TypeId} {j:α→D} {m:β→D} {q:γ→D} {d:D} {g:α→β→Option γ} {a:α} {b:β} {c:γ} (hd:Ur P j m q d g) (h:g a b=some c) (u:o.op=.call { callee:=.value x,args:= #[y,z],argTypes:=ats }):
 BN P o [(x,.d d),(y,.d (j a)),(z,.d (m b))] es (.d (q c)) es:=by
 obtain⟨f,cs,rfl,I,J⟩:=hd;exact aOn [j a,m b] cs (J a b c h) I rfl rfl u
end
end Go.Proofs.YtkkdimcnpacjhaaGreat
end
