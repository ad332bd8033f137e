/- Part 1 of the laws' proofs (short forms by wip/shrink2.py). -/
import Derived.Test.YtkkdimcnpacjhaaGreatRows
import Derived.WalkSpells
import Derived.WalkLawsBesides
import Derived.Lib.Hide
import Derived.Laws.AppendOwnNone
import Derived.Laws.CopyOwn
import Derived.RangeFuncRecord
import Derived.Lib.OwnBridge
import Derived.Sort.OwnSortedInts
import Derived.ProofKit
import Derived.Shelf.Small.Strs
import Derived.Shelf.Strings.Shaped
import Derived.Shelf.Sort.Plain
import Derived.Shelf.Slices.Turned
import Derived.Shelf.Slices.Clone
import Derived.Shelf.Slices.Cells
import Derived.Shelf.Slices.In.SortNone
import Derived.Shelf.Slices.Empties
import Derived.Shelf.SlicesE.Clone
import Derived.Shelf.SlSortCmp.NoneTotal
import Derived.Shelf.Spec.SlicesInsertGrow
import Derived.StillTailTactics
set_option linter.defProp false
set_option linter.unnecessarySimpa false
set_option linter.unusedSectionVars false
set_option linter.unusedVariables false
set_option linter.unusedSimpArgs false
namespace Go.Proofs.YtkkdimcnpacjhaaGreat
open Go.RowKit Go.Proofs.Tryz
abbrev A8.{u}:=List.{u}
abbrev AL.{u}:=Option.{u}
abbrev BD:=ByteArray
abbrev Au:=Value
abbrev BU:=World
abbrev C9.{u}:=Array.{u}
abbrev CM:=Operand
abbrev Ce:=Program
abbrev CG:=TypeId
abbrev AZ:=Bool
abbrev AQ (n:Nat):Nat×AZ:=(n,true)
def Ad:=@Option.bind_some
def BX:=@cond_false
def BK:=@congrArg
def Dt:=@Nat.le_of_ble_eq_true
def Bz:=@cond_true
def EL:=@List.getElem?_eq_getElem
def Dc:=@List.length_map
def En:=@List.length_append
def Du:=@Bool.and_eq_true
def Dq:=@Option.some.inj
def QO:=@List.length_singleton
def GH:=@List.getElem?_eq_some_iff
def Hg:=@List.eq_nil_of_length_eq_zero
def El:=@List.all_eq_true
def H6:=@Array.getElem?_eq_some_iff
def Ew:=@List.getElem_mem
def Hu:=@List.getElem?_append_left
def Fh:=@List.mem_map
def GK:=@List.length_take
def Gg:=@List.take_length
def J8:=@Array.getD_eq_getD_getElem?
def GY:=@Go.Result.andThen_ok
def G5:=@List.not_mem_nil
def FB:=@Bool.not_true
def EZ:=@Nat.le_refl
def Ea:=@Nat.zero_le
def GR:=@Go.Proofs.Tryz.underlying3
def FK:=@List.mem_cons
def FC:=@Nat.le_trans
def H8:=@List.mem_cons_self
def IG:=@List.mem_cons_of_mem
def Di:=@if_pos
def I5:=@List.getElem_of_mem
def HY:=@List.length_cons
def J5:=@List.getElem?_eq_none
def Dp:=@if_neg
def Gt:=@List.foldl_cons
def KC:=@List.pairwise_iff_getElem
def Kt:=@List.getElem?_append_right
def I8:=@decide_eq_true_eq
def G6:=@Go.Sem.run_bind
def Jr:=@List.length_filter_le
def Ot:=@List.take_succ_eq_append_getElem
def Hy:=@List.mem_filter
def Gw:=@Bool.true_and
def Lh:=@List.drop_eq_getElem_cons
def Ol:=@Array.getElem?_setIfInBounds_ne
def Iq:=@List.nil_append
def J6:=@Go.Proofs.Tryz.underlying39
def Iu:=@List.any_eq_true
def Gy:=@Go.Sem.run_pure
def NC:=@List.getElem?_take_of_lt
def Iy:=@List.mem_append
def JB:=@Go.Proofs.Tryz.underlying9
def Jg:=@List.getElem?_map
def Jd:=@List.append_assoc
def NM:=@List.length_nil
def KI:=@of_decide_eq_false
def MB:=@Nat.mul_le_mul_right
def L6:=@List.length_drop
def JQ:=@Option.map_some
def JK:=@decide_eq_false
def JC:=@Bool.not_false
def JG:=@decide_eq_true
def Rk:=@Nat.add_assoc
def UW:=@Array.all_eq_true_iff_forall_mem
def Kq:=@Go.RowKit.Below.heap_alloc
def Md:=@List.mem_singleton
def Lj:=@Go.Proofs.Tryz.underlying28
def JR:=@List.map_cons
def ND:=@Bool.not_eq_true'
def Mc:=@Option.some.injEq
def LP:=@List.map_append
def P8:=@Array.getElem?_modify
def NP:=@Go.Proofs.Tryz.underlying30
def Qv:=@decide_eq_false_iff_not
def OD:=@List.flatMap_cons
def YE:=@Nat.add_comm
def SP:=@Option.isSome_iff_exists
def Qj:=@List.take_of_length_le
def NY:=@List.nodup_cons
def Py:=@List.filter_append
def WT:=@Array.eq_empty_of_size_eq_zero
def Pj:=@List.pairwise_cons
def QM:=@List.filterMap_cons
def Kz:=@Nat.zero_add
def Rz:=@Go.MapKept.run_getObj_map
def ML:=@Bool.or_false
def Oq:=@Option.getD_some
abbrev Aw:=IntKind.i64.wrap
def bg (n:Int):Aw n=(n+9223372036854775808)%18446744073709551616-9223372036854775808:=Go.IntKind.wrap_i64 n
def Rs:=@List.take_append_drop
def Qo:=@List.filter_sublist
def Pm:=@Bool.not_eq_true
def PZ:=@List.drop_length
def QG:=@bne_self_eq_false
def Qa:=@Go.Proofs.Tryz.underlying32
def Qq:=@Bool.false_eq_true
def RD:=@Option.toList_some
def SE:=@beq_eq_false_iff_ne
def PK:=@List.append_nil
def Ph:=@Bool.eq_iff_iff
def Nr:=@Bool.false_or
def Nq:=@Bool.and_true
def Uu:=@Option.map_eq_some_iff
def YU:=@Array.getElem?_append_left
def SG:=@of_decide_eq_true
def UQ:=@List.getElem?_drop
def WQ:=@Go.World.putObj_heap_same
def Rn:=@List.filter_cons
def TW:=@beq_self_eq_true
def Uo:=@Array.length_toList
def Wy:=@Array.getElem?_toList
def Tj:=@List.findIdx_cons
def UG:=@List.take_add_one
def KP:=@if_false
def Z4:=@Go.World.putObj_heap_other
def dZ:=@List.getElem?_set_ne
def VA:=@List.mem_filterMap
def WZ:=@List.mem_of_getElem?
def PE:=@Nat.add_zero
def Ur:=@Nat.lt_of_lt_of_le
def PL:=@Bool.or_true
def U6:=@Go.Proofs.Tryz.underlying4
def TV:=@List.getElem_map
def aS:=@Classical.byContradiction
def ZY:=@List.mem_of_find?_eq_some
def Ve:=@List.foldl_append
def RV:=@Prod.mk.injEq
def S9:=@Go.Oper.wpIn_mono
def XP:=@Nat.eq_zero_or_pos
def VU:=@Nat.le_of_not_lt
def Ui:=@List.foldlM_cons
def ZA:=@Bool.or_eq_false_iff
def vI:=@List.takeWhile_append_dropWhile
def Ku:=@if_true
def PU:=@beq_iff_eq
def nO:=@Array.getElem?_eq_getElem
def VD:=@List.find?_cons
def Zw:=@List.filterMap_append
def Vy:=@List.mem_flatMap
def WO:=@Nat.lt_succ_self
def au:=@Array.toArray_toList
def QZ:=@Go.wpS_region
def mX:=@Option.bind_eq_some_iff
def Za:=@List.length_pos_iff
def pI:=@List.getD_eq_getElem?_getD
def XD:=@Go.heap_alloc_new
def ZN:=@Bool.or_eq_true
def Uk:=@Nat.succ_mul
def Uf:=@Nat.mul_comm
def lN:=@List.mem_of_mem_take
def lM:=@List.pairwise_append
def jH:=@Go.World.alloc_heap_new
def iR:=@List.mem_append_left
def cD:=@List.pairwise_map
def ZX:=@Int.toNat_natCast
def Zt:=@List.find?_append
def nC:=@List.filter_eq_self
def aF:=@List.cons_append
def rP:=@List.filter_eq_nil_iff
def tC:=@List.findIdx_le_length
def qM:=@List.findIdx_lt_length
def jE:=@Go.Proofs.Tryz.underlying108
def mF:=@Go.Proofs.Tryz.underlying111
def dU:=@Go.Oper.upon_enter
def Zk:=@Go.run_equalIn_int
def tZ:=@Bool.and_eq_false_iff
def a1i:=@List.nodup_iff_pairwise_ne
def jl:=@Go.Value.slice.injEq
def kX:=@List.size_toArray
def kN:=@List.ext_getElem?
def iW:=@Go.Proofs.Tryz.underlying35
def kP:=@List.getElem_take
def iO:=@List.getElem_drop
def jS:=@Go.Proofs.Tryz.underlying23
def gZ:=@Go.Proofs.Tryz.underlying37
def yg:=@Nat.div_lt_of_lt_mul
def Uz:=@bne_iff_ne
def qY:=@List.mem_of_mem_drop
def aH6:=@List.set_eq_take_append_cons_drop
def Yi:=@Int.le_refl
def bY:=@List.nodup_nil
def QT:=@Go.wpS_seq
def cV:=@Go.wp_region_list
def Yx:=@List.map_map
def Y1:=@getElem!_pos
def kK:=@Go.IntKind.wrap_u64
def jU:=@decide_eq_decide
def aC2:=@List.getElem?_cons_succ
def aK:=@List.map_take
def Zm:=@List.any_cons
def kC:=@List.length_set
def Ua:=@Go.wpIn_mono
def nG:=@Go.Proofs.Tryz.zeroValue3
def zy:=@Array.ext_getElem?
def jv:=@beq_false_of_ne
def oC:=@Go.IntKind.wrap_u8
def aDF:=@List.drop_of_length_le
def aC1:=@ByteArray.size_extract
def xM:=@Function.comp_def
def sJ:=@Go.Proofs.Tryz.underlying22
def aV:=@Nat.le_of_eq
def lg:=@List.drop_zero
def aJ0:=@Array.getElem?_setIfInBounds
def aFd:=@List.mem_append_right
def aNo:=@Array.getElem?_append_right
def wG:=@List.ext_getElem
def yw:=@Go.Proofs.Tryz.underlying5
def aAv:=@List.findIdx_getElem
def mJ:=@Go.Oper.semAt_eq
def iC:=@List.map_drop
def aH:=@Nat.mul_one
def a0W:=@List.toList_toArray
def aJ7:=@Array.mapM_eq_mapM_toList
def rC:=@Go.Proofs.Tryz.zeroValue5
def uQ:=@Go.Proofs.Tryz.zeroValue9
def sV:=@Go.Proofs.Tryz.zeroValue4
def aIv:=@List.getElem_append_left
def l7:=@Go.Proofs.Tryz.sizeOf3
def aEq:=@Go.Proofs.Tryz.underlying148
def aD5:=@Go.Proofs.Tryz.underlying212
def a1g:=@Array.extract_size
def aGJ:=@List.length_filterMap_le
def aAW:=@List.find?_eq_none
def zK:=@List.mem_range
def qV:=@List.take_zero
def aI0:=@List.getElem?_replicate
def aGk:=@List.getElem?_cons_zero
def aEE:=@Go.World.ownsRow_nil
def aAD:=@Go.Proofs.Tryz.zeroValue148
def aEF:=@Go.Proofs.Tryz.zeroValue212
def aC6:=@Nat.lt_trichotomy
def aCT:=@List.nodup_append
def aA1:=@List.drop_sublist
def a1e:=@Go.Proofs.Tryz.underlying24
def aRu:=@List.findIdx?_eq_some_iff_getElem
def ku:=@Nat.add_mul
def aNK:=@List.dropWhile_sublist
def jC:=@Go.Proofs.Tryz.isAgg3
def aJV:=@List.not_of_lt_findIdx
def yE:=@List.all_cons
def aFW:=@Go.Proofs.Tryz.underlying0
def aEi:=@List.perm_middle
def aIs:=@Nat.eq_of_beq_eq_true
def aFX:=@Nat.div_add_mod
def lQ:=@Nat.mod_lt
def aGS:=@Array.ext'
def rJ:=@Go.Proofs.Tryz.sizeOf5
def zo:=@Go.Proofs.Tryz.sizeOf9
def qX:=@Go.Proofs.Tryz.sizeOf4
def aD9:=@Go.Proofs.Tryz.zeroValue0
def aFP:=@Option.map_none
def aYR:=@List.Nodup.length_le_of_subset
def xG:=@Nat.lt_or_ge
def rU:=@Bool.not_not
def aMd:=@List.map_congr_left
def aLx:=@Go.callsIn_of_wp_marks
def aIB:=@Go.Lib.strCells_length
def aGw:=@List.reverse_append
def aCG:=@List.take_left
def a0N:=@Go.Proofs.Tryz.sizeOf148
def a1a:=@Go.Proofs.Tryz.sizeOf212
def a0R:=@Nat.mul_le_mul
def yt:=@Go.setRow_heap
def yx:=@Go.Sem.run_map
def oK:=@Go.Proofs.Tryz.isAgg5
def yB:=@Go.Proofs.Tryz.isAgg9
def qG:=@Go.Proofs.Tryz.isAgg4
def iH:=@Array.ext
def aKs:=@Int.natCast_nonneg
def aGq:=@Go.MapKept.heap_alloc
def aLT:=@List.filterMap_nil
def aIu:=@Option.toList_none
def aO2:=@Nat.eq_or_lt_of_le
def aTw:=@Array.toList_setIfInBounds
def aOz:=@List.dropWhile_cons_of_pos
def aVp:=@List.dropWhile_cons_of_neg
def aB3:=@Go.callsD_of_wpS
def aUO:=@List.getElem?_take_eq_none
def aVu:=@Int.fdiv_eq_ediv_of_nonneg
def aOp:=@Int.tmod_eq_emod_of_nonneg
def aOE:=@Go.run_storeCells_at
def aFv:=@List.take_sublist
def aPg:=@List.getElem_append_right
def aYA:=@List.getElem?_zip_eq_some
def aRJ:=@Go.wpIn_region_list
def aIz:=@List.take_append
def iY:=@or_false
def aLv:=@Go.World.size_alloc
def Mem:=@List.map_set
def jD:=@Go.wpS_cond
def aK5:=@List.flatMap_map
def aKG:=@List.getElem_zip
def aNH:=@List.map_reverse
def aMf:=@Nat.min_le_left
def aJn:=@Nat.min_eq_left
def aGz:=@List.cons.injEq
def aIe:=@List.find?_some
def aGh:=@List.any_append
def aKM:=@List.drop_drop
def aLC:=@Bool.false_and
abbrev Dj:=Value.int .i64
section
variable {p:Prop}
def AA (h:p:=by kernel_rfl):p:=h
def AB (h:p:=by omega):p:=h
def Cj (h:p:=by cases h;exact .ret (FQ [])):p:=h
def D7 (h:p:=by cases h;kernel_rfl):p:=h
def Bj (h:p:=by decide):p:=h
def Bh (h:p:=by simp):p:=h
def Qi (h:p:=by cases h;exact .ret (FQ [AQ 0])):p:=h
def GZ (h:p:=by simp only[QO];omega):p:=h
def EW (h:p:=by simp;omega):p:=h
def KX (h:p:=by cases h;exact .ret (FQ [AQ 2])):p:=h
def LU (h:p:=by cases h;exact .ret (FQ [AQ 1])):p:=h
def Gs (h:p:=by simpa using hi):p:=h
def Xk (h:p:=by rw[←CV h];exact⟨[],[AQ 0],trivial,by kernel_rfl,by kernel_rfl,by kernel_rfl⟩):p:=h
def N8 (h:p:=by simpa using z):p:=h
def Nj (h:p:=by obtain⟨a,_,rfl⟩:=Fh.1 j;rfl):p:=h
def aUn (h:p:=by rintro s ⟨j,hs,h⟩;exact Bv.sub hs<|AY<|Bv.ret<|by rw[←CV h];exact⟨[IX j],[],⟨⟨0,BP (Ez j),true,9,by kernel_rfl,by kernel_rfl,by kernel_rfl,YF,Dt (by kernel_rfl),(by intro q;cases q),by kernel_rfl⟩,trivial⟩,by kernel_rfl,by kernel_rfl,by kernel_rfl⟩):p:=h
def aQb (h:p:=by rw[←CV h];exact⟨[DC DI,Ag false],[],⟨⟨0,BP (BI DI),true,29,by kernel_rfl,by kernel_rfl,by kernel_rfl,D9,Dt (by kernel_rfl),(by intro q;cases q),by kernel_rfl⟩,Gh (by kernel_rfl),trivial⟩,by kernel_rfl,by kernel_rfl,by kernel_rfl⟩):p:=h
def aSD (h:p:=by rw[←CV h];exact⟨[DC z,Ag true],[],⟨⟨0,BP (BI z),true,29,by kernel_rfl,by kernel_rfl,by kernel_rfl,D9,Dt (by kernel_rfl),(by intro q;cases q),by kernel_rfl⟩,Gh (by kernel_rfl),trivial⟩,by kernel_rfl,by kernel_rfl,by kernel_rfl⟩):p:=h
def Ko (h:p:=by intro j;cases j):p:=h
def N7 (h:p:=by intro hh;cases hh):p:=h
def aq3 (h:p:=by rw[←CV h];exact⟨[IX j],[],⟨⟨0,BP (Ez j),true,9,by kernel_rfl,by kernel_rfl,by kernel_rfl,YF,Dt (by kernel_rfl),(by intro q;cases q),by kernel_rfl⟩,trivial⟩,by kernel_rfl,by kernel_rfl,by kernel_rfl⟩):p:=h
def Nh (h:p:=by simp[List.getD,hi]):p:=h
def KY (h:p:=by simpa using h):p:=h
def Ov (h:p:=by decide+kernel):p:=h
def La (h:p:=by rw[En];omega):p:=h
def Ox (h:p:=by simp[underlying,ht]):p:=h
def NG (h:p:=by simpa using hl):p:=h
def Ip (h:p:=by simp at h):p:=h
def zq (h:p:=by have :=hb (k+1) y (by simpa using z);simpa[Rk,YE 1 k]using this):p:=h
def oQ (h:p:=by have :=hl (k+1) (by simpa using hk);simpa[Rk,YE 1 k]using this):p:=h
def zM (h:p:=by have :=M (k+1) y (by simpa using z);simpa[Rk,YE 1 k]using this):p:=h
def zG (h:p:=by have :=O (k+1) y (by simpa using z);simpa[Rk,YE 1 k]using this):p:=h
def Ib (h:p:=by cases h):p:=h
def uN (h:p:=by cases h;exact .ret (FQ [AQ 0,AQ 1,AQ 2,AQ 3])):p:=h
def PD (h:p:=by rw[←hm.hlen];simp):p:=h
def Vp (h:p:=by intro q;cases q):p:=h
def Uh (h:p:=by simp only[En,QO];omega):p:=h
def WG (h:p:=by obtain⟨a,_,rfl⟩:=Fh.1 hx;rfl):p:=h
def kE (h:p:=by cases h;exact .ret (FQ [(0,false),AQ 1])):p:=h
def aRe (h:p:=by rintro s ⟨J,hs,h⟩;exact Bv.sub hs<|BH h (fun h=>AY<|by cases h;exact .ret (FQ [])) fun h=>AY<|by cases h;exact .ret (FQ [])):p:=h
def gV (h:p:=by have :Ap=9223372036854775808:=rfl;omega):p:=h
def OQ (h:p:=by simpa using q):p:=h
def VO (h:p:=by simp only[NM];omega):p:=h
def YB (h:p:=by first|exact u|kernel_rfl):p:=h
def aRP (h:p:=by unfold Func.isWrapper;first|(rw[Di (by decide+kernel)];kernel_rfl)|(rw[Dp (by decide+kernel)];exact⟨rfl,rfl⟩)):p:=h
def aUX (h:p:=by rw[←CV h];exact⟨[],[AQ 0,AQ 1,AQ 2,AQ 3],trivial,by kernel_rfl,by kernel_rfl,by kernel_rfl⟩):p:=h
def mP (h:p:=by simp[Act.eval,Array.replicate]):p:=h
def QF (h:p:=by rw[hl];rfl):p:=h
def aWC (h:p:=by subst e;have h:=i;exact .a 2<|AP h fun J u h=>.mg 12 3 (Ag J) (.bi u)<|.aW<|by cases h;kernel_rfl):p:=h
def SS (h:p:=by simpa using J):p:=h
def SH (h:p:=by simpa using e):p:=h
def PV (h:p:=by simp at hi):p:=h
def X0 (h:p:=by rw[Ij]at h;exact h):p:=h
def Z5 (h:p:=by rw[Ij];exact aH0 hs):p:=h
def UR (h:p:=by simpa using I):p:=h
def QE (h:p:=by rw[afE];rfl):p:=h
def vZ (h:p:=by simpa using(hl 0 (by simp)).symm):p:=h
def aSm (h:p:=by subst e;have h:=i;exact AP h fun O j h=>.ca (aNp  O j)<|.aW<|by cases h;kernel_rfl):p:=h
def Vd (h:p:=by simpa using u):p:=h
def eI (h:p:=by intro u;cases u):p:=h
def WL (h:p:=by rw[Dc];omega):p:=h
def WV (h:p:=by simpa using j):p:=h
def Vj (h:p:=by simpa using Y):p:=h
def a0E (h:p:=by cases h;exact .ret (FQ [AQ 3])):p:=h
def aJA (h:p:=by rw[alloc_eq_grow,alloc_eq_grow,grow_grow];rfl):p:=h
def aKp (h:p:=by rw[ha];exact FC (Jr _ _) (by rw[GK];omega)):p:=h
def aHc (h:p:=by by_cases h:(s.size:Int)>32<;>simp[h]<;>omega):p:=h
def a0j (h:p:=by simpa using I.lt x (by simp[hx])):p:=h
def YM (h:p:=by simpa using L):p:=h
def aOF (h:p:=by cases h;exact .ret (FQ [AQ 0,AQ 1])):p:=h
def aO4 (h:p:=by by_cases h:(s.size:Int)<1<;>simp[h]<;>omega):p:=h
def jP (h:p:=by rw[ha,Dc,GK];omega):p:=h
def aY5 (h:p:=by simpa using hk):p:=h
def aJJ (h:p:=by have :=hinj j j' o o' t u ho' q hd';omega):p:=h
def YQ (h:p:=by rw[bg];omega):p:=h
def gU (h:p:=by simp[Ap];omega):p:=h
def Tt (h:p:=by simp[hi]):p:=h
def Zo (h:p:=by simp[hm.hlen]):p:=h
def aB0 (h:p:=by rw[En];simp only[QO];omega):p:=h
def kZ (h:p:=by rw[aMc j L];simp):p:=h
def aDg (h:p:=by simpa using M 0 x (by simp)):p:=h
def rF (h:p:=by intro I;cases I):p:=h
def nZ (h:p:=by intro z;cases z):p:=h
def iT (h:p:=by simp at J;omega):p:=h
def aKj (h:p:=by simp[Array.getD,hil]at hf ⊢;exact hf):p:=h
def aFy (h:p:=by obtain⟨b,_,rfl⟩:=Fh.1 hy;exact hc b):p:=h
def aIG (h:p:=by obtain⟨a,_,rfl⟩:=Fh.1 hy;exact hc a):p:=h
def xw (h:p:=by rw[map_take hi,ha]):p:=h
def aAn (h:p:=by simp[binOp,Op.intBits,Eu]):p:=h
def aBe (h:p:=by simp only[HY];simp;omega):p:=h
def aL7 (h:p:=by rw[L rfl b (by rw[q];rfl)];exact u):p:=h
def aNF (h:p:=by cases h;exact .ret (FQ [AQ 4])):p:=h
def aOs (h:p:=by rw[Dc]at hi;rw[Si _ _ _ hi];exact V9 q j u (h i hi)):p:=h
def aX0 (h:p:=by subst e;have h:=i;exact Dv.aW<|by cases h;kernel_rfl):p:=h
def aYk (h:p:=by rw[GK];omega):p:=h
def aGA (h:p:=by simpa using O 0 σ.ents (by simp)):p:=h
def dA (h:p:=by rw[ha,Gg]):p:=h
def aPR (h:p:=by rw[Dc]at hi;rw[Si _ _ _ hi];exact(h i hi).vw π):p:=h
def aW6 (h:p:=by rw[M]at ho';obtain rfl:=Dq ho';exact(O m hm).1):p:=h
def a1B (h:p:=by simp[Op.bytesLess]at h):p:=h
def aSQ (h:p:=by unfold Iw;rw[Di ⟨Yi _,by omega,by omega⟩];rfl):p:=h
def aWv (h:p:=by simp only[aC9,dec_lt h,Bz,Cx h,Ad,TW,FB,BX]):p:=h
def yI (h:p:=by intro h;cases h):p:=h
def aE9 (h:p:=by rw[q];rfl):p:=h
def aXm (h:p:=by simpa using(by omega:i<(ops.map a.eval).size)):p:=h
def aFe (h:p:=by rw[World.cell?,j];rfl):p:=h
def aFS (h:p:=by constructor<;>omega):p:=h
def wH (h:p:=by simpa using hs):p:=h
def aYZ (h:p:=by cases h;exact .ret (FQ [(0,false),AQ 5])):p:=h
def aSN (h:p:=by rw[ha];exact FC (Y4 _ _) (by rw[GK];omega)):p:=h
def aX (h:p:=by simp[flat]):p:=h
def aGV (h:p:=by simp[sizeOf,typeInfo,hi,hs]):p:=h
def aR1 (h:p:=by have :=jy s ⟨k,key,0⟩;unfold FW at *;omega):p:=h
def pO (h:p:=by simpa using q2):p:=h
def aA0 (h:p:=by simp[underlying,hu]):p:=h
def qJ (h:p:=by simpa using h2):p:=h
def aPy (h:p:=by simp[Value.cells,List.getD,Array.getD,z]):p:=h
def fP (h:p:=by simp[hl]):p:=h
def aNP (h:p:=by have :=eq_of_beq h;omega):p:=h
def aGP (h:p:=by rw[hb1];exact(GH.1 M).1):p:=h
def aIt (h:p:=by rw[Bd.ad1]at J;exact J):p:=h
def aCl (h:p:=by rw[j]at h;exact h):p:=h
def aC8 (h:p:=by intro Z;cases Z):p:=h
def aPB (h:p:=by unfold L9 at j;rw[EL hl]at j;exact j):p:=h
def aIK (h:p:=by simp[underlying,hE.und]):p:=h
def Zf (h:p:=by cases h'):p:=h
def aEX (h:p:=by simpa using he):p:=h
def Zx (h:p:=by simp[q]):p:=h
def aR2 (h:p:=by simp[stepG,stepG.exec,Frame.atR]):p:=h
def aOq (h:p:=by rw[xq];exact fuel_lt (by decide)):p:=h
def aM6 (h:p:=by simp[List.getD,dZ e]):p:=h
def aB6 (h:p:=by simp[flat]at hi):p:=h
def aMG (h:p:=by simp[List.getD,Hu e]):p:=h
def aLu (h:p:=by simpa[EK]using q.symm):p:=h
def aBl (h:p:=by simpa using ht):p:=h
def a1I (h:p:=by rw[Iq];omega):p:=h
def aJf (h:p:=by simp[World.setRow]):p:=h
def aKt (h:p:=by have :=h.len;omega):p:=h
def aNn (h:p:=by simp only[aC9,Dy,BX]):p:=h
def aDP (h:p:=by apply aGS;simp):p:=h
def rV (h:p:=by rw[z];rfl):p:=h
def aEn (h:p:=by simp[go_sem]):p:=h
def aAC (h:p:=by rw[Ij];exact h):p:=h
def aCS (h:p:=by simpa using hp):p:=h
def aH7 (h:p:=by rw[En];simp;omega):p:=h
def aCe (h:p:=by simpa using O):p:=h
def a1j (h:p:=by rw[L6];omega):p:=h
def aMt (h:p:=by simp[execOp,j];rfl):p:=h
def aBj (h:p:=by simpa using U):p:=h
def aKT (h:p:=by simp[List.getD,ht]):p:=h
def aNT (h:p:=by rw[En]at hi;omega):p:=h
def aKg (h:p:=by rw[bg];simp;omega):p:=h
def aO7 (h:p:=by simp[List.getD,u]):p:=h
def aMi (h:p:=by simpa using this):p:=h
def aOJ (h:p:=by rw[Dc];exact hi):p:=h
def aCR (h:p:=by simp[zN,e]):p:=h
def zk (h:p:=by simp at q):p:=h
def qI (h:p:=by simp at j):p:=h
def rE (h:p:=by simp at z):p:=h
def aKd (h:p:=by intro U;cases U):p:=h
def aNY (h:p:=by intro J;cases J):p:=h
end
section
variable {p:Prop}
def CO (h:p:=by exact fun h=>AY<|Cj):p:=h
def F5 (h:p:=by exact Bv.exit<|AY<|Cj):p:=h
def IK (h:p:=by exact Bv.exit<|AY<|Qi):p:=h
def aRa (h:p:=by exact .aW<|AY<|AY<|Bv.ret<|by rw[←CV h];exact⟨[DC ({ { { aQ with Hash:=j }with Id:=q }with nU:=(⟨Df,({ { aQ with Hash:=j }with Id:=q }).Id⟩:Ny) })],[],⟨⟨1,BP (BI ({ { { aQ with Hash:=j }with Id:=q }with nU:=(⟨Df,({ { aQ with Hash:=j }with Id:=q }).Id⟩:Ny) })),true,29,AA,AA,AA,D9,Dt AA,rF,AA⟩,trivial⟩,AA,AA,AA⟩):p:=h
def kH (h:p:=by exact Qy AA<|Qy AA<|Qy AA<|Qy AA<|trivial):p:=h
def a1r (h:p:=by exact .nil<|Or.inl ⟨(),(CV h).symm,(⟨[],[],trivial,AA,AA,AA⟩)⟩):p:=h
def aTf (h:p:=by exact .aW<|AY<|Bv.ret<|by rw[←CV h];exact⟨[DC ({ aQ with Content:=j })],[],⟨⟨1,BP (BI ({ aQ with Content:=j })),true,29,AA,AA,AA,D9,Dt AA,eI,AA⟩,trivial⟩,AA,AA,AA⟩):p:=h
def aVo (h:p:=by exact fun h=>Bv.ret<|⟨.inr rfl,(Y5 I).slots,(.ready,none),.normal,AA,rfl,(K3 _ ⟨q,u,Ac 16 32 [AQ 2,AQ 6],h⟩)⟩):p:=h
def aQX (h:p:=by exact Bv.ret<|⟨.inr rfl,(WW iV j).slots,(.ready,none),.normal,AA,rfl,(K3 _ ⟨v7,v8,Ac 21 80 [AQ 0,AQ 1],h⟩)⟩):p:=h
def aEM (h:p:=by exact .nil<|q _ _ _ (Ac 16 449 [AQ 0]) h):p:=h
def Ze (h:p:=by exact AY<|AY<|Cj):p:=h
def iy (h:p:=by exact fun h=>AY<|Qi):p:=h
def aGm (h:p:=by exact fun h=>Bv.exit<|K4 _ ⟨Ac 18 2 [],h⟩):p:=h
def JJ (h:p:=by exact BH h CO fun h=>AY<|Cj):p:=h
end
section
def addr_add (b o j:Nat):(⟨b,o,none⟩:Addr).add j=⟨b,o+j,none⟩:=by
 unfold Addr.add;split<;>simp_all
section
variable {P:Ce} {ops:C9 Oper} {rest:A8 Oper} {o:Oper} {a:Act} {w:BU} {Q:Exit->Act->BU->Prop}
def aaY (w:BU) (ty:CG) (b off:Nat) (cs:C9 Au) (hA:(isAgg ty).run P w=.ok true w) (z:(sizeOf ty).run P w=.ok cs.size w)
 (I:∀j,j<cs.size->w.cell? ⟨b,off+j,none⟩=some (cs.getD j undef)):(loadVar ty ⟨b,off,none⟩).run P w=.ok (.agg cs) w:=by
 have hl:(loadCells ⟨b,off,none⟩ cs.toList.length).run P w=.ok cs.toList.toArray w:=
  run_loadCells_list (P:=P) w ⟨b,off,none⟩ cs.toList (fun j v q=>by
   rw[addr_add]
   have u:j<cs.size:=by
    have :=(GH.1 q).1;simpa using this
   rw[I j u];simp only[Wy]at q;simp[Array.getD,u]at q ⊢
   exact q)
 simp only[Uo,au]at hl;simp only[loadVar,G6,hA,z,GY,Ku,hl,Gy]
end
def aJW (w:BU) (cs:C9 Au) (t:CG):∀k,(w.alloc (.cells cs t)).cell? ⟨w.heap.size,k,none⟩=cs[k]? :=fun k=>cell_of_row _ _ k cs t (0,0) (XD w _)
inductive D where
 |lit (v:Value)
 |agg (cs:List D)
 |sl (es:List D)
 |ref (cs:List D) (off:Nat)
 |fn (f:Fn) (first cap:List D)
 |PS (t:TypeId) (x:D)
def D.cells:D->A8 D
 | .agg cs=>cs
 |x=>[x]
def D.leaf:D->AZ
 | .lit v=>v.oneCell'
 | .agg _=>false
 |_=>true
abbrev EO :D:=.lit undef
abbrev cellAt (w:BU) (b o:Nat):Au:=(w.cell? ⟨b,o,none⟩).getD undef
inductive ES (ok:Nat->Prop) (w:World):D->Value->Prop
 |lit (v:Value):ES ok w (.lit v) v
 |agg (cs:List D) (vs:Array Value) (hl:vs.size=cs.length) (hf:∀i,i<cs.length->(cs.getD i EO).leaf=true)
  (h:∀i,i<cs.length->ES ok w (cs.getD i EO) (vs.getD i undef)):ES ok w (.agg cs) (.agg vs)
 |sl0 (ad:Option Addr) (cap:Nat):ES ok w (.sl []) (.slice ad 0 cap)
 |sl (es:List D) (b off cap size:Nat) (hcap:es.length<=cap) (hok:0<es.length->0<size->ok b) (hs:∀i,i<es.length->(es.getD i EO).cells.length=size)
  (hf:∀i,i<es.length->∀j,j<size->((es.getD i EO).cells.getD j EO).leaf=true)
  (hx:∀i,i<es.length->∀j,j<size->(w.cell? ⟨b,off+(i*size+j),none⟩).isSome=true)
  (hc:∀i,i<es.length->∀j,j<size->ES ok w ((es.getD i EO).cells.getD j EO) (cellAt w b (off+(i*size+j)))):
  ES ok w (.sl es) (.slice (some ⟨b,off,none⟩) es.length cap)
 |ref (cs:List D) (off b o:Nat) (hok:0<cs.length->ok b) (hf:∀i,i<cs.length->(cs.getD i EO).leaf=true)
  (hx:∀j,j<cs.length->(w.cell? ⟨b,o+j,none⟩).isSome=true)
  (hc:∀j,j<cs.length->ES ok w (cs.getD j EO) (cellAt w b (o+j))):ES ok w (.ref cs off) (.pointer (some ⟨b,o+off,none⟩))
 |fn (f:Fn) (first cap:List D) (vs us:Array Value) (hl:vs.size=first.length) (hm:us.size=cap.length)
  (h:∀i,i<first.length->ES ok w (first.getD i EO) (vs.getD i undef)) (h':∀i,i<cap.length->ES ok w (cap.getD i EO) (us.getD i undef)):
  ES ok w (.fn f first cap) (.func f vs us)
 |PS (t:TypeId) (x:D) (v:Value) (h:ES ok w x v):ES ok w (.PS t x) (.iface t v)
def Et (ok:Nat->Prop) (w:BU) (ok':Nat->Prop) (w':BU):Prop:=∀b,ok b->ok' b/\w'.heap[b]? =w.heap[b]?
def Et.refl (ok:Nat->Prop) (w:BU):Et ok w ok w:=fun _ h=>⟨h,rfl⟩
def Et.trans {ok j q:Nat->Prop} {w z I:BU} (h:Et ok w j z) (k:Et j z q I):Et ok w q I:=
 fun b u=>⟨(k b (h b u).1).1,((k b (h b u).1).2).trans (h b u).2⟩
def Et.cell {ok ok':Nat->Prop} {w w':BU} (h:Et ok w ok' w') {b o:Nat} (j:ok b):w'.cell? ⟨b,o,none⟩=w.cell? ⟨b,o,none⟩:=
 World.cell?_of_block (w:=w) (a:=⟨b,o,none⟩) (h b j).2
def ES.mono {ok ok':Nat->Prop} {w w':BU} (I:Et ok w ok' w') {x:D} {v:Au} (h:ES ok w x v):ES ok' w' x v:=by
 induction h with
 |lit v=>exact .lit v
 |agg cs vs hl J _ z=>exact .agg cs vs hl J z
 |sl0 ad cap=>exact .sl0 ad cap
 |sl es b off cap size L q hs J M _ z=>
  have Y:∀i j,i<es.length->j<size->ok b:=fun i j hi u=>q AB AB;refine .sl es b off cap size L (fun O Z=>(I b (q O Z)).1) hs J (fun i hi j u=>?_) (fun i hi j u=>?_)
  ·rw[I.cell (Y i j hi u)];exact M i hi j u
  unfold cellAt;rw[I.cell (Y i j hi u)];exact z i hi j u
 |ref cs off b o q J M _ z=>
  refine .ref cs off b o (fun O=>(I b (q O)).1) J (fun j u=>?_) (fun j u=>?_)
  ·rw[I.cell (q AB)];exact M j u
  unfold cellAt;rw[I.cell (q AB)];exact z j u
 |fn f first cap vs us hl hm _ _ z U=>exact .fn f first cap vs us hl hm z U
 |PS t x v _ z=>exact .PS t x v z
def ES.shrink {ok ok':Nat->Prop} {w:BU} (hs:∀b o,ok b->(w.cell? ⟨b,o,none⟩).isSome=true->ok' b) {x:D} {v:Au} (h:ES ok w x v):ES ok' w x v:=by
 induction h with
 |lit v=>exact .lit v
 |agg cs vs hl u _ j=>exact .agg cs vs hl u j
 |sl0 ad cap=>exact .sl0 ad cap
 |sl es b off cap size z q L u I _ j=>exact .sl es b off cap size z (fun J O=>hs b _ (q J O) (I 0 J 0 O)) L u I j
 |ref cs off b o q u I _ j=>exact .ref cs off b o (fun J=>hs b _ (q J) (I 0 J)) u I j
 |fn f first cap vs us hl hm _ _ j M=>exact .fn f first cap vs us hl hm j M
 |PS t x v _ j=>exact .PS t x v j
def ES.leaf {ok:Nat->Prop} {w:BU} {x:D} {v:Au} (h:ES ok w x v) (hl:x.leaf=true):v.oneCell'=true:=by
 cases h<;>first|rfl|exact hl|(simp[D.leaf]at hl)
inductive Af where
 |d (x:D)
 |ptr (k off:Nat)
 |aO (k:Nat)
 |lq (k i off:Nat)
 |fn (f:Fn) (first cap:List Af)
 |mp (k:Nat)
 |clip (xs:List D)
 |xP (k:Nat)
 |fC (vs:List Af)
 |ag (vs:List Af)
 |junk
def Af.leaf:Af->AZ
 | .d x=>x.leaf
 | .fC _| .ag _| .junk=>false
 |_=>true
def Af.cells:Af->A8 Af
 | .d x=>x.cells.map .d
 | .ag xs=>xs
 |x=>[x]
inductive Bd where
 |dead
 |box (cs:List Af)
 |arr (e:TypeId) (size:Nat) (es:List D)
 |map (es:List (Value×D))
 |iM (es:List (Value×D))
 |iter (es:List (Value×D)) (vis:List Nat)
 |loop (tm:Array Value) (slots:List Af) (rc:Array Tmp×Code×Code) (st:LoopState) (pe:Option Code)
def Bd.live:Bd->AZ
 | .dead=>false
 |_=>true
structure CP where
 v:Value
 size:Nat:=0
inductive R (ok:Nat->Prop) (w:World) (H:List CP):Af->Value->Prop
 |d (x:D) (v:Value) (h:ES ok w x v):R ok w H (.d x) v
 |ptr (k off b s:Nat) (h:H[k]? =some ⟨.pointer (some ⟨b,0,none⟩),s⟩):R ok w H (.ptr k off) (.pointer (some ⟨b,off,none⟩))
 |aO (k:Nat) (ad:Option Addr) (n cap s:Nat) (h:H[k]? =some ⟨.slice ad n cap,s⟩):R ok w H (.aO k) (.slice ad n cap)
 |lq (k i off b n cap s:Nat) (h:H[k]? =some ⟨.slice (some ⟨b,0,none⟩) n cap,s⟩):R ok w H (.lq k i off) (.pointer (some ⟨b,i*s+off,none⟩))
 |fn (f:Fn) (first cap:List Af) (vs us:Array Value) (hl:vs.size=first.length) (hm:us.size=cap.length) (h:∀i,i<first.length->R ok w H (first.getD i .junk) (vs.getD i undef))
  (h':∀i,i<cap.length->R ok w H (cap.getD i .junk) (us.getD i undef)):R ok w H (.fn f first cap) (.func f vs us)
 |mp (k:Nat) (v:Value) (s:Nat) (hl:v.oneCell'=true) (h:H[k]? =some ⟨v,s⟩):R ok w H (.mp k) v
 |clip (xs:List D) (ad:Option Addr) (h:ES ok w (.sl xs) (.slice ad xs.length xs.length)):R ok w H (.clip xs) (.slice ad xs.length xs.length)
 |xP (k:Nat) (ad:Option Addr) (n cap s:Nat) (h:H[k]? =some ⟨.slice ad n cap,s⟩):R ok w H (.xP k) (.slice ad n n)
 |fC (xs:List Af) (vs:Array Value) (hl:vs.size=xs.length) (h:∀i,i<xs.length->R ok w H (xs.getD i .junk) (vs.getD i undef)):R ok w H (.fC xs) (.tuple vs)
 |ag (xs:List Af) (vs:Array Value) (hl:vs.size=xs.length) (hf:∀i,i<xs.length->(xs.getD i .junk).leaf=true) (h:∀i,i<xs.length->R ok w H (xs.getD i .junk) (vs.getD i undef)):R ok w H (.ag xs) (.agg vs)
 |junk (v:Value):R ok w H .junk v
def Names (H H':A8 CP):Prop:=∀(k:Nat) (v:CP),H[k]? =some v->H'[k]? =some v
def Names.refl (H:A8 CP):Names H H:=fun _ _ h=>h
def aT:=@Names.refl
def Names.trans {H H1 H2:A8 CP} (h:Names H H1) (k:Names H1 H2):Names H H2:=fun i v j=>k i v (h i v j)
def Names.push (H H':A8 CP):Names H (H++H'):=fun k v h=>by
 rw[Hu (GH.1 h).1];exact h
def Ho:=@Names.push
def R.mono {ok ok':Nat->Prop} {w w':BU} {H H':A8 CP} (z:Et ok w ok' w') (j:Names H H') {x:Af} {v:Au} (h:R ok w H x v):R ok' w' H' x v:=by
 induction h with
 |d x v h=>exact .d x v (h.mono z)
 |ptr k off b s h=>exact .ptr k off b s (j _ _ h)
 |aO k ad n cap s h=>exact .aO k ad n cap s (j _ _ h)
 |lq k i off b n cap s h=>exact .lq k i off b n cap s (j _ _ h)
 |fn f first cap vs us hl hm _ _ q u=>exact .fn f first cap vs us hl hm q u
 |mp k v s hl h=>exact .mp k v s hl (j _ _ h)
 |clip xs ad h=>exact .clip xs ad (h.mono z)
 |xP k ad n cap s h=>exact .xP k ad n cap s (j _ _ h)
 |fC xs vs hl _ q=>exact .fC xs vs hl q
 |ag xs vs hl I _ q=>exact .ag xs vs hl I q
 |junk v=>exact .junk v
def R.shrink {ok ok':Nat->Prop} {w:BU} (hs:∀b o,ok b->(w.cell? ⟨b,o,none⟩).isSome=true->ok' b) {H:A8 CP} {x:Af} {v:Au} (h:R ok w H x v):R ok' w H x v:=by
 induction h with
 |d x v h=>exact .d x v (h.shrink hs)
 |ptr k off b s h=>exact .ptr k off b s h
 |aO k ad n cap s h=>exact .aO k ad n cap s h
 |lq k i off b n cap s h=>exact .lq k i off b n cap s h
 |fn f first cap vs us hl hm _ _ j q=>exact .fn f first cap vs us hl hm j q
 |mp k v s hl h=>exact .mp k v s hl h
 |clip xs ad h=>exact .clip xs ad (h.shrink hs)
 |xP k ad n cap s h=>exact .xP k ad n cap s h
 |fC xs vs hl _ j=>exact .fC xs vs hl j
 |ag xs vs hl u _ j=>exact .ag xs vs hl u j
 |junk v=>exact .junk v
def R.leaf {ok:Nat->Prop} {w:BU} {H:A8 CP} {x:Af} {v:Au} (h:R ok w H x v) (hl:x.leaf=true):v.oneCell'=true:=by
 cases h with
 |d x v h=>exact h.leaf hl
 |fC=>simp[Af.leaf]at hl
 |ag=>simp[Af.leaf]at hl
 |junk=>simp[Af.leaf]at hl
 |mp k v s hl h=>exact hl
 |_=>rfl
def Fj (ok:Nat->Prop) (w:BU) (H:A8 CP) (xs:A8 Af) (vs:A8 Au):Prop:=
 vs.length=xs.length/\∀i,i<xs.length->(xs.getD i .junk).leaf=true/\R ok w H (xs.getD i .junk) (vs.getD i undef)
def Fj.mono {ok ok':Nat->Prop} {w w':BU} {H H':A8 CP} (j:Et ok w ok' w') (q:Names H H') {xs:A8 Af} {vs:A8 Au} (h:Fj ok w H xs vs):Fj ok' w' H' xs vs:=
 ⟨h.1,fun i hi=>⟨(h.2 i hi).1,(h.2 i hi).2.mono j q⟩⟩
def Fj.shrink {ok ok':Nat->Prop} {w:BU} (hs:∀b o,ok b->(w.cell? ⟨b,o,none⟩).isSome=true->ok' b) {H:A8 CP} {xs:A8 Af} {vs:A8 Au} (h:Fj ok w H xs vs):Fj ok' w H xs vs:=
 ⟨h.1,fun i hi=>⟨(h.2 i hi).1,(h.2 i hi).2.shrink hs⟩⟩
def flat (es:A8 D):A8 Af:=es.flatMap fun x=>x.cells.map .d
def oq (w:BU) (e:CG) (size:Nat) (v:Au) (n:Nat) (xs:A8 Au):Prop:=
 xs.length=n*size/\
 ((v=.slice none 0 0/\n=0)\/
  ∃g cap cur,v=.slice (some ⟨g,0,none⟩) n cap/\0<=g/\w.heap[g]? =some (.cells cur e (0,0))/\n<=cap/\cap<=maxLen/\cap*size<=cur.size/\cur.toList.take (n*size)=xs)
def oq.of {w:BU} {base:Nat} {e:CG} {size:Nat} {v:Au} {n:Nat} {xs:A8 Au} (h:w.ownsRow base e size v n xs):oq w e size v n xs:=by
 refine⟨h.1,?_⟩;rcases h.2 with j|⟨g,cap,cur,j,L,q,u,z,I,J⟩
 ·exact .inl j
 exact .inr ⟨g,cap,cur,j,Ea _,q,u,z,aV I.symm,J⟩
def oq.cells {w:BU} {e:CG} {size:Nat} {v:Au} {n:Nat} {xs:A8 Au} (h:oq w e size v n xs) {g:Nat} (J:v.ownBlock=some g):∀j u,xs[j]? =some u->w.cell? ((⟨g,0,none⟩:Addr).add j)=some u:=by
 intro j u I;rcases h.2 with⟨rfl,_⟩|⟨L,cap,cur,rfl,_,M,_,_,_,q⟩
 ·simp[Value.ownBlock]at J
 simp[Value.ownBlock]at J;subst J;have z:(⟨L,0,none⟩:Addr).add j=⟨L,j,none⟩:=by unfold Addr.add;split<;>simp_all
 rw[z,cell_of_row w L j cur e (0,0) M];rw[←q,List.getElem?_take]at I;split at I
 ·simpa using I
 cases I
structure Ld (ok:Nat->Prop) (w:World) (es:List (Value×D)) (ms:Array MapEntry) (clock:Nat):Prop where
 len:ms.size=es.length
 ent:∀(i:Nat) (e:Value×D) (m:MapEntry),es[i]? =some e->ms[i]? =some m->m.key=e.1/\ES ok w e.2 m.val/\m.born<clock
 inc:∀(i j:Nat) (m n:MapEntry),i<j->ms[i]? =some m->ms[j]? =some n->m.born<n.born
def TJ (ms:C9 MapEntry) (clock:Nat):Prop:=clock=ms.size/\∀(i:Nat) (e:MapEntry),ms[i]? =some e->e.born=i
def FY (ok:Nat->Prop) (w:BU) (H:A8 CP) (h:CP):Bd->Prop
 | .dead=>True
 | .box cs=>∃b vs T,h.v=.pointer (some ⟨b,0,none⟩)/\w.heap[b]? =some (.cells vs T (0,0))/\Fj ok w H cs vs.toList
 | .arr e size es=>h.size=size/\(∀x∈es,x.cells.length=size)/\∃xs,oq w e size h.v es.length xs/\Fj ok w H (flat es) xs
 | .map es=>∃b ms clock,h.v=.map (some b)/\w.heap[b]? =some (.map ms clock)/\Ld ok w es ms clock
 | .iM es=>∃b ms clock,h.v=.map (some b)/\w.heap[b]? =some (.map ms clock)/\Ld ok w es ms clock/\TJ ms clock
 | .iter es vis=>∃bi q ms clock seen,h.v=.pointer (some ⟨bi,0,none⟩)/\w.heap[bi]? =some (.mapIter (some q) clock seen clock)/\ok q/\w.heap[q]? =some (.map ms clock)/\Ld ok w es ms clock/\
  seen.size=vis.length/\∀(j i:Nat),vis[j]? =some i->∃e,ms[i]? =some e/\seen[j]? =some e.born
 | .loop tm slots rc st u=>∃l fn D,h.v=.func (.yield l) #[] #[]/\w.heap[l]? =some (.loop { state:=st,pending:=u,fn,tmps:=tm,params:=rc.1,assign:=rc.2.1,body:=rc.2.2,defers:=D })/\tm.size=slots.length/\∀t,t<slots.length->R ok w H (slots.getD t .junk) (tm.getD t undef)
def EK :Au->AL Nat
 | .pointer (some a)=>some a.block
 | .slice (some a) _ _=>some a.block
 | .map (some b)=>some b
 | .func (.yield l) _ _=>some l
 |_=>none
structure wF (w0:World) (X:List Nat) (w:World):Prop where
 os:w.os=w0.os
 tape:w.tape=w0.tape
 output:w.output=w0.output
 size:w0.heap.size<=w.heap.size
 block:∀k,k<w0.heap.size->k∉X->w.heap[k]? =w0.heap[k]?
def wF.refl (w:BU) (X:A8 Nat):wF w X w:=⟨rfl,rfl,rfl,EZ _,fun _ _ _=>rfl⟩
def wF.below {w0 w:BU} (h:wF w0 [] w):Below w0.heap.size w0 w:=⟨h.os,h.tape,h.output,h.size,fun k j=>h.block k j Bh⟩
structure Ey where
 w0:World
 ok0:Nat->Prop
 X:List Nat
 H0:List CP
structure E5 (C:Ey) (ok:Nat->Prop) (H:List CP) (es:List Bd) (w:World):Prop where
 fr:wF C.w0 C.X w
 yY:∀b,C.ok0 b->ok b
 yZ:∀b,ok b->C.ok0 b\/C.w0.heap.size<=b\/b∈C.X
 kS:∀b,ok b->b<w.heap.size
 names:Names C.H0 H
 hlen:H.length=es.length
 ent:∀(k:Nat) (e:Bd) (h:CP),es[k]? =some e->H[k]? =some h->FY ok w H h e
 blk:∀(k:Nat) (e:Bd) (h:CP) (b:Nat),es[k]? =some e->e.live=true->H[k]? =some h->EK h.v=some b->¬ok b/\b<w.heap.size/\(C.w0.heap.size<=b\/b∈C.X)
 Fe:∀(k k':Nat) (e e':Bd) (h h':CP) (b:Nat),es[k]? =some e->es[k']? =some e'->e.live=true->e'.live=true->H[k]? =some h->H[k']? =some h'->EK h.v=some b->EK h'.v=some b->k=k'
def FY.mono {ok ok':Nat->Prop} {w w':BU} {H H':A8 CP} {h:CP} {e:Bd} (I:Et ok w ok' w') (U:Names H H') (L:e.live=true->∀b,EK h.v=some b->w'.heap[b]? =w.heap[b]?) (M:FY ok w H h e):FY ok' w' H' h e:=by
 cases e with
 |dead=>trivial
 |box cs=>
  obtain⟨b,vs,T,q,u,j⟩:=M;exact⟨b,vs,T,q,aL7,j.mono I U⟩
 |arr e s es=>
  obtain⟨q,u,xs,⟨j,z⟩,J⟩:=M;refine⟨q,u,xs,⟨j,?_⟩,J.mono I U⟩;rcases z with z|⟨g,cap,cur,O,Y,h8,h9⟩
  ·exact .inl z
  exact .inr ⟨g,cap,cur,O,Y,by rw[L rfl g (by rw[O];rfl)];exact h8,h9⟩
 |map es=>
  obtain⟨b,ms,clock,q,u,j⟩:=M;exact⟨b,ms,clock,q,aL7,j.len,fun i e m hi hm=>⟨(j.ent i e m hi hm).1,(j.ent i e m hi hm).2.1.mono I,(j.ent i e m hi hm).2.2⟩,j.inc⟩
 |iM es=>
  obtain⟨b,ms,clock,q,u,j,z⟩:=M;exact⟨b,ms,clock,q,aL7,⟨j.len,fun i e m hi hm=>⟨(j.ent i e m hi hm).1,(j.ent i e m hi hm).2.1.mono I,(j.ent i e m hi hm).2.2⟩,j.inc⟩,z⟩
 |iter es vis=>
  obtain⟨bi,Z,ms,clock,seen,q,u,j,z,J,O,Y⟩:=M;exact⟨bi,Z,ms,clock,seen,q,by rw[L rfl bi aE9];exact u,(I Z j).1,by rw[(I Z j).2];exact z,⟨J.len,fun i e m hi hm=>⟨(J.ent i e m hi hm).1,(J.ent i e m hi hm).2.1.mono I,(J.ent i e m hi hm).2.2⟩,J.inc⟩,O,Y⟩
 |loop tm slots rc st pe=>
  obtain⟨l,fn,D,q,u,j,z⟩:=M;exact⟨l,fn,D,q,by rw[L rfl l aE9];exact u,j,fun t ht=>(z t ht).mono I U⟩
def FY.shrink {ok ok':Nat->Prop} {w:BU} (hs:∀b o,ok b->(w.cell? ⟨b,o,none⟩).isSome=true->ok' b) (L:∀(b:Nat) (ms:C9 MapEntry) (c:Nat),ok b->w.heap[b]? =some (.map ms c)->ok' b) {H:A8 CP} {h:CP} {e:Bd} (I:FY ok w H h e):FY ok' w H h e:=by
 cases e with
 |dead=>trivial
 |box cs=>
  obtain⟨b,vs,T,q,u,j⟩:=I;exact⟨b,vs,T,q,u,j.shrink hs⟩
 |arr e s es=>
  obtain⟨q,u,xs,j,z⟩:=I;exact⟨q,u,xs,j,z.shrink hs⟩
 |map es=>
  obtain⟨b,ms,clock,q,u,j⟩:=I;exact⟨b,ms,clock,q,u,j.len,fun i e m hi hm=>⟨(j.ent i e m hi hm).1,(j.ent i e m hi hm).2.1.shrink hs,(j.ent i e m hi hm).2.2⟩,j.inc⟩
 |iM es=>
  obtain⟨b,ms,clock,q,u,j,J⟩:=I;exact⟨b,ms,clock,q,u,⟨j.len,fun i e m hi hm=>⟨(j.ent i e m hi hm).1,(j.ent i e m hi hm).2.1.shrink hs,(j.ent i e m hi hm).2.2⟩,j.inc⟩,J⟩
 |iter es vis=>
  obtain⟨bi,M,ms,clock,seen,q,u,j,J,z,O,U⟩:=I;exact⟨bi,M,ms,clock,seen,q,u,L M ms clock j J,J,⟨z.len,fun i e m hi hm=>⟨(z.ent i e m hi hm).1,(z.ent i e m hi hm).2.1.shrink hs,(z.ent i e m hi hm).2.2⟩,z.inc⟩,O,U⟩
 |loop tm slots rc st Y=>
  obtain⟨l,fn,D,q,u,j,J⟩:=I;exact⟨l,fn,D,q,u,j,fun t ht=>(J t ht).shrink hs⟩
def FY.drew {ok:Nat->Prop} {w:BU} {H:A8 CP} {h:CP} {e:Bd} {n:Nat} (j:FY ok w H h e):FY ok { w with drawn:=n } H h e:=
 FY.mono (w:=w) (ok:=ok) (fun _ q=>⟨q,rfl⟩) (.refl _) (fun _ _ _=>rfl) j
def CQ (P:Ce) (o:Oper) (ns:A8 (CM×Af)) (es:A8 Bd) (x:Af) (es':A8 Bd):Prop:=
 ∀(C:Ey) (ok:Nat->Prop) (H:A8 CP) (a:Act) (w:BU) (Q:Exit->Act->BU->Prop),
  E5 C ok H es w->(∀n∈ns,R ok w H n.2 (a.eval n.1))->
  o.wp P a w (fun a' w'=>∃v ok' H',a'=a.put o.dst v/\Et ok w ok' w'/\Names H H'/\E5 C ok' H' es' w'/\R ok' w' H' x v) Q
def CQ.pure {P:Ce} {o:Oper} {ns:A8 (CM×Af)} {es:A8 Bd} {x:Af}
 (h:∀(ok:Nat->Prop) (H:A8 CP) (a:Act) (w:BU),(∀(k:Nat) (e:Bd) (h:CP),es[k]? =some e->H[k]? =some h->FY ok w H h e)->H.length=es.length->(∀n∈ns,R ok w H n.2 (a.eval n.1))->∃v,(execOp a.eval o).run P w=.ok (.value v) w/\R ok w H x v):CQ P o ns es x es:=by
 intro C ok H a w Q hm j;obtain⟨v,q,u⟩:=h ok H a w hm.ent hm.hlen j;unfold Oper.wp;rw[q];exact⟨v,ok,H,rfl,.refl _ _,.refl _,hm,u⟩
structure BO where
 slots:List Af
 ents:List Bd
 base:Nat:=0
def BO.get (σ:BO):CM->Af
 | .tmp t=>σ.slots.getD t .junk
 | .const v=>.d (.lit v)
 | .global g=>.d (.lit (.pointer (some ⟨g,0,none⟩)))
 | .func f=>.d (.fn (.func f) [] [])
def BO.put (σ:BO) (d:AL Tmp) (x:Af) (es:A8 Bd):BO:=
 ⟨match d with |some t=>σ.slots.set t x|none=>σ.slots,es,σ.base⟩
def BO.sG (σ:BO) (d:AL Tmp) (x:Af):BO:=
 ⟨match d with |some t=>σ.slots.set t x|none=>σ.slots,σ.ents,σ.base⟩
def BO.ao7 (σ:BO) (d:AL Tmp) (x:Af):σ.sG d x=σ.put d x σ.ents:=rfl
def Marks (C:Ey) (ok:Nat->Prop) (w:BU) (j:A8 Deferred):Prop:=
 ∃Ds:A8 Nat,j=Ds.map (fun D=>{ target:=.collected D,args:= #[] })/\Ds.Nodup/\∀D∈Ds,ok D/\C.w0.heap.size<=D/\w.heap[D]? =some (.deferred (some []))
def Marks.nil (C:Ey) (ok:Nat->Prop) (w:BU):Marks C ok w []:=⟨[],rfl,bY,fun _ h=>Ib⟩
def Marks.mono {C:Ey} {ok ok':Nat->Prop} {w w':BU} {u:A8 Deferred} (h:Marks C ok w u) (z:Et ok w ok' w'):Marks C ok' w' u:=by
 obtain⟨Ds,I,J,j⟩:=h;exact⟨Ds,I,J,fun D q=>⟨(z D (j D q).1).1,(j D q).2.1,((z D (j D q).1).2).trans (j D q).2.2⟩⟩
structure Holds (C:Ey) (ok:Nat->Prop) (H:List CP) (σ:BO) (a:Act) (w:World):Prop where
 mem:E5 C ok H σ.ents w
 size:a.tmps.size=σ.slots.length
 defers:Marks C ok w a.defers
 base:C.H0.length=σ.base
 slot:∀t,t<σ.slots.length->R ok w H (σ.slots.getD t .junk) (a.tmps.getD t undef)
def qA {l:A8 Af} {t:Nat} (h:¬t<l.length):l.getD t .junk=.junk:=by
 simp[List.getD,J5 (VU h)]
def Holds.get {C:Ey} {ok:Nat->Prop} {H:A8 CP} {σ:BO} {a:Act} {w:BU} (h:Holds C ok H σ a w) (x:CM):R ok w H (σ.get x) (a.eval x):=by
 cases x with
 |tmp t=>
  show R ok w H (σ.slots.getD t .junk) (a.tmps.getD t undef);by_cases ht:t<σ.slots.length
  ·exact h.slot t ht
  rw[qA ht];exact .junk _
 |const v=>exact .d _ _ (.lit v)
 |global g=>exact .d _ _ (.lit _)
 |func f=>exact .d _ _ (.fn (.func f) [] [] #[] #[] rfl rfl (fun i hi=>PV) (fun i hi=>PV))
def Holds.put {C:Ey} {ok ok':Nat->Prop} {H H':A8 CP} {σ:BO} {a:Act} {w w':BU} (h:Holds C ok H σ a w) (d:AL Tmp) {x:Af} {v:Au} {es':A8 Bd}
 (j:Et ok w ok' w') (z:Names H H') (hm:E5 C ok' H' es' w') (I:R ok' w' H' x v):Holds C ok' H' (σ.put d x es') (a.put d v) w':=by
 cases d with
 |none=>exact⟨hm,h.size,h.defers.mono j,h.base,fun t ht=>(h.slot t ht).mono j z⟩
 |some d=>
  refine⟨hm,by simp[BO.put,Act.put,h.size],h.defers.mono j,h.base,fun t ht=>?_⟩;simp only[BO.put,kC]at ht;simp only[BO.put,Act.put];by_cases e:d=t
  ·subst e;have q:(σ.slots.set d x).getD d .junk=x:=aKT
   have u:(a.tmps.setIfInBounds d v).getD d undef=v:=by simp[Array.getD,h.size,ht]
   rw[q,u];exact I
  have q:(σ.slots.set d x).getD t .junk=σ.slots.getD t .junk:=aM6
  have u:(a.tmps.setIfInBounds d v).getD t undef=a.tmps.getD t undef:=by simp[J8,Ol e]
  rw[q,u];exact(h.slot t ht).mono j z
def Af.vw (π:A8 (Nat×AZ)):Af->Af
 | .d x=>.d x
 | .ptr k off=>match π.idxOf? (k,true)with |some j=>.ptr j off|none=>.junk
 | .aO k=>match π.idxOf? (k,true)with |some j=>.aO j|none=>.junk
 | .lq k i off=>match π.idxOf? (k,true)with |some j=>.lq j i off|none=>.junk
 | .mp k=>match π.idxOf? (k,true)with |some j=>.mp j|none=>.junk
 | .xP k=>match π.idxOf? (k,true)with |some j=>.xP j|none=>.junk
 | .clip xs=>.clip xs
 |_=>.junk
def Af.back (π:A8 (Nat×AZ)):Af->Af
 | .fn f first cap=>.fn f (first.map (Af.vw π)) (cap.map (Af.vw π))
 | .fC vs=>.fC (vs.map (Af.vw π))
 |x=>x.vw π
def Bd.back (π:A8 (Nat×AZ)):Bd->Bd
 | .dead=>.dead
 | .box cs=>.box (cs.map (Af.vw π))
 | .arr e s es=>.arr e s es
 | .map es=>.map es
 | .iM es=>.iM es
 | .iter es vis=>.iter es vis
 | .loop tm slots rc st j=>.loop tm (slots.map (Af.back π)) rc st j
def wJ {π:A8 (Nat×AZ)} {H:A8 CP} {k j:Nat} {h:CP} (u:π.idxOf? (k,true)=some j) (z:H[k]? =some h):(π.map fun p=>H.getD p.1 ⟨undef,0⟩)[j]? =some h:=by
 rw[List.idxOf?,aRu]at u;obtain⟨q,I, -⟩:=u;have e:π[j]=(k,true):=UR
 simp[q,e,List.getD,z]
def R.vw {ok:Nat->Prop} {w:BU} {H:A8 CP} (π:A8 (Nat×AZ)) {x:Af} {v:Au} (h:R ok w H x v):R ok w (π.map fun p=>H.getD p.1 ⟨undef,0⟩) (x.vw π) v:=by
 cases h with
 |d x v h=>exact .d x v h
 |ptr k off b s h=>
  simp only[Af.vw];split<;>rename_i j q
  ·exact .ptr _ off b s (wJ q h)
  exact .junk _
 |aO k ad n cap s h=>
  simp only[Af.vw];split<;>rename_i j q
  ·exact .aO _ ad n cap s (wJ q h)
  exact .junk _
 |lq k i off b n cap s h=>
  simp only[Af.vw];split<;>rename_i j q
  ·exact .lq _ i off b n cap s (wJ q h)
  exact .junk _
 |mp k v s hl h=>
  simp only[Af.vw];split<;>rename_i j q
  ·exact .mp _ v s hl (wJ q h)
  exact .junk _
 |clip xs ad h=>exact .clip xs ad h
 |xP k ad n cap s h=>
  simp only[Af.vw];split<;>rename_i j q
  ·exact .xP _ ad n cap s (wJ q h)
  exact .junk _
 |fn f first cap vs us hl hm h h'=>exact .junk _
 |fC xs vs hl h=>exact .junk _
 |ag xs vs hl u h=>exact .junk _
 |junk v=>exact .junk _
def Si (f:Af->Af) (l:A8 Af) (i:Nat) (h:i<l.length):(l.map f).getD i .junk=f (l.getD i .junk):=by
 simp[List.getD,h]
def R.back {ok:Nat->Prop} {w:BU} {H:A8 CP} (π:A8 (Nat×AZ)) {x:Af} {v:Au} (h:R ok w H x v):R ok w (π.map fun p=>H.getD p.1 ⟨undef,0⟩) (x.back π) v:=by
 cases h with
 |fn f first cap vs us hl hm h h'=>
  exact .fn f _ _ vs us fP (by simp[hm]) (fun i hi=>aPR) (fun i hi=>by rw[Dc]at hi;rw[Si _ _ _ hi];exact(h' i hi).vw π)
 |fC xs vs hl h=>exact .fC _ vs fP (fun i hi=>aPR)
 |ag xs vs hl j h=>exact .junk _
 |d x v h=>exact(R.d x v h).vw π
 |ptr k off b s h=>exact(R.ptr k off b s h).vw π
 |aO k ad n cap s h=>exact(R.aO k ad n cap s h).vw π
 |lq k i off b n cap s h=>exact(R.lq k i off b n cap s h).vw π
 |mp k v s hl h=>exact(R.mp k v s hl h).vw π
 |clip xs ad h=>exact(R.clip xs ad h).vw π
 |xP k ad n cap s h=>exact(R.xP k ad n cap s h).vw π
 |junk v=>exact .junk _
def Bd.backOk (π:A8 (Nat×AZ)):Bd->AZ
 | .box cs=>cs.all fun x=>(x.vw π).leaf
 |_=>true
def Ut (base:Nat) (es:A8 Bd) (π:A8 (Nat×AZ)):AZ:=
 π.all (fun p=>p.1<es.length)&&decide ((π.filterMap fun p=>if p.2 then some p.1 else none).Nodup)&&((π.take base).map (·.1)==List.range base)&&π.all fun p=>(es.getD p.1 .dead).backOk π
def Sl (es:A8 Bd) (π:A8 (Nat×AZ)):A8 Bd:=π.map fun p=>if p.2 then(es.getD p.1 .dead).back π else .dead
def aXl :∀{π:A8 (Nat×AZ)},(π.filterMap fun p=>if p.2 then some p.1 else none).Nodup->∀(i j k:Nat),π[i]? =some (k,true)->π[j]? =some (k,true)->i=j
 | [],_,i,j,k,h,_=>Ip
 |p::π,q,i,j,k,hi,z=>by
  have u:∀(n:Nat),π[n]? =some (k,true)->k∈π.filterMap fun p=>if p.2 then some p.1 else none:=fun n h=>by
   rw[VA];exact⟨_,WZ h,rfl⟩
  have I:(π.filterMap fun p=>if p.2 then some p.1 else none).Nodup:=by
   rw[QM]at q;split at q
   ·exact q
   exact(NY.1 q).2
  match i,j with
  |0,0=>rfl
  |0,j+1=>
   simp at hi z;subst hi;simp only[QM,Ku]at q;exact absurd (u j z) (NY.1 q).1
  |i+1,0=>
   simp at hi z;subst z;simp only[QM,Ku]at q;exact absurd (u i hi) (NY.1 q).1
  |i+1,j+1=>rw[aXl I i j k Gs N8]
def FY.back {ok:Nat->Prop} {w:BU} {H:A8 CP} {h:CP} {e:Bd} (π:A8 (Nat×AZ)) (L:e.backOk π=true) (j:FY ok w H h e):FY ok w (π.map fun p=>H.getD p.1 ⟨undef,0⟩) h (e.back π):=by
 cases e with
 |dead=>trivial
 |box cs=>
  obtain⟨b,vs,T,q,u,z,I⟩:=j;refine⟨b,vs,T,q,u,N8,fun i hi=>?_⟩;rw[Dc]at hi;rw[Si _ _ _ hi];refine⟨?_,(I i hi).2.vw π⟩;simp only[Bd.backOk,El]at L;exact L _ Nh
 |arr e s es=>
  obtain⟨q,u,xs,z,I,M⟩:=j;refine⟨q,u,xs,z,I,fun i hi=>⟨(M i hi).1,?_⟩⟩;have J:=(M i hi).2;have hm:(flat es).getD i .junk∈flat es:=Nh
  unfold flat at hm ⊢;simp only[Vy,Fh]at hm;obtain⟨x,_,y,_,O⟩:=hm;unfold flat at J;rw[←O]at J ⊢;cases J with |d _ _ h=>exact .d _ _ h
 |map es=>exact j
 |iM es=>exact j
 |iter es vis=>exact j
 |loop tm slots rc st U=>
  obtain⟨l,fn,D,q,u,z,I⟩:=j;refine⟨l,fn,D,q,u,N8,fun t ht=>?_⟩;rw[Dc]at ht;rw[Si _ _ _ ht];exact(I t ht).back π
def aY1 {π:A8 (Nat×AZ)} {e:Bd}:(e.back π).live=e.live:=by cases e<;>rfl
def E5.norm {C:Ey} {ok:Nat->Prop} {H:A8 CP} {es:A8 Bd} {w:BU} (hm:E5 C ok H es w) (π:A8 (Nat×AZ)) (U:Ut C.H0.length es π=true):
 E5 C ok (π.map fun p=>H.getD p.1 ⟨undef,0⟩) (Sl es π) w:=by
 unfold Ut at U;simp only[Du,I8,PU,El]at U;obtain⟨⟨⟨hlt,hnd⟩,hpre⟩,hbk⟩:=U
 have u:∀(j:Nat) (h:CP),(π.map fun p=>H.getD p.1 ⟨undef,0⟩)[j]? =some h->∃p,π[j]? =some p/\p.1<es.length/\H[p.1]? =some h:=by
  intro j h q;rw[Jg]at q;cases hp:π[j]? with
  |none=>rw[hp]at q;simp at q
  |some p=>
   rw[hp]at q;have z:p.1<es.length:=hlt p (WZ hp);refine⟨p,rfl,z,?_⟩;have hkH:p.1<H.length:=by rw[hm.hlen];exact z
   simp[List.getD,hkH]at q ⊢;exact q
 have I:∀(j:Nat) (p:Nat×AZ) (e:Bd),(Sl es π)[j]? =some e->π[j]? =some p->p.1<es.length->(p.2=false/\e=.dead)\/(p.2=true/\∃M,es[p.1]? =some M/\e=M.back π/\p∈π):=by
  intro j p e q hp z;unfold Sl at q;rw[Jg,hp]at q;cases Z:p.2 with
  |false=>simp[Z]at q;exact .inl ⟨rfl,q.symm⟩
  |true=>
   simp[Z,List.getD,z]at q;exact .inr ⟨rfl,es[p.1],by simp[z],q.symm,WZ hp⟩
 refine⟨hm.fr,hm.yY,hm.yZ,hm.kS,?_,by simp[Sl],?_,?_,?_⟩
 ·intro k v hv;have z:k<C.H0.length:=(GH.1 hv).1;have h1:((π.take C.H0.length).map (·.1))[k]? =some k:=by rw[hpre];simp[z]
  rw[Jg,NC z]at h1;have h2:=hm.names k v hv;cases hp:π[k]? with
  |none=>rw[hp]at h1;simp at h1
  |some p=>
   rw[hp]at h1;have hpk:p.1=k:=by simpa using h1
   rw[Jg,hp];simp[List.getD,hpk,h2]
 ·intro j e h q hh;obtain⟨p,hp,z,hH⟩:=u j h hh;rcases I j p e q hp z with⟨_,rfl⟩|⟨_,M,J,rfl,L⟩
  ·trivial
  refine(hm.ent p.1 M h J hH).back π ?_;have :=hbk p L;simpa[List.getD,J]using this
 ·intro j e h b q hl hh Z;obtain⟨p,hp,z,hH⟩:=u j h hh;rcases I j p e q hp z with⟨_,rfl⟩|⟨_,M,J,rfl,L⟩
  ·cases hl
  rw[aY1]at hl;exact hm.blk p.1 M h b J hl hH Z
 intro j j' e e' h h' b q hj' hl Y hh hh' Z hb';obtain⟨p,hp,z,hH⟩:=u j h hh;obtain⟨p',hp',hk',hH'⟩:=u j' h' hh';rcases I j p e q hp z with⟨_,rfl⟩|⟨hpt,M,J,rfl,L⟩
 ·cases hl
 rcases I j' p' e' hj' hp' hk' with⟨_,rfl⟩|⟨O,e0',aG0,rfl,hmem'⟩
 ·cases Y
 rw[aY1]at hl Y;have hkk:=hm.Fe p.1 p'.1 M e0' h h' b J aG0 hl Y hH hH' Z hb';obtain⟨k,bb⟩:=p;obtain⟨k',bb'⟩:=p';simp only at hkk hpt O;subst hkk;subst hpt;subst O;exact aXl hnd j j' k hp hp'
def MR (π:A8 (Nat×AZ)):A8 AZ->A8 Af->A8 Af
 |_,[]=>[]
 |true::m,x::xs=>x.back π::MR π m xs
 |false::m,_::xs=>.junk::MR π m xs
 | [],_::xs=>.junk::MR π [] xs
def a1v (π:A8 (Nat×AZ)):∀(m:A8 AZ) (l:A8 Af),(MR π m l).length=l.length
 |_,[]=>by unfold MR;rfl
 |true::m,x::xs=>by simp[MR,a1v π m xs]
 |false::m,x::xs=>by simp[MR,a1v π m xs]
 | [],x::xs=>by simp[MR,a1v π [] xs]
def a1u (π:A8 (Nat×AZ)):∀(m:A8 AZ) (l:A8 Af) (t:Nat),(MR π m l).getD t .junk=(l.getD t .junk).back π\/(MR π m l).getD t .junk=.junk
 |_,[],t=>by unfold MR;right;simp
 |true::m,x::xs,0=>by left;simp[MR]
 |false::m,x::xs,0=>by right;simp[MR]
 | [],x::xs,0=>by right;simp[MR]
 |true::m,x::xs,t+1=>by simpa[MR]using a1u π m xs t
 |false::m,x::xs,t+1=>by simpa[MR]using a1u π m xs t
 | [],x::xs,t+1=>by simpa[MR]using a1u π [] xs t
def aDY (σ S:BO):Prop:=∃(m:A8 AZ) (π:A8 (Nat×AZ)),Ut σ.base σ.ents π=true/\S=⟨MR π m σ.slots,Sl σ.ents π,σ.base⟩
def Holds.aG1 {C:Ey} {ok:Nat->Prop} {H:A8 CP} {σ S:BO} {a:Act} {w:BU} (h:Holds C ok H σ a w) (hs:aDY σ S):∃H',Holds C ok H' S a w:=by
 obtain⟨m,π,j,rfl⟩:=hs;refine⟨π.map fun p=>H.getD p.1 ⟨undef,0⟩,h.mem.norm π (h.base▸j),by simp[a1v,h.size],h.defers,h.base,fun t ht=>?_⟩;rcases a1u π m σ.slots t with e|e
 ·simp only[e];exact(h.get (.tmp t)).back π
 simp only[e];exact .junk _
def CX (σ S:BO):Prop:=∀(C:Ey) (ok:Nat->Prop) (H:A8 CP) (a:Act) (w:BU),Holds C ok H σ a w->∃ok' H',Holds C ok' H' S a w
def aDY.sub {σ S:BO} (h:aDY σ S):CX σ S:=fun _ ok _ _ _ j=>let⟨H',h'⟩:=j.aG1 h;⟨ok,H',h'⟩
def alV {σ S:BO} (j:BO) (h:∀C ok H a w,Holds C ok H σ a w->∃ok',Holds C ok' H j a w) (k:CX j S):CX σ S:=fun C _ H a w q=>let⟨ok',h'⟩:=h C _ H a w q;k C ok' H a w h'
section
variable {P:Ce} {ops:C9 Oper} {Q:Exit->Act->BU->Prop}
def toCome (j:C9 AZ):Nat:=(j.toList.filter (!·)).length
def toCome_set {j:C9 AZ} {i:Nat} (hi:i<j.size) (h:j.getD i true=false):toCome (j.setIfInBounds i true)+1=toCome j:=by
 unfold toCome;have hl:j.toList[i]' Gs=false:=by simpa[Array.getD,hi]using h
 have e:j.toList=j.toList.take i++false::j.toList.drop (i+1):=by
  rw[←hl,List.getElem_cons_drop,Rs]
 have q:(j.setIfInBounds i true).toList=j.toList.take i++true::j.toList.drop (i+1):=by
  rw[aTw,aH6,Di Gs]
 rw[q]
 conv=>rhs;rw[e]
 simp[Py];omega
def written (ops:C9 Oper):A8 Tmp:=ops.toList.filterMap (·.dst)
def XR (ops:C9 Oper):AZ:=(List.range ops.size).all fun i=>(List.range ops.size).all fun j=>i==j||match(ops[i]?).bind (·.dst),(ops[j]?).bind (·.dst)with
 |some d,some q=>d != q
 |_,_=>true
def Vq (ops:C9 Oper) (n:Nat):AZ:=(written ops).all fun d=>d<n
def aVm (h:XR ops=true):∀(i j:Nat) (o q:Oper) (d:Tmp),ops[i]? =some o->ops[j]? =some q->o.dst=some d->q.dst=some d->i=j:=by
 intro i j o q d u z I J;unfold XR at h;rw[El]at h;have hi:i<ops.size:=(H6.1 u).1;have L:j<ops.size:=(H6.1 z).1;have :=h i Gs;rw[El]at this;have :=this j YM;rw[u,z]at this;simp[I,J]at this;exact this
def aVJ {i:Nat} {o:Oper} {d:Tmp} (h:ops[i]? =some o) (hd:o.dst=some d):d∈written ops:=by
 unfold written;rw[VA]
 exact⟨o,by
  have⟨hi,j⟩:=H6.1 h
  rw[←j];exact Array.getElem_mem_toList hi,hd⟩
def aQW {a:Act} {d:Tmp} {v:Au} (h:d<a.tmps.size):(a.put (some d) v).tmps.getD d undef=v:=by
 simp[Act.put,Array.getD,h]
def aOf {a:Act} {d t:Tmp} {v:Au} (h:d≠t):(a.put (some d) v).tmps.getD t undef=a.tmps.getD t undef:=by
 simp[Act.put,J8,Ol h]
def size_put {a:Act} {d:AL Tmp} {v:Au}:(a.put d v).tmps.size=a.tmps.size:=by cases d<;>simp[Act.put]
def aQP {a:Act} {d:AL Tmp} {v:Au}:(a.put d v).defers=a.defers:=by cases d<;>rfl
end
def X8 (ops:C9 Oper) (σ:BO) (g:AL (Nat×AZ)):Prop:=g=none\/
 ∃j q d b,g=some (j,q)/\(ops[j]?).bind (·.dst)=some d/\σ.slots.getD d .junk=.d (.lit (.bool b))/\b=q
def Yj (ops:C9 Oper) (σ:BO) (g:AL (Nat×AZ)):Prop:=
 ∃j q d v,g=some (j,q)/\(ops[j]?).bind (·.dst)=some d/\σ.slots.getD d .junk=.d (.lit v)/\(v=.bool (!q)\/v=undef)
def aaL {ops:C9 Oper} {σ:BO} {g:AL (Nat×AZ)} (j:Nat) (q:AZ) (d:Nat) (b:AZ) (u:g=some (j,q)) (hd:(ops[j]?).bind (·.dst)=some d) (hs:σ.slots.getD d .junk=.d (.lit (.bool b))) (z:b= !q):Yj ops σ g:=⟨j,q,d,_,u,hd,hs,.inl (by rw[z])⟩
def afa {ops:C9 Oper} {σ:BO} {g:AL (Nat×AZ)} (j:Nat) (q:AZ) (d:Nat) (u:g=some (j,q)) (hd:(ops[j]?).bind (·.dst)=some d) (hs:σ.slots.getD d .junk=.d (.lit undef)):Yj ops σ g:=⟨j,q,d,_,u,hd,hs,.inr rfl⟩
def R.bool {ok:Nat->Prop} {w:BU} {H:A8 CP} {u v:Au} (h:R ok w H (.d (.lit u)) v):v=u:=by
 cases h with |d _ _ h=>cases h;rfl
def anq {C:Ey} {ok:Nat->Prop} {H:A8 CP} {σ:BO} {a:Act} {w:BU} (h:Holds C ok H σ a w) {ops:C9 Oper} {j d:Nat} {v:Au}
 (z:(ops[j]?).bind (·.dst)=some d) (q:σ.slots.getD d .junk=.d (.lit v)):yielded ops a.tmps j=(match v with | .bool b=>some b|_=>none):=by
 have hd:d<σ.slots.length:=by
  apply aS;intro I;rw[qA I]at q;cases q
 have u:=(q▸h.slot d hd).bool
 have hs:a.tmps[d]? =some v:=by
  have :d<a.tmps.size:=by rw[h.size];exact hd
  simp[Array.getD,this]at u;simp[this,u]
 unfold yielded;rw[z];simp only[Ad,hs];cases v<;>rfl
def al1 {C:Ey} {ok:Nat->Prop} {H:A8 CP} {σ:BO} {a:Act} {w:BU} (h:Holds C ok H σ a w) {ops:C9 Oper} {j d:Nat} {b:AZ}
 (z:(ops[j]?).bind (·.dst)=some d) (q:σ.slots.getD d .junk=.d (.lit (.bool b))):yielded ops a.tmps j=some b:=by
 have hd:d<σ.slots.length:=by
  apply aS;intro I;rw[qA I]at q;cases q
 have u:=(q▸h.slot d hd).bool
 have hs:a.tmps[d]? =some (.bool b):=by
  have :d<a.tmps.size:=by rw[h.size];exact hd
  simp[Array.getD,this]at u;simp[this,u]
 unfold yielded;rw[z];simp only[Ad,hs]
def Qe {C:Ey} {ok:Nat->Prop} {H:A8 CP} {σ:BO} {a:Act} {w:BU} (h:Holds C ok H σ a w) {ops:C9 Oper} {o:Oper} (q:X8 ops σ o.guard):Region.wanted o (yielded ops a.tmps)=true:=by
 unfold Region.wanted;rcases q with q|⟨j,u,d,b,q,z,I,rfl⟩
 ·rw[q]
 rw[q];show(yielded ops a.tmps j==some b)=true;rw[al1 h z I];simp
def aMc {C:Ey} {ok:Nat->Prop} {H:A8 CP} {σ:BO} {a:Act} {w:BU} (h:Holds C ok H σ a w) {ops:C9 Oper} {o:Oper} (u:Yj ops σ o.guard):Region.wanted o (yielded ops a.tmps)=false:=by
 unfold Region.wanted;obtain⟨j,q,d,v,u,z,I,J⟩:=u;rw[u];show(yielded ops a.tmps j==some q)=false;rw[anq h z I];rcases J with rfl|rfl
 ·simp
 rfl
def needs (σ:BO):A8 (CM×Af)->Prop
 | []=>True
 |n::ns=>σ.get n.1=n.2/\needs σ ns
def RX {σ:BO}:∀{ns:A8 (CM×Af)},needs σ ns->∀n∈ns,σ.get n.1=n.2
 | [],_,n,h=>Ip
 |m::ns,j,n,h=>by
  rcases FK.1 h with rfl|h
  ·exact j.1
  exact RX j.2 n h
def tmpsOf (o:Oper):A8 Tmp:=o.op.operands.toList.filterMap fun | .tmp t=>some t|_=>none
def NJ (ns:A8 (CM×Af)):A8 Tmp:=ns.filterMap fun n=>match n.1 with | .tmp t=>some t|_=>none
def Ry (P:Ce) (ops:C9 Oper) (σ:BO) (x:Af) (E:A8 Bd) (bar:AZ) (o:Oper):Prop:=
 ((∃ns,CQ P o ns σ.ents x E/\needs σ ns/\(NJ ns).all (tmpsOf o).contains=true/\X8 ops σ o.guard)\/(x=.d (.lit undef)/\E=σ.ents/\Yj ops σ o.guard))/\(bar=false->E=σ.ents)
def aRc {P:Ce} {ops:C9 Oper} {σ:BO} {x:Af} {o:Oper} {ns:A8 (CM×Af)} (h:CQ P o ns σ.ents x σ.ents) (j:needs σ ns) (q:X8 ops σ o.guard) (ht:(NJ ns).all (tmpsOf o).contains=true):Ry P ops σ x σ.ents false o:=
 ⟨.inl ⟨ns,h,j,ht,q⟩,fun _=>rfl⟩
def JO (ro:AL Nat):Fence:={ fn:=fun _=>True,depth:=none,alive:=false,round:=ro }
def aEI {ro:AL Nat} {n:Nat} {P:Ce} {f:FuncId} {args:C9 Au} {w:BU} {R:Ending->BU->Prop}:CallsIn (JO ro) n P f args w R↔Calls P f args w R:=
 callsIn_wide (n:=n)
def afv {ro:AL Nat} {n:Nat} {P:Ce} {j:String} {args:C9 Au} {w:BU} {R:Au->BU->Prop} (h:Rows P j args w R):RowsIn (JO ro) n P j args w R:=
 fun c cs _=>let⟨v,w',r,s⟩:=h c cs;⟨v,w',r,(stepsIn_wide (P:=P)).2 s⟩
def CQ.aDv {P:Ce} {o:Oper} {ns:A8 (CM×Af)} {es es':A8 Bd} {x:Af} (h:CQ P o ns es x es') {C:Ey} {ok:Nat->Prop} {H:A8 CP} {a:Act} {w:BU} (hm:E5 C ok H es w) (u:∀n∈ns,R ok w H n.2 (a.eval n.1)):∀c,o.op≠ .defer c:=by
 intro c z;have j:=h C ok H a w (fun _ _ _=>False) hm u;unfold Oper.wp execOp at j;rw[z]at j;simp only[G6]at j;cases q:(resolve a.eval c o.type).run P w with
 |ok d w'=>
  rw[q]at j;simp only[Result.andThen]at j;obtain⟨v,_,_,I,_⟩:=j;have :=BK (fun a=>a.defers.length) I;cases J:o.dst<;>simp[Act.put,J]at this
 |halt x w'=>
  rw[q]at j;cases x<;>exact j
def CQ.inR {P:Ce} {o:Oper} {ns:A8 (CM×Af)} {es es':A8 Bd} {x:Af} (h:CQ P o ns es x es') (ro:AL Nat) (C:Ey) (ok:Nat->Prop) (H:A8 CP) (a:Act) (w:BU) (Q:Exit->Act->BU->Prop)
 (hm:E5 C ok H es w) (q:∀n∈ns,R ok w H n.2 (a.eval n.1)):
 o.wpIn (JO ro) 0 P a w (fun a' w'=>∃v ok' H',a'=a.put o.dst v/\Et ok w ok' w'/\Names H H'/\E5 C ok' H' es' w'/\R ok' w' H' x v) Q:=by
 have j:=h C ok H a w Q hm q;refine⟨fun _ _=>trivial,?_⟩;rw[mJ _ _ _ (h.aDv hm q)];unfold Oper.wp at j;generalize(execOp a.eval o).run P w=r at j;cases r with
 |ok n w'=>
  cases n<;>first
   |exact j
   |exact j.elim
   |exact⟨fun h=>Ib,aEI.2 j⟩
   |exact⟨fun h=>Ib,afv j⟩
 |halt x w'=>cases x<;>exact j
inductive Chain (P:Program) (ops:Array Oper):List Oper->BO->BO->Prop
 |nil (σ:BO):Chain P ops [] σ σ
 |op {o:Oper} {rest:List Oper} {σ σ':BO} {ns:List (Operand×Af)} {x:Af} (d:Option Tmp) (h:CQ P o ns σ.ents x σ.ents) (hn:needs σ ns) (hg:X8 ops σ o.guard) (hd:o.dst=d)
  (k:Chain P ops rest (σ.sG d x) σ'):Chain P ops (o::rest) σ σ'
 |oe {o:Oper} {rest:List Oper} {σ σ':BO} {ns:List (Operand×Af)} {x:Af} {es':List Bd} (d:Option Tmp) (E:List Bd) (h:CQ P o ns σ.ents x es') (he:es'=E) (hn:needs σ ns) (hg:X8 ops σ o.guard) (hd:o.dst=d)
  (k:Chain P ops rest (σ.put d x E) σ'):Chain P ops (o::rest) σ σ'
 |skip {o:Oper} {rest:List Oper} {σ σ':BO} (d:Option Tmp) (hg:Yj ops σ o.guard) (hd:o.dst=d) (k:Chain P ops rest (σ.sG d (.d (.lit undef))) σ'):Chain P ops (o::rest) σ σ'
 |any {o:Oper} {rest:List Oper} {σ σ':BO} {x:Af} (d:Option Tmp) (h:Ry P ops σ x σ.ents false o) (hd:o.dst=d) (k:Chain P ops rest (σ.sG d x) σ'):Chain P ops (o::rest) σ σ'
 |ahM {o:Oper} {rest:List Oper} {σ σ':BO} {x:Af} {E:List Bd} {bar:Bool} (d:Option Tmp) (h:Ry P ops σ x E bar o) (hd:o.dst=d) (k:Chain P ops rest (σ.put d x E) σ'):Chain P ops (o::rest) σ σ'
 |conv {rest:List Oper} {σ σ':BO} (σ2:BO) (h:∀C ok H a w,Holds C ok H σ a w->∃ok',Holds C ok' H σ2 a w) (k:Chain P ops rest σ2 σ'):Chain P ops rest σ σ'
def Chain.sound {P:Ce} {ops:C9 Oper} {l:A8 Oper} {σ σ':BO} (h:Chain P ops l σ σ') {ro:AL Nat} {C:Ey} {H0:A8 CP} {Q:Exit->Act->BU->Prop}:
 ∀{ok:Nat->Prop} {H:A8 CP} {a:Act} {w:BU},Holds C ok H σ a w->Names H0 H->(∀ok' H' a' w',Holds C ok' H' σ' a' w'->Names H0 H'->Q .normal a' w')->wpListIn (JO ro) 0 P ops Q l a w:=by
 induction h with
 |nil σ=>intro ok H a w j O z;exact z ok H a w j O
 | @op o rest σ σ' ns x d U O L hd k M=>
   intro ok H a w j q z;subst hd;unfold wpListIn;rw[Di (Qe j L)];refine S9 ?_ (U.inR ro C ok H a w Q j.mem (fun n I=>RX O n I▸j.get n.1));rintro a' w' ⟨v,ok',H',rfl,J,u,hm,Y⟩;exact M (j.put o.dst J u hm Y) (q.trans u) z
 | @oe o rest σ σ' ns x es' d E U he O L hd k M=>
   intro ok H a w j q z;subst hd;subst he;unfold wpListIn;rw[Di (Qe j L)];refine S9 ?_ (U.inR ro C ok H a w Q j.mem (fun n I=>RX O n I▸j.get n.1));rintro a' w' ⟨v,ok',H',rfl,J,u,hm,Y⟩;exact M (j.put o.dst J u hm Y) (q.trans u) z
 | @skip o rest σ σ' d L hd k M=>
   intro ok H a w j q z;subst hd;unfold wpListIn;rw[Dp kZ];exact⟨fun _ _=>trivial,M (j.put o.dst (.refl _ _) (.refl _) j.mem (.d _ _ (.lit _))) q z⟩
 | @any o rest σ σ' x d hs hd k M=>
   intro ok H a w j q z;subst hd;unfold wpListIn;rcases hs.1 with⟨ns,U,O,_,L⟩|⟨rfl,_,L⟩
   ·rw[Di (Qe j L)];refine S9 ?_ (U.inR ro C ok H a w Q j.mem (fun n I=>RX O n I▸j.get n.1));rintro a' w' ⟨v,ok',H',rfl,J,u,hm,Y⟩;exact M (j.put o.dst J u hm Y) (q.trans u) z
   rw[Dp kZ];exact⟨fun _ _=>trivial,M (j.put o.dst (.refl _ _) (.refl _) j.mem (.d _ _ (.lit _))) q z⟩
 | @ahM o rest σ σ' x E bar d hs hd k M=>
   intro ok H a w j q z;subst hd;unfold wpListIn;rcases hs.1 with⟨ns,U,O,_,L⟩|⟨rfl,rfl,L⟩
   ·rw[Di (Qe j L)];refine S9 ?_ (U.inR ro C ok H a w Q j.mem (fun n I=>RX O n I▸j.get n.1));rintro a' w' ⟨v,ok',H',rfl,J,u,hm,Y⟩;exact M (j.put o.dst J u hm Y) (q.trans u) z
   rw[Dp kZ];exact⟨fun _ _=>trivial,M (j.put o.dst (.refl _ _) (.refl _) j.mem (.d _ _ (.lit _))) q z⟩
 |conv σ2 hc k M=>
  intro ok H a w j q z;obtain⟨ok',Z⟩:=hc C ok H a w j;exact M Z q z
def QL :Code->AZ
 | .seq a b=>QL a&&QL b
 | .cond _ a b=>QL a&&QL b
 | .block _ a=>QL a
 | .loop a=>QL a
 | .scope a=>QL a
 | .rangeFunc .. =>false
 |_=>true
def uF (ro:AL Nat) (c:Code):Prop:=ro=none\/QL c=true
def uF.two {ro:AL Nat} {c x y:Code} (h:uF ro c) (e:QL c=(QL x&&QL y)):uF ro x/\uF ro y:=by
 rcases h with h|h
 ·exact⟨.inl h,.inl h⟩
 rw[e,Du]at h;exact⟨.inr h.1,.inr h.2⟩
def aeF (P:Ce) (c:Code) (σ:BO) (Q:Exit->BO->Prop):Prop:=
 ∀(ro:AL Nat),uF ro c->∀(C:Ey) (ok:Nat->Prop) (H:A8 CP) (a:Act) (w:BU),Holds C ok H σ a w->c.wpIn (JO ro) 0 P (fun e a' w'=>∃ok' H' σ',Holds C ok' H' σ' a' w'/\Q e σ') a w
structure Bv (P:Program) (c:Code) (σ:BO) (Q:Exit->BO->Prop):Prop where
 run:aeF P c σ Q
section
variable {P:Ce} {σ σ':BO} {Q:Exit->BO->Prop}
def Bv.mono {c:Code} {Q':Exit->BO->Prop} (h:Bv P c σ Q) (j:∀e σ,Q e σ->Q' e σ):Bv P c σ Q':=
 ⟨fun ro q C ok H a w u=>Ua (h.run ro q C ok H a w u) fun _ _ _ ⟨ok',H',σ',z,I⟩=>⟨ok',H',σ',z,j _ _ I⟩⟩
def Bv.region {id:Nat} {ops:C9 Oper} (h:Chain P ops ops.toList σ σ') (j:Q .normal σ'):Bv P (.region id ops false) σ Q:=⟨fun ro _ C ok H a w q=>
 aRJ (h.sound q (.refl H) fun ok' H' a' w' u _=>⟨ok',H',σ',u,j⟩)⟩
def Bv.skip (h:Q .normal σ):Bv P .skip σ Q:=⟨fun _ _ _ ok H a w j=>wpIn_skip ⟨ok,H,σ,j,h⟩⟩
def GL:=@Bv.skip
def Bv.label {l:Nat} (h:Q .normal σ):Bv P (.label l) σ Q:=⟨fun _ _ _ ok H a w j=>wpIn_label ⟨ok,H,σ,j,h⟩⟩
def Bv.exit {i:Nat} (h:Q (.exit i) σ):Bv P (.exit i) σ Q:=⟨fun _ _ _ ok H a w j=>wpIn_exit ⟨ok,H,σ,j,h⟩⟩
def D8:=@Bv.exit
def Bv.ret (h:Q .ret σ):Bv P .ret σ Q:=⟨fun _ _ _ ok H a w j=>wpIn_ret ⟨ok,H,σ,j,h⟩⟩
def Ep:=@Bv.ret
def Jp (K:BO->Prop) (Q:Exit->BO->Prop):Exit->BO->Prop
 | .normal,σ=>K σ
 |e,σ=>Q e σ
def Bv.seq {x y:Code} (K:BO->Prop) (z:Bv P x σ (Jp K Q)) (I:∀σ',K σ'->Bv P y σ' Q):Bv P (.seq x y) σ Q:=⟨fun ro j C ok H a w J=>
 wpIn_seq (Ua (z.run ro (j.two rfl).1 C ok H a w J) (by
  rintro e a' w' ⟨ok',H',σ',q,u⟩;cases e with
  |normal=>exact(I σ' u).run ro (j.two rfl).2 C ok' H' a' w' q
  |_=>exact⟨ok',H',σ',q,u⟩))⟩
def Bv.seq1 {x y:Code} (j:BO) (q:Bv P x σ (Jp (fun σ'=>σ'=j) Q)) (u:Bv P y j Q):Bv P (.seq x y) σ Q:=Bv.seq _ q (fun _ e=>e▸u)
def Bv.cond {c:CM} {x y:Code} (b:AZ) (u:σ.get c=.d (.lit (.bool b))) (ht:b=true->Bv P x σ Q) (z:b=false->Bv P y σ Q):Bv P (.cond c x y) σ Q:=by
 refine⟨fun ro q C ok H a w j=>?_⟩;have e:=(u▸j.get c).bool;exact wpIn_cond_split e (fun h=>(ht h).run ro (q.two rfl).1 C ok H a w j) (fun h=>(z h).run ro (q.two rfl).2 C ok H a w j)
def aRq (i:Nat) (Q:Exit->BO->Prop):Exit->BO->Prop
 | .exit j,σ=>if j=i then Q .normal σ else Q (.exit j) σ
 |e,σ=>Q e σ
def Bv.block {i:Nat} {c:Code} (h:Bv P c σ (aRq i Q)):Bv P (.block i c) σ Q:=⟨fun ro I C ok H a w J=>
 wpIn_block (Ua (h.run ro I C ok H a w J) (by
  rintro e a' w' ⟨ok',H',σ',u,q⟩;cases e with
  |exit j=>
   show if j=i then _ else _
   simp only[aRq]at q;split<;>rename_i z
   ·rw[Di z]at q;exact⟨ok',H',σ',u,q⟩
   rw[Dp z]at q;exact⟨ok',H',σ',u,q⟩
  |_=>exact⟨ok',H',σ',u,q⟩))⟩
def Aj:=@Bv.block
def amo {ro:AL Nat} {P:Ce} {Q:Exit->Act->BU->Prop} {c:Code} (I:Nat->Act->BU->Prop)
 (round:∀n a w,I n a w->c.wpIn (JO ro) 0 P (Exit.then (fun a' w'=>∃m,m<n/\I m a' w') Q) a w):∀n a w,I n a w->(Code.loop c).wpIn (JO ro) 0 P Q a w:=by
 intro n a w Z b k cs J L M
 have key:∀n a w,I n a w->∃e a' w',Q e a' w'/\ArrivesIn (Machine.fenced P (JO ro)) P (lone (b.atR a (.code c::.inLoop c::k)) cs w) b k cs e a' w':=by
  intro n
  induction n using Nat.strongRecOn with
  |_ n ih=>
   intro a w hI;obtain⟨e,u,z,j,harr⟩:=round n a w hI b (.inLoop c::k) cs J L M;cases e with
   |normal=>
    obtain⟨m,O,U⟩:=j;obtain⟨e₂,a₂,w₂,Y,q⟩:=ih m O u z U;exact⟨e₂,a₂,w₂,Y,.of_steps (StepsIn.trans harr (.one (fenced_calm L M rfl) stepR_inLoop)) q⟩
   |exit id=>exact⟨_,u,z,j,.pass (x:=.inLoop c) rfl (fun _ _=>.inl Bh) harr⟩
   |goto l=>exact⟨_,u,z,j,.pass (x:=.inLoop c) rfl (fun _ _=>.inl Bh) harr⟩
   |ret=>exact⟨_,u,z,j,.pass (x:=.inLoop c) rfl (fun _ _=>.inl Bh) harr⟩
   |panic ch=>exact⟨_,u,z,j,.pass (x:=.inLoop c) rfl (fun _ _=>.inl Bh) harr⟩
   |outgrown=>exact⟨_,u,z,j,.pass (x:=.inLoop c) rfl (fun _ _=>.inl Bh) harr⟩
 obtain⟨e,a',w',j,harr⟩:=key n a w Z;exact⟨e,a',w',j,.of_steps (.one (fenced_calm L M rfl) stepR_loop) harr⟩
def Bv.loop {c:Code} (I:Nat->BO->Prop) (n:Nat) (h:I n σ) (round:∀n σ,I n σ->Bv P c σ (Jp (fun σ'=>∃m,m<n/\I m σ') Q)):Bv P (.loop c) σ Q:=by
 refine⟨fun ro J C ok H a w j=>?_⟩;refine amo (fun n a w=>∃ok H σ,Holds C ok H σ a w/\I n σ) ?_ n a w ⟨ok,H,σ,j,h⟩;rintro n a w ⟨ok,H,σ,j,L⟩;refine Ua ((round n σ L).run ro J C ok H a w j) ?_;rintro e a' w' ⟨ok',H',σ',u,z⟩;cases e with
 |normal=>obtain⟨m,hm,q⟩:=z;exact⟨m,hm,ok',H',σ',u,q⟩
 |_=>exact⟨ok',H',σ',u,z⟩
end
def Bv.sub {P:Ce} {σ S:BO} {Q:Exit->BO->Prop} {c:Code} (hs:CX σ S) (h:Bv P c S Q):Bv P c σ Q:=⟨fun ro j C ok H a w q=>by
 obtain⟨ok',H',h'⟩:=hs C ok H a w q
 exact h.run ro j C ok' H' a w h'⟩
def DF:=@Bv.sub
section
variable {P:Ce} {ops:C9 Oper} {Q:Exit->Act->BU->Prop}
def aMj {F:Fence} {n:Nat} (I:C9 AZ->Act->BU->Prop) (j:∀l a w,I l a w->l.size=ops.size)
 (z:∀l a w,I l a w->∀i,i∈Region.ready .any ops l->wpOpIn F n P ops Q i (fun a' w'=>I (l.setIfInBounds i true) a' w') a w)
 (u:∀l a w,I l a w->Region.ready .any ops l=[]->Q .normal a w):
 ∀(Ap:Nat) l a w,toCome l<=Ap->I l a w->wpAnyIn F n P .any ops Q Ap l a w:=by
 intro Ap
 induction Ap with
 |zero=>
  intro l a w O L
  have U:Region.ready .any ops l=[]:=by
   unfold Region.ready;rw[rP];intro i hi;have J:i<l.size:=by rw[j l a w L];simpa using hi
   have Y:l.toList.filter (!·)=[]:=Hg (by unfold toCome at O;omega);rw[rP]at Y;have :=Y (l[i]) Bh;have M:l[i]=true:=aMi
   simp[Array.getD,J,M]
  exact⟨U,u l a w L U⟩
 |succ Ap Z=>
  intro l a w O L;refine⟨u l a w L,fun i hi=>?_⟩;have q:=hi;unfold Region.ready at q;rw[Hy]at q;have J:i<l.size:=by rw[j l a w L];simpa using q.1
  have hf:l.getD i true=false:=by
   have :=q.2;simp only[Du,ND]at this;exact this.1
  have hs:=toCome_set J hf;exact wpOpIn_mono (fun a' w' h=>Z _ a' w' AB h) (z l a w L i hi)
end
def Ik (o:Oper) (j:Nat):AZ:=o.after.toList.any fun e=>e.on=j&&Region.binds .any e
def Xe (ops:C9 Oper):AZ:=(List.range ops.size).all fun i=>match ops[i]? with
 |some o=>((List.range ops.size).all fun j=>match(ops[j]?).bind (·.dst)with
  |some d=> !(tmpsOf o).contains d||Ik o j||(match ops[j]? with |some q=>Ik q i|none=>false)
  |none=>true)&&(match o.guard with |some (j,_)=>Ik o j|none=>true)
 |none=>true
inductive FZ (P:Program) (ops:Array Oper):List Oper->BO->List Af->List (List Bd)->List Bool->BO->Prop
 |nil (σ:BO):FZ P ops [] σ [] [] [] σ
 |op {o:Oper} {rest:List Oper} {σ σ':BO} {ns:List (Operand×Af)} {x:Af} {rs:List Af} {ess:List (List Bd)} {bs:List Bool} (d:Option Tmp) (h:CQ P o ns σ.ents x σ.ents) (hn:needs σ ns)
  (hg:X8 ops σ o.guard) (hd:o.dst=d) (ht:(NJ ns).all (tmpsOf o).contains=true) (k:FZ P ops rest (σ.sG d x) rs ess bs σ'):FZ P ops (o::rest) σ (x::rs) (σ.ents::ess) (false::bs) σ'
 |oe {o:Oper} {rest:List Oper} {σ σ':BO} {ns:List (Operand×Af)} {x:Af} {es':List Bd} {rs:List Af} {ess:List (List Bd)} {bs:List Bool} (d:Option Tmp) (E:List Bd) (h:CQ P o ns σ.ents x es') (he:es'=E) (hn:needs σ ns)
  (hg:X8 ops σ o.guard) (hd:o.dst=d) (ht:(NJ ns).all (tmpsOf o).contains=true) (k:FZ P ops rest (σ.put d x E) rs ess bs σ'):FZ P ops (o::rest) σ (x::rs) (E::ess) (true::bs) σ'
 |any {o:Oper} {rest:List Oper} {σ σ':BO} {x:Af} {rs:List Af} {ess:List (List Bd)} {bs:List Bool} (d:Option Tmp) (h:Ry P ops σ x σ.ents false o) (hd:o.dst=d) (k:FZ P ops rest (σ.sG d x) rs ess bs σ'):FZ P ops (o::rest) σ (x::rs) (σ.ents::ess) (false::bs) σ'
 |ahM {o:Oper} {rest:List Oper} {σ σ':BO} {x:Af} {E:List Bd} {bar:Bool} {rs:List Af} {ess:List (List Bd)} {bs:List Bool} (d:Option Tmp) (h:Ry P ops σ x E bar o) (hd:o.dst=d) (k:FZ P ops rest (σ.put d x E) rs ess bs σ'):FZ P ops (o::rest) σ (x::rs) (E::ess) (bar::bs) σ'
 |skip {o:Oper} {rest:List Oper} {σ σ':BO} {rs:List Af} {ess:List (List Bd)} {bs:List Bool} (d:Option Tmp) (hg:Yj ops σ o.guard) (hd:o.dst=d) (k:FZ P ops rest (σ.sG d (.d (.lit undef))) rs ess bs σ'):FZ P ops (o::rest) σ (.d (.lit undef)::rs) (σ.ents::ess) (false::bs) σ'
section
variable {P:Ce} {ops:C9 Oper} {es:A8 Bd}
def GU (ops:C9 Oper) (σ0:BO) (r:Nat->Af) (ev:Nat->A8 Bd):Nat->BO
 |0=>σ0
 |i+1=>match ops[i]? with
  |some o=>(GU ops σ0 r ev i).put o.dst (r i) (ev i)
  |none=>GU ops σ0 r ev i
def FZ.azt (N:Nat) {l:A8 Oper} {σ σ':BO} {rs:A8 Af} {ess:A8 (A8 Bd)} {bs:A8 AZ} (h:FZ P ops l σ rs ess bs σ') (σ0:BO) (r:Nat->Af) (ev:Nat->A8 Bd) (bar:Nat->AZ):∀i,(∀k:Nat,k<l.length->l[k]? =ops[i+k]?)->i+l.length=N->σ=GU ops σ0 r ev i->
 (∀(k:Nat) y,rs[k]? =some y->r (i+k)=y)->(∀(k:Nat) y,ess[k]? =some y->ev (i+k)=y)->(∀(k:Nat) y,bs[k]? =some y->bar (i+k)=y)->
 (∀j (o:Oper),i<=j->j<N->ops[j]? =some o->Ry P ops (GU ops σ0 r ev j) (r j) (ev j) (bar j) o)/\σ'=GU ops σ0 r ev N:=by
 induction h with
 |nil σ=>
  intro i hl J I M _ _;have :i=N:=SS
  subst this;exact⟨fun j o Z L ho=>AB,I⟩
 | @op o rest σ σ' ns x rs ess bs d ho hn hg hd ht k ih=>
   intro i hl J I M O hb;subst hd;have U:ops[i]? =some o:=vZ
   have Y:r i=x:=aDg
   have u:ev i=σ.ents:=aGA
   obtain⟨h1,h2⟩:=ih (i+1) (fun k hk=>oQ) iT (by
    rw[BO.ao7];simp only[GU,U,Y,u];rw[←I]) (fun k y z=>zM)
    (fun k y z=>zG) (fun k y z=>zq)
   refine⟨fun j o' Z L q=>?_,h2⟩;by_cases e:i=j
   ·subst e;rw[U]at q;obtain rfl:=Dq q;exact⟨.inl ⟨ns,by rw[Y,u,←I];exact ho,I▸hn,ht,I▸hg⟩,fun _=>by rw[u,←I]⟩
   exact h1 j o' AB L q
 | @oe o rest σ σ' ns x es' rs ess bs d E ho hE hn hg hd ht k ih=>
   intro i hl J I M O hb;subst hd;subst hE;have U:ops[i]? =some o:=vZ
   have Y:r i=x:=aDg
   have u:ev i=es':=by simpa using O 0 es' Bh
   have hbr:bar i=true:=by simpa using hb 0 true Bh
   obtain⟨h1,h2⟩:=ih (i+1) (fun k hk=>oQ) iT (by
    simp only[GU,U,Y,u];rw[←I]) (fun k y z=>zM)
    (fun k y z=>zG) (fun k y z=>zq)
   refine⟨fun j o' Z L q=>?_,h2⟩;by_cases e:i=j
   ·subst e;rw[U]at q;obtain rfl:=Dq q;exact⟨.inl ⟨ns,by rw[Y,u,←I];exact ho,I▸hn,ht,I▸hg⟩,fun hf=>by rw[hbr]at hf;cases hf⟩
   exact h1 j o' AB L q
 | @any o rest σ σ' x rs ess bs d hs hd k ih=>
   intro i hl J I M O hb;subst hd;have U:ops[i]? =some o:=vZ
   have Y:r i=x:=aDg
   have u:ev i=σ.ents:=aGA
   obtain⟨h1,h2⟩:=ih (i+1) (fun k hk=>oQ) iT (by
    rw[BO.ao7];simp only[GU,U,Y,u];rw[←I]) (fun k y z=>zM)
    (fun k y z=>zG) (fun k y z=>zq)
   refine⟨fun j o' Z L q=>?_,h2⟩;by_cases e:i=j
   ·subst e;rw[U]at q;obtain rfl:=Dq q;refine⟨?_,fun _=>by rw[u,←I]⟩;rw[Y,u,←I];exact hs.1
   exact h1 j o' AB L q
 | @ahM o rest σ σ' x E br rs ess bs d hs hd k ih=>
   intro i hl J I M O hb;subst hd;have U:ops[i]? =some o:=vZ
   have Y:r i=x:=aDg
   have u:ev i=E:=by simpa using O 0 E Bh
   have hbr:bar i=br:=by simpa using hb 0 br Bh
   obtain⟨h1,h2⟩:=ih (i+1) (fun k hk=>oQ) iT (by
    simp only[GU,U,Y,u];rw[←I]) (fun k y z=>zM)
    (fun k y z=>zG) (fun k y z=>zq)
   refine⟨fun j o' Z L q=>?_,h2⟩;by_cases e:i=j
   ·subst e;rw[U]at q;obtain rfl:=Dq q;rw[Y,u,hbr,←I];exact hs
   exact h1 j o' AB L q
 | @skip o rest σ σ' rs ess bs d hg hd k ih=>
   intro i hl J I M O hb;subst hd;have U:ops[i]? =some o:=vZ
   have Y:r i=.d (.lit undef):=by simpa using M 0 (.d (.lit undef)) Bh
   have u:ev i=σ.ents:=aGA
   obtain⟨h1,h2⟩:=ih (i+1) (fun k hk=>oQ) iT (by
    rw[BO.ao7];simp only[GU,U,Y,u];rw[←I]) (fun k y z=>zM)
    (fun k y z=>zG) (fun k y z=>zq)
   refine⟨fun j o' Z L q=>?_,h2⟩;by_cases e:i=j
   ·subst e;rw[U]at q;obtain rfl:=Dq q;exact⟨.inr ⟨Y,by rw[u,←I],I▸hg⟩,fun _=>by rw[u,←I]⟩
   exact h1 j o' AB L q
def FZ.facts {l:A8 Oper} {σ σ':BO} {rs:A8 Af} {ess:A8 (A8 Bd)} {bs:A8 AZ} (h:FZ P ops l σ rs ess bs σ') (σ0:BO) (r:Nat->Af) (ev:Nat->A8 Bd) (bar:Nat->AZ):∀i,(∀k:Nat,l[k]? =ops[i+k]?)->i+l.length=ops.size->σ=GU ops σ0 r ev i->
 (∀(k:Nat) y,rs[k]? =some y->r (i+k)=y)->(∀(k:Nat) y,ess[k]? =some y->ev (i+k)=y)->(∀(k:Nat) y,bs[k]? =some y->bar (i+k)=y)->
 (∀j (o:Oper),i<=j->ops[j]? =some o->Ry P ops (GU ops σ0 r ev j) (r j) (ev j) (bar j) o)/\σ'=GU ops σ0 r ev ops.size:=by
 intro i hl q I J L M;obtain⟨O,U⟩:=h.azt ops.size σ0 r ev bar i (fun k _=>hl k) q I J L M;exact⟨fun j o u z=>O j o u (H6.1 z).1 z,U⟩
def Xp {σ0:BO} {r:Nat->Af} {ev:Nat->A8 Bd} {t:Nat}:∀i,(∀j (o:Oper),j<i->ops[j]? =some o->o.dst≠some t)->(GU ops σ0 r ev i).slots.getD t .junk=σ0.slots.getD t .junk
 |0,_=>rfl
 |i+1,h=>by
  have q:=Xp (σ0:=σ0) (r:=r) (ev:=ev) i (fun j o J u=>h j o AB u);simp only[GU];split
  ·rename_i o u;have z:=h i o AB u;cases hd:o.dst with
   |none=>exact q
   |some d=>
    have I:d≠t:=fun e=>z (by rw[hd,e]);show((GU ops σ0 r ev i).slots.set d (r i)).getD t .junk=_;rw[←q];simp[List.getD,dZ I]
  exact q
def Xw {σ0:BO} {r:Nat->Af} {ev:Nat->A8 Bd}:∀i,(GU ops σ0 r ev i).slots.length=σ0.slots.length
 |0=>rfl
 |i+1=>by
  simp only[GU];split
  ·rename_i o j;cases hd:o.dst with
   |none=>exact Xw i
   |some d=>show((GU ops σ0 r ev i).slots.set d (r i)).length=_;rw[kC];exact Xw i
  exact Xw i
def pF {σ0:BO} {r:Nat->Af} {ev:Nat->A8 Bd}:∀i,(GU ops σ0 r ev i).base=σ0.base
 |0=>rfl
 |i+1=>by
  simp only[GU];split
  ·exact pF i
  exact pF i
def Zg {σ0:BO} {r:Nat->Af} {ev:Nat->A8 Bd} (q:∀(i j:Nat) (o u:Oper) (d:Tmp),ops[i]? =some o->ops[j]? =some u->o.dst=some d->u.dst=some d->i=j) {t j:Nat} {o:Oper} (z:ops[j]? =some o) (hd:o.dst=some t) (ht:t<σ0.slots.length):
 ∀i,j<i->(GU ops σ0 r ev i).slots.getD t .junk=r j
 |0,h=>AB
 |i+1,h=>by
  by_cases e:j=i
  ·subst e;simp only[GU,z,hd];have hl:t<(GU ops σ0 r ev j).slots.length:=by rw[Xw];exact ht
   show((GU ops σ0 r ev j).slots.set t (r j)).getD t .junk=_;simp[List.getD,hl]
  have I:=Zg (r:=r) (ev:=ev) q z hd ht i AB;simp only[GU];split
  ·rename_i u J;cases L:u.dst with
   |none=>exact I
   |some d=>
    have M:d≠t:=fun e'=>e (q j i o u t z J hd (by rw[L,e']));show((GU ops σ0 r ev i).slots.set d (r i)).getD t .junk=_;rw[←I];simp[List.getD,dZ M]
  exact I
def aVR (h:Xe ops=true):∀(i:Nat) (o:Oper),ops[i]? =some o->(∀(j:Nat) (z:Oper) (d:Tmp),ops[j]? =some z->z.dst=some d->d∈tmpsOf o->Ik o j=true\/Ik z i=true)/\(∀j b,o.guard=some (j,b)->Ik o j=true):=by
 intro i o J;unfold Xe at h;rw[El]at h;have hi:i<ops.size:=(H6.1 J).1;have I:=h i Gs;rw[J]at I;simp only[Du,El]at I;refine⟨fun j z d u hd hm=>?_,fun j b L=>?_⟩
 ·have M:j<ops.size:=(H6.1 u).1;have q:=I.1 j (by simpa using M);rw[u]at q;simp only[Ad,hd,ZN,ND]at q;rcases q with(q|q)|q
  ·have :(tmpsOf o).contains d=true:=by simpa using hm
   rw[this]at q;cases q
  ·exact .inl q
  exact .inr q
 have q:=I.2;rw[L]at q;exact q
def Vf (ops:C9 Oper) (bs:A8 AZ):AZ:=(List.range ops.size).all fun i=> !(bs.getD i false)||
 (((List.range i).all fun j=>(List.range (i+1)).any fun m=>j<m&&(match ops[m]? with |some o=>Ik o j|none=>false))&&
  ((List.range ops.size).all fun k=> !decide (i<k)||(List.range k).any fun m=>i<=m&&(match ops[k]? with |some o=>Ik o m|none=>false)))
def vg {bs:A8 AZ} (h:Vf ops bs=true) {i:Nat} (hi:i<ops.size) (O:bs.getD i false=true) {D:Nat->Prop} (hd:∀(j:Nat) (o:Oper),ops[j]? =some o->D j->∀m,Ik o m=true->D m)
 (U:∀(o:Oper),ops[i]? =some o->∀m,Ik o m=true->D m):∀j,j<i->D j:=by
 unfold Vf at h;rw[El]at h;have I:=h i Gs;simp only[O,FB,Nr,Du,El]at I
 have key:∀n j,i-j<=n->j<i->D j:=by
  intro n
  induction n with
  |zero=>intro j Y J;omega
  |succ n Z=>
   intro j Y J;have L:=I.1 j SS;rw[Iu]at L;obtain⟨m,hm,M⟩:=L;simp only[zK]at hm;simp only[Du,I8]at M;obtain⟨h6,q⟩:=M;have u:m<ops.size:=AB
   have z:ops[m]? =some ops[m]:=by simp[u]
   rw[z]at q;by_cases e:m=i
   ·subst e;exact U _ z j q
   exact hd m _ z (Z m AB AB) j q
 exact fun j hj=>key (i-j) j (EZ _) hj
def aRm {bs:A8 AZ} (h:Vf ops bs=true) {i:Nat} (hi:i<ops.size) (Y:bs.getD i false=true) {D:Nat->Prop} (hd:∀(j:Nat) (o:Oper),ops[j]? =some o->D j->∀m,Ik o m=true->D m):
 ∀k,i<k->∀(o:Oper),ops[k]? =some o->(∀m,Ik o m=true->D m)->D i:=by
 unfold Vf at h;rw[El]at h;have L:=h i Gs;simp only[Y,FB,Nr,Du,El]at L;intro k
 induction k using Nat.strongRecOn with
 |_ k Z=>
  intro I o M q;have hk:k<ops.size:=(H6.1 M).1;have O:=L.2 k aY5;simp only[I,decide_true,FB,Nr,Iu]at O;obtain⟨m,hm,U⟩:=O;simp only[zK]at hm;simp only[Du,I8,M]at U;obtain⟨h6,h7⟩:=U;have u:=q m h7;by_cases e:m=i
  ·subst e;exact u
  have J:m<ops.size:=AB
  have z:ops[m]? =some ops[m]:=by simp[J]
  exact Z m hm AB _ z (hd m _ z u)
def Xa (ops:C9 Oper):AZ:=(List.range ops.size).all fun i=>match ops[i]? with
 |some o=>o.after.toList.all fun(e:Edge)=> !Region.binds .any e||(e.on<i)
 |none=>true
def aSo (h:Xa ops=true):∀(i:Nat) (o:Oper),ops[i]? =some o->∀e∈o.after.toList,Region.binds .any e=true->e.on<i:=by
 intro i o j e q u;unfold Xa at h;rw[El]at h;have hi:i<ops.size:=(H6.1 j).1;have :=h i Gs;rw[j]at this;rw[El]at this;have :=this e q;simpa[u]using this
def UM (ops:C9 Oper) (bs:A8 AZ) (sl:A8 Nat):AZ:=(List.range ops.size).all fun i=> !(bs.getD i false)||(!sl.contains i&&
 ((List.range i).all fun j=>sl.contains j||(List.range (i+1)).any fun m=>(decide (j<m)&& !sl.contains m)&&(match ops[m]? with |some o=>Ik o j|none=>false))&&
  ((List.range ops.size).all fun k=> !decide (i<k)||(List.range k).any fun m=>i<=m&&(match ops[k]? with |some o=>Ik o m|none=>false)))
def aGC {bs:A8 AZ} {sl:A8 Nat} (h:UM ops bs sl=true) {i:Nat} (hi:i<ops.size) (Y:bs.getD i false=true) {D:Nat->Prop} (hd:∀(j:Nat) (o:Oper),ops[j]? =some o->D j->∀m,Ik o m=true->D m)
 (Z:∀(o:Oper),ops[i]? =some o->∀m,Ik o m=true->D m):∀j,j<i->sl.contains j=false->D j:=by
 unfold UM at h;rw[El]at h;have L:=h i Gs;simp only[Y,FB,Nr,Du,El]at L
 have key:∀n j,i-j<=n->j<i->sl.contains j=false->D j:=by
  intro n
  induction n with
  |zero=>intro j h2 M _;omega
  |succ n ih=>
   intro j h2 M q;have O:=L.1.2 j (by simpa using M);rw[q,Nr,Iu]at O;obtain⟨m,hm,U⟩:=O;simp only[zK]at hm;simp only[Du,I8,ND]at U;obtain⟨⟨h6,u⟩,z⟩:=U;have I:m<ops.size:=AB
   have J:ops[m]? =some ops[m]:=by simp[I]
   rw[J]at z;by_cases e:m=i
   ·subst e;exact Z _ J j z
   exact hd m _ J (ih m AB AB u) j z
 exact fun j hj hs=>key (i-j) j (EZ _) hj hs
def akM {bs:A8 AZ} {sl:A8 Nat} (h:UM ops bs sl=true) {i:Nat} (hi:i<ops.size) (Y:bs.getD i false=true) {D:Nat->Prop} (hd:∀(j:Nat) (o:Oper),ops[j]? =some o->D j->∀m,Ik o m=true->D m):
 ∀k,i<k->∀(o:Oper),ops[k]? =some o->(∀m,Ik o m=true->D m)->D i:=by
 unfold UM at h;rw[El]at h;have L:=h i Gs;simp only[Y,FB,Nr,Du,El]at L;intro k
 induction k using Nat.strongRecOn with
 |_ k Z=>
  intro I o M q;have hk:k<ops.size:=(H6.1 M).1;have O:=L.2 k aY5;simp only[I,decide_true,FB,Nr,Iu]at O;obtain⟨m,hm,U⟩:=O;simp only[zK]at hm;simp only[Du,I8,M]at U;obtain⟨h6,h7⟩:=U;have u:=q m h7;by_cases e:m=i
  ·subst e;exact u
  have J:m<ops.size:=AB
  have z:ops[m]? =some ops[m]:=by simp[J]
  exact Z m hm AB _ z (hd m _ z u)
def aR7 {bs:A8 AZ} {sl:A8 Nat} (h:UM ops bs sl=true) {i:Nat} (hi:i<ops.size) (q:bs.getD i false=true):sl.contains i=false:=by
 unfold UM at h;rw[El]at h;have j:=h i Gs;simp only[q,FB,Nr,Du,ND]at j;exact j.1.1
def Bv.axU {id:Nat} {σ σ':BO} {Q:Exit->BO->Prop} {rs:A8 Af} {ess:A8 (A8 Bd)} {bs:A8 AZ} (hm:P.follows .mixedOrders=true) (M:(Xa ops&&XR ops&&Vq ops σ.slots.length&&Xe ops)=true) (sl:A8 Nat) (O:UM ops bs sl=true)
 (h:FZ P ops ops.toList σ rs ess bs σ')
 (hsl:∀i,i∈sl->bs.getD i false=false/\∀m,i<=m->m<=ops.size->∀o,ops[i]? =some o->Ry P ops ⟨(GU ops σ (fun i=>rs.getD i .junk) (fun i=>ess.getD i []) i).slots,(GU ops σ (fun i=>rs.getD i .junk) (fun i=>ess.getD i []) m).ents,σ.base⟩ (rs.getD i .junk) (GU ops σ (fun i=>rs.getD i .junk) (fun i=>ess.getD i []) m).ents false o) (hQ:Q .normal σ'):Bv P (.region id ops true) σ Q:=by
 refine⟨fun ro _ C ok H a w hh=>?_⟩;simp only[Du]at M;obtain⟨⟨⟨he,hd⟩,hs⟩,hc⟩:=M;have aft:=aSo he;have hinj:=aVm hd;have M:=aVR hc
 have XW:∀(i:Nat) (o:Oper) (d:Tmp),ops[i]? =some o->o.dst=some d->d<σ.slots.length:=by
  intro i o d h1 h2;unfold Vq at hs;rw[El]at hs;simpa using hs d (aVJ h1 h2)
 let r:Nat->Af:=fun i=>rs.getD i .junk
 let ev:Nat->A8 Bd:=fun i=>ess.getD i []
 let bar:Nat->AZ:=fun i=>bs.getD i false
 obtain⟨YS,hend⟩:=h.facts σ r ev bar 0 (fun k=>Bh) Bh rfl (fun k y hy=>by simp[r,List.getD,hy]) (fun k y hy=>by simp[ev,List.getD,hy]) (fun k y hy=>by simp[bar,List.getD,hy])
 let U:Nat->BO:=GU ops σ r ev
 have hU:∀i,i<ops.size->(U (i+1)).ents=ev i:=by
  intro i hi;have L:ops[i]? =some ops[i]:=Tt
  show(GU ops σ r ev (i+1)).ents=_;simp only[GU,L];rfl
 have hconst:∀n lo,(∀b,lo<=b->b<lo+n->bar b=false)->lo+n<=ops.size->(U (lo+n)).ents=(U lo).ents:=by
  intro n
  induction n with
  |zero=>intro lo _ _;rfl
  |succ n ih=>
   intro lo z hle;have h1:=ih lo (fun b h1 h2=>z b h1 AB) AB;have hi:lo+n<ops.size:=AB
   have L:ops[lo+n]? =some ops[lo+n]:=Tt
   have h2:=(YS (lo+n) _ AB L).2 (z (lo+n) AB AB);rw[←Rk,hU _ hi,h2];exact h1
 have Y:∀lo hi,lo<=hi->hi<=ops.size->(∀b,lo<=b->b<hi->bar b=false)->(U hi).ents=(U lo).ents:=by
  intro lo hi h1 h2 h3;obtain⟨n,rfl⟩:=Nat.exists_eq_add_of_le h1;exact hconst n lo h3 h2
 refine wpIn_region_any hm ?_
 let I:C9 AZ->Act->BU->Prop:=fun l a w=>l.size=ops.size/\∃ok H m,m<=ops.size/\(∀b,bar b=true->b<ops.size->(l.getD b false=true↔b<m))/\E5 C ok H (U m).ents w/\a.tmps.size=σ.slots.length/\Marks C ok w a.defers/\
  (∀t,t<σ.slots.length->(∀(j:Nat) (o:Oper),ops[j]? =some o->o.dst=some t->l.getD j false=false)->R ok w H (σ.slots.getD t .junk) (a.tmps.getD t undef))/\
  (∀(i:Nat) (o:Oper) (d:Tmp),ops[i]? =some o->o.dst=some d->l.getD i false=true->R ok w H (r i) (a.tmps.getD d undef))/\
  (∀(j:Nat) (o:Oper),ops[j]? =some o->l.getD j false=true->∀i,Ik o i=true->l.getD i false=true)
 refine aMj I (fun l a w h=>h.1) ?_ ?_ ops.size _ _ _ ?_ ?_
 ·rintro l a w ⟨h1,ok,H,m,acO,J,hmem0,hsz,hdf,h5,h6,h7⟩ i hi;unfold Region.ready at hi;rw[Hy]at hi;obtain⟨hi1,hi2⟩:=hi;have hi':i<ops.size:=by simpa using hi1
  have L:ops[i]? =some ops[i]:=by simp[hi']
  simp only[Du]at hi2;have afu:=hi2.2;rw[L]at afu;simp only[JQ,Oq]at afu;have asM:=fun e he=>(UW.1 afu) e he
  have Z:∀j,Ik ops[i] j=true->l.getD j false=true/\j<i:=by
   intro j u;unfold Ik at u;rw[Iu]at u;obtain⟨e,hee,u⟩:=u;simp only[Du,I8]at u;have :=asM e (by simpa using hee);simp only[u.2,FB,Nr]at this;rw[u.1]at this;exact⟨this,u.1▸aft i _ L e hee u.2⟩
  have hself:l.getD i false=false:=by
   have h8:=hi2.1;have hil:i<l.size:=AB
   simp[Array.getD,hil]at h8 ⊢;exact h8
  have ao8:∀(j:Nat) (o:Oper),ops[j]? =some o->l.getD j false=true->∀m,Ik o m=true->l.getD m false=true:=fun j o u hl m hm=>h7 j o u hl m hm
  have hEi:(i<=m->sl.contains i=false)->(U i).ents=(U m).ents:=fun hns=>by
   by_cases him:i<=m
   ·refine(Y i m him acO (fun b h2 h3=>?_)).symm;rw[←Pm];intro z;have hbl:=(J b z AB).2 h3;by_cases e:b=i
    ·subst e;rw[hself]at hbl;cases hbl
    have :=aGC O (show b<ops.size by omega) z (D:=fun j=>l.getD j false=true) ao8 (fun o L m hm=>ao8 b o L hbl m hm) i AB (hns him);rw[hself]at this;cases this
   refine Y m i AB AB (fun b h2 h3=>?_);rw[←Pm];intro z;have :=akM O (show b<ops.size by omega) z (D:=fun j=>l.getD j false=true) ao8 i h3 _ L (fun m hm=>(Z m hm).1);exact absurd ((J b z AB).1 this) AB
  obtain⟨E0,E1,hmem,hfact,hE1,hE2⟩:∃E0 E1,E5 C ok H E0 w/\Ry P ops ⟨(U i).slots,E0,σ.base⟩ (r i) E1 (bar i) ops[i]/\(bar i=false->E1=(U m).ents)/\(bar i=true->E1=ev i):=by
   by_cases hs:i<=m/\i∈sl
   ·have h9:=hsl i hs.2;refine⟨(U m).ents,(U m).ents,hmem0,?_,fun _=>rfl,fun z=>?_⟩
    ·rw[show bar i=false from h9.1];exact h9.2 m hs.1 acO _ L
    rw[show bar i=false from h9.1]at z;cases z
   have hE:=hEi (fun him=>by
    rw[←Pm]
    intro hc;exact hs ⟨him,by simpa using hc⟩)
   refine⟨(U i).ents,ev i,by rw[hE];exact hmem0,?_,fun z=>?_,fun _=>rfl⟩
   ·have hf:=YS i ops[i] AB L;have hbase:(U i).base=σ.base:=pF i;have :U i=⟨(U i).slots,(U i).ents,σ.base⟩:=by rw[←hbase]
    exact this▸hf
   rw[(YS i _ AB L).2 z];exact hE
  have hread:∀t,t∈tmpsOf ops[i]->R ok w H ((GU ops σ r ev i).slots.getD t .junk) (a.tmps.getD t undef):=by
   intro t ht;by_cases hw:∃(j:Nat) (o:Oper),ops[j]? =some o/\o.dst=some t
   ·obtain⟨j,o,u,q⟩:=hw;rcases(M i _ L).1 j o t u q ht with hce|hce
    ·obtain⟨hdj,hji⟩:=Z j hce;rw[Zg hinj u q (XW j o t u q) i hji];exact h6 j o t u q hdj
    have hij:i<j:=by
     unfold Ik at hce;rw[Iu]at hce;obtain⟨e,hee,hce⟩:=hce;simp only[Du,I8]at hce;exact hce.1▸aft j _ u e hee hce.2
    rw[Xp i (fun j' o' hj' ho' hd'=>aJJ)];refine h5 t (XW j o t u q) (fun j' o' ho' hd'=>?_);have hjj:=hinj j j' o o' t u ho' q hd';subst hjj;rw[←Pm];intro hd;rw[h7 j o u hd i hce]at hself;cases hself
   have hw':∀(j:Nat) (o:Oper),ops[j]? =some o->o.dst≠some t:=fun j o h1 h2=>hw ⟨j,o,h1,h2⟩;rw[Xp i (fun j o _ u=>hw' j o u)];by_cases htn:t<σ.slots.length
   ·exact h5 t htn (fun j o u q=>absurd q (hw' j o u))
   rw[qA htn];exact .junk _
  have ahN:∀j d v,Ik ops[i] j=true->(ops[j]?).bind (·.dst)=some d->(GU ops σ r ev i).slots.getD d .junk=.d (.lit v)->yielded ops a.tmps j=(match v with | .bool b=>some b|_=>none):=by
   intro j d v u q z;cases hoj:ops[j]? with
   |none=>rw[hoj]at q;simp at q
   |some oj=>
    rw[hoj]at q;simp only[Ad]at q;obtain⟨hdj,hji⟩:=Z j u;have hdn:=XW j oj d hoj q;rw[Zg hinj hoj q hdn i hji]at z;have hv:=(z▸h6 j oj d hoj q hdj).bool
    have hs:a.tmps[d]? =some v:=by
     have :d<a.tmps.size:=by rw[hsz];exact hdn
     simp[Array.getD,this]at hv;simp[this,hv]
    unfold yielded;rw[hoj];simp only[Ad,q,hs];cases v<;>rfl
  have hput:∀(x:Af) (v:Au) (ok':Nat->Prop) (H':A8 CP) (w':BU),x=r i->Et ok w ok' w'->Names H H'->E5 C ok' H' E1 w'->R ok' w' H' x v->I (l.setIfInBounds i true) (a.put ops[i].dst v) w':=by
   intro x v ok' H' w' hx hgr hnm hmem' hR;subst hx
   have hother:∀(d t:Nat),ops[i].dst=some d->d≠t->(a.put ops[i].dst v).tmps.getD t undef=a.tmps.getD t undef:=by
    intro d t hd hne;rw[hd];exact aOf hne
   obtain⟨m',axV,ao9,axW⟩:∃m',m'<=ops.size/\(∀b,bar b=true->b<ops.size->((l.setIfInBounds i true).getD b false=true↔b<m'))/\E5 C ok' H' (U m').ents w':=by
    have hget:∀b,b≠i->(l.setIfInBounds i true).getD b false=l.getD b false:=fun b z=>by
     simp only[J8,Ol (Ne.symm z)]
    have axX:(l.setIfInBounds i true).getD i false=true:=by simp[Array.getD,h1,hi']
    cases hbi:bar i with
    |false=>
     refine⟨m,acO,fun b z hbs=>?_,?_⟩
     ·have hne:b≠i:=fun e=>by subst e;rw[hbi]at z;cases z
      rw[hget b hne];exact J b z hbs
     rw[←hE1 hbi];exact hmem'
    |true=>
     refine⟨i+1,AB,fun b z hbs=>?_,by rw[hU i hi',←hE2 hbi];exact hmem'⟩;by_cases e:b=i
     ·subst e;rw[axX];simp
     rw[hget b e];constructor
     ·intro hbl;apply aS;intro hn;have :=aGC O hbs z (D:=fun j=>l.getD j false=true) ao8 (fun o L m hm=>ao8 b o L hbl m hm) i AB (aR7 O hi' hbi);rw[hself]at this;cases this
     intro hlt;exact aGC O hi' hbi (D:=fun j=>l.getD j false=true) ao8 (fun o ho' m hm=>by rw[L]at ho';obtain rfl:=Dq ho';exact(Z m hm).1) b AB (aR7 O hbs z)
   refine⟨by simp[h1],ok',H',m',axV,ao9,axW,by rw[size_put];exact hsz,by rw[aQP];exact hdf.mono hgr,?_,?_,?_⟩
   ·intro t ht hno
    have hne:ops[i].dst≠some t:=by
     intro e;have :=hno i _ L e;simp[Array.getD,h1,hi']at this
    have hold:(a.put ops[i].dst v).tmps.getD t undef=a.tmps.getD t undef:=by
     cases hdi:ops[i].dst with
     |none=>rfl
     |some d=>exact hdi▸hother d t hdi (fun e=>hne (by rw[hdi,e]))
    rw[hold];refine(h5 t ht (fun j o u q=>?_)).mono hgr hnm;have hij:i≠j:=fun e=>by subst e;rw[L]at u;obtain rfl:=Dq u;exact hne q
    have :=hno j o u q;simpa only[J8,Ol hij]using this
   ·intro k o d hk hkd hl;by_cases hik:i=k
    ·subst hik;rw[L]at hk;obtain rfl:=Dq hk;rw[hkd,aQW (by rw[hsz];exact XW i _ d L hkd)];exact hR
    have hl':l.getD k false=true:=by
     simp only[J8,Ol hik]at hl ⊢;exact hl
    have :=(h6 k o d hk hkd hl').mono hgr hnm;cases hdst:ops[i].dst with
    |none=>exact this
    |some d'=>
     have hne:d'≠d:=fun e=>hik (hinj i k _ _ d' L hk hdst (e▸hkd));rw[←hdst,hother d' d hdst hne];exact this
   intro j o u hl k hk;have hil:i<l.size:=AB
   by_cases hik:i=k
   ·subst hik;simp[Array.getD,hil]
   have hkk:l.getD k false=true:=by
    by_cases hij:i=j
    ·subst hij;rw[L]at u;obtain rfl:=Dq u;exact(Z k hk).1
    have hl':l.getD j false=true:=by
     simp only[J8,Ol hij]at hl ⊢;exact hl
    exact h7 j o u hl' k hk
   simp only[J8,Ol hik]at hkk ⊢;exact hkk
  unfold wpOpIn;rw[L];show if Region.wanted ops[i] (yielded ops a.tmps)=true then _ else _
  rcases hfact.1 with⟨ns,hop,ant,hnt,hg⟩|⟨hx,hev,hg⟩
  ·have hwant:Region.wanted ops[i] (yielded ops a.tmps)=true:=by
    unfold Region.wanted;rcases hg with hg|⟨j,want,d,b,hg,u,z,rfl⟩
    ·rw[hg]
    rw[hg];show(yielded ops a.tmps j==some b)=true;rw[ahN j d _ ((M i _ L).2 j b hg) u z];simp
   rw[Di hwant];refine S9 ?_ (hop.inR ro C ok H a w _ hmem (fun n hn=>?_))
   ·rintro a' w' ⟨v,ok',H',rfl,hgr,hnn,hm',hx⟩;exact hput _ v ok' H' w' rfl hgr hnn hm' hx
   have hnv:=RX ant n hn;obtain⟨x,y⟩:=n;simp only at hnv ⊢;subst hnv;cases x with
   |tmp t=>
    refine hread t ?_;rw[El]at hnt
    have :t∈NJ ns:=by
     unfold NJ;rw[VA];exact⟨_,hn,rfl⟩
    simpa using hnt t this
   |const v=>exact .d _ _ (.lit v)
   |global g=>exact .d _ _ (.lit _)
   |func f=>exact .d _ _ (.fn (.func f) [] [] #[] #[] rfl rfl (fun i hi=>PV) (fun i hi=>PV))
  have hwant:Region.wanted ops[i] (yielded ops a.tmps)=false:=by
   unfold Region.wanted;obtain⟨j,want,d,v,hg,u,z,hv⟩:=hg;rw[hg];show(yielded ops a.tmps j==some want)=false;rw[ahN j d _ ((M i _ L).2 j want hg) u z];rcases hv with rfl|rfl
   ·simp
   rfl
  rw[Dp (by rw[hwant];simp)];exact⟨fun _ _=>trivial,hput _ _ ok H w hx.symm (.refl _ _) (.refl _) (by rw[hev];exact hmem) (.d _ _ (.lit _))⟩
 ·rintro l a w ⟨h1,ok,H,m,acO,J,hmem,hsz,hdf,h5,h6,h7⟩ hr
  have hall:∀n i,i<n->i<ops.size->l.getD i false=true:=by
   intro n
   induction n with
   |zero=>intro i hi;omega
   |succ n ih=>
    intro i hi hi2;by_cases hn:i<n
    ·exact ih i hn hi2
    have hin:i=n:=AB
    subst hin;rw[←Bool.not_eq_false];intro hf;have L:ops[i]? =some ops[i]:=by simp[hi2]
    have hmem:i∈Region.ready .any ops l:=by
     unfold Region.ready;rw[Hy];refine⟨by simpa using hi2,?_⟩;have hil:i<l.size:=AB
     have hf':l.getD i true=false:=aKj
     rw[hf',L];simp only[JC,Gw,JQ,Oq];rw[UW];intro e he;cases hbe:Region.binds .any e with
     |false=>simp
     |true=>
      have hlt:=aft i _ L e aEX hbe;rw[ih e.on AB AB];simp
    rw[hr]at hmem;simp at hmem
  refine⟨ok,H,σ',?_,hQ⟩;subst hend
  have hE:(U ops.size).ents=(U m).ents:=Y m ops.size acO (EZ _) (fun b h2 h3=>by
   rw[←Pm];intro z
   exact absurd ((J b z h3).1 (hall (b+1) b AB h3)) AB)
  refine⟨by show E5 C ok H (U ops.size).ents w;rw[hE];exact hmem,by rw[Xw];exact hsz,hdf,by rw[pF];exact hh.base,fun t ht=>?_⟩;rw[Xw]at ht;by_cases hw:∃(j:Nat) (o:Oper),ops[j]? =some o/\o.dst=some t
  ·obtain⟨j,o,u,q⟩:=hw;have hjn:j<ops.size:=(H6.1 u).1;rw[Zg hinj u q ht ops.size hjn];exact h6 j o t u q (hall (j+1) j AB hjn)
  have hw':∀(j:Nat) (o:Oper),ops[j]? =some o->o.dst≠some t:=fun j o h1 h2=>hw ⟨j,o,h1,h2⟩;rw[Xp ops.size (fun j o _ u=>hw' j o u)];exact h5 t ht (fun j o u q=>absurd q (hw' j o u))
 ·unfold toCome;simp
 refine⟨Bh,ok,H,0,Ea _,fun b z _=>by simp[Array.getD],?_,hh.size,hh.defers.mono (fun b z=>⟨z,rfl⟩),fun t ht _=>?_,fun i o d _ _ hl=>?_,fun j o _ hl=>?_⟩
 ·exact⟨⟨hh.mem.fr.os,hh.mem.fr.tape,hh.mem.fr.output,hh.mem.fr.size,hh.mem.fr.block⟩,hh.mem.yY,hh.mem.yZ,hh.mem.kS,hh.mem.names,hh.mem.hlen,fun k e h h1 h2=>(hh.mem.ent k e h h1 h2).drew,hh.mem.blk,hh.mem.Fe⟩
 ·exact R.mono (w:=w) (ok:=ok) (w':={ w with drawn:=w.drawn+1 }) (fun b z=>⟨z,rfl⟩) (.refl _) (hh.slot t ht)
 ·simp[Array.getD]at hl
 simp[Array.getD]at hl
def adM {bs:A8 AZ} (h:Vf ops bs=true):UM ops bs []=true:=by
 unfold UM;unfold Vf at h;simpa using h
def Bv.draw {id:Nat} {σ σ':BO} {Q:Exit->BO->Prop} {rs:A8 Af} {ess:A8 (A8 Bd)} {bs:A8 AZ} (hm:P.follows .mixedOrders=true) (j:(Xa ops&&XR ops&&Vq ops σ.slots.length&&Xe ops)=true) (q:Vf ops bs=true)
 (h:FZ P ops ops.toList σ rs ess bs σ') (u:Q .normal σ'):Bv P (.region id ops true) σ Q:=
 Bv.axU hm j [] (adM q) h (fun _ hi=>absurd hi G5) u
def Dz:=@Bv.draw
end
def Ed (P:Ce) (f:FuncId) (args:A8 Af) (E:A8 Bd) (q:Af) (E':A8 Bd):Prop:=
 ∀(ok:Nat->Prop) (X:A8 Nat) (H:A8 CP) (w:BU) (j:C9 Au),E5 ⟨w,ok,X,H⟩ ok H E w->j.size=args.length->(∀i,i<args.length->R ok w H (args.getD i .junk) (j.getD i undef))->
  Calls P f j w fun e w'=>∃v ok' H',e=.returned v/\E5 ⟨w,ok,X,H⟩ ok' H' E' w'/\R ok' w' H' q v
def Holds.aw7 {C:Ey} {ok:Nat->Prop} {H:A8 CP} {σ:BO} {a:Act} {w:BU} (h:Holds C ok H σ a w) (t:Nat):R ok w H (σ.slots.getD t .junk) (a.tmps.getD t undef):=h.get (.tmp t)
def BO.enter (args:A8 Af) (n:Nat) (E:A8 Bd):BO:=⟨args++List.replicate (n-args.length) .junk,E,E.length⟩
def R.lit {ok:Nat->Prop} {w:BU} {H:A8 CP} {u v:Au} (h:R ok w H (.d (.lit u)) v):v=u:=by
 cases h with |d _ _ h=>cases h;rfl
structure Em (P:Program) (t:TypeId) (agg:Bool) (size:Nat):Prop where
 agg:∀w,(isAgg t).run P w=.ok agg w
 size:∀w,(sizeOf t).run P w=.ok size w
def aHX (P:Ce) (t:CG) (agg:AZ) (size:Nat):AZ:=
 (match P.underlying t with |some (.struct _)|some (.array _ _)=>agg|some _=> !agg|none=>false)&&(match P.info? t with |some i=>i.size=size|none=>false)
def Gp {P:Ce} {t:CG} {agg:AZ} {size:Nat} (h:aHX P t agg size=true):Em P t agg size:=by
 unfold aHX at h;simp only[Du]at h;refine⟨fun w=>?_,fun w=>?_⟩
 ·have q:=h.1;cases u:P.underlying t with
  |none=>rw[u]at q;cases q
  |some d=>
   rw[u]at q;have e:(underlying t).run P w=.ok d w:=by simp[underlying,u]
   simp only[isAgg,G6,e,GY];cases d<;>cases agg<;>simp_all
 have j:=h.2;cases hi:P.info? t with
 |none=>rw[hi]at j;cases j
 |some i=>
  rw[hi]at j;have :i.size=size:=WV
  simp[sizeOf,typeInfo,hi,this]
section
variable {P:Ce} {o:Oper} {es:A8 Bd}
def LV {α:Type} {p:α->Prop} {a:α} (h:∀n∈[a],p n):p a:=h a Bh
def FI {α:Type} {p:α->Prop} {a b:α} (h:∀n∈[a,b],p n):p a/\p b:=⟨h a Bh,h b Bh⟩
def aiJ {x:CM} {v:Af} (j:o.op=.move x):CQ P o [(x,v)] es v es:=
 .pure fun _ _ a _ _ _ q=>⟨a.eval x,by simp[execOp,j],q (x,v) Bh⟩
def amQ {x:CM} {v:Af} (j:o.op=.assign x):CQ P o [(x,v)] es v es:=
 .pure fun _ _ a _ _ _ q=>⟨a.eval x,by simp[execOp,j],q (x,v) Bh⟩
def ajB {c x y:CM} {v:Af} (b:AZ) (q:b=true) (u:o.op=.pick c x y):CQ P o [(c,.d (.lit (.bool b))),(x,v)] es v es:=
 .pure fun _ _ a _ _ _ j=>⟨a.eval x,by
  have :=(FI j).1.lit;simp only at this
  simp[execOp,u,this,asBool,q],(FI j).2⟩
def aZ8 {c x y:CM} {v:Af} (b:AZ) (q:b=false) (u:o.op=.pick c x y):CQ P o [(c,.d (.lit (.bool b))),(y,v)] es v es:=
 .pure fun _ _ a _ _ _ j=>⟨a.eval y,by
  have :=(FI j).1.lit;simp only at this
  simp[execOp,u,this,asBool,q],(FI j).2⟩
def GV {op:BinOp} {t t':CG} {x y:CM} {u v r:Au} (I:o.op=.binOp op t x y t') (h:∀w,(binOp op t u v).run P w=.ok r w) (J:u.oneCell'=true/\u matches .int _ _| .string _| .bool _):
 CQ P o [(x,.d (.lit u)),(y,.d (.lit v))] es (.d (.lit r)) es:=
 .pure fun _ _ a w _ _ j=>⟨r,by
  have q:=(FI j).1.lit;have z:=(FI j).2.lit;simp only at q z
  have L:(eqGuard op t x y u v).run P w=.ok () w:=by
   unfold eqGuard;cases u<;>simp at J<;>(cases op<;>simp[pure,Sem.run_pure'])
  simp only[execOp,I,q,z,G6,L,h w,GY,Gy],.d _ _ (.lit _)⟩
def aLy {op:UnOp} {t:CG} {x:CM} {u r:Au} (q:o.op=.unOp op t x) (h:∀w,(Op.unary op u).run P w=.ok r w):CQ P o [(x,.d (.lit u))] es (.d (.lit r)) es:=
 .pure fun _ _ a w _ _ z=>⟨r,by
  have j:=(LV z).lit;simp only at j
  simp only[execOp,q,j,G6,h w,GY,Gy],.d _ _ (.lit _)⟩
def aVQ {s t:CG} {x:CM} {u r:Au} (q:o.op=.convert s t x) (h:∀w,(convert s t u).run P w=.ok r w):CQ P o [(x,.d (.lit u))] es (.d (.lit r)) es:=
 .pure fun _ _ a w _ _ z=>⟨r,by
  have j:=(LV z).lit;simp only at j
  simp only[execOp,q,j,G6,h w,GY,Gy],.d _ _ (.lit _)⟩
def aij {x:CM} {i:Nat} {xs:A8 Af} {v:Af} (J:o.op=.extract x i) (L:xs[i]? =some v):CQ P o [(x,.fC xs)] es v es:=
 .pure fun ok H a w _ _ M=>by
  have q:=LV M;simp only at q;generalize O:a.eval x=u at q;cases q with
  |fC _ vs hl h=>
   obtain⟨hi,z⟩:=GH.1 L;have I:=h i hi;have U:xs.getD i .junk=v:=by simp[List.getD,hi,z]
   have j:i<vs.size:=AB
   have Y:vs.getD i undef=vs[i]:=by simp[Array.getD,j]
   rw[U,Y]at I;exact⟨vs[i],by simp[execOp,J,O,Instr.extract,j],I⟩
def agm {x:CM} {t e:CG} {xs:A8 D} (ht:P.underlying t=some (.slice e)) (q:o.op=.call { callee:=.builtin .len,args:= #[x],argTypes:= #[t] }):
 CQ P o [(x,.d (.sl xs))] es (.d (.lit (.int .i64 xs.length))) es:=
 .pure fun ok H a w _ _ J=>by
  have j:=LV J;simp only at j;generalize z:a.eval x=u at j;have I:(underlying t).run P w=.ok (.slice e) w:=Ox
  refine⟨_,?_,.d _ _ (.lit _)⟩;cases j with
  |d _ _ h=>
   cases h with
   |sl0 ad cap=>simp[execOp,q,resolve,invoke,builtin,Builtin.len_,z,I,goInt]
   |sl _ b off cap size=>simp[execOp,q,resolve,invoke,builtin,Builtin.len_,z,I,goInt]
def agP {x:CM} {t:CG} {s:BD} (ht:P.underlying t=some .string) (q:o.op=.call { callee:=.builtin .len,args:= #[x],argTypes:= #[t] }):
 CQ P o [(x,.d (.lit (.string s)))] es (.d (.lit (.int .i64 s.size))) es:=
 .pure fun ok H a w _ _ u=>by
  have j:=(LV u).lit;simp only at j;have z:(underlying t).run P w=.ok .string w:=Ox
  exact⟨_,by simp[execOp,q,resolve,invoke,builtin,Builtin.len_,j,z,goInt],.d _ _ (.lit _)⟩
def Hl {es:A8 Bd} {H:A8 CP} {ok:Nat->Prop} {w:BU} (u:∀(k:Nat) (e:Bd) (h:CP),es[k]? =some e->H[k]? =some h->FY ok w H h e) (hl:H.length=es.length) {k:Nat} {e:Bd} (q:es[k]? =some e):
 ∃h,H[k]? =some h/\FY ok w H h e:=by
 have j:k<H.length:=by rw[hl];exact(GH.1 q).1
 exact⟨H[k],by simp[j],u k e _ q (by simp[j])⟩
def agt {x:CM} {t e e':CG} {k s:Nat} {xs:A8 D} (U:es[k]? =some (.arr e' s xs)) (ht:P.underlying t=some (.slice e)) (Y:o.op=.call { callee:=.builtin .len,args:= #[x],argTypes:= #[t] }):
 CQ P o [(x,.aO k)] es (.d (.lit (.int .i64 xs.length))) es:=
 .pure fun ok H a w j hl Z=>by
  have q:=LV Z;simp only at q;generalize he:a.eval x=u at q;have hu:(underlying t).run P w=.ok (.slice e) w:=Ox
  obtain⟨h,hh,z⟩:=Hl j hl U;refine⟨_,?_,.d _ _ (.lit _)⟩;cases q with
  |aO _ ad n cap s' M=>
   rw[hh]at M;obtain rfl:=Dq M;obtain⟨_,_,ys,⟨_,I⟩,_⟩:=z
   have J:n=xs.length:=by
    rcases I with⟨L,h3⟩|⟨g,O,cur,L,_⟩
    ·simp at L;omega
    simp at L;omega
   subst J;simp[execOp,Y,resolve,invoke,builtin,Builtin.len_,he,hu,goInt]
structure ED (P:Program) (t:TypeId) (f off:Nat):Prop where
 run:∀(b o:Nat) w,(Instr.fieldAt t (.pointer (some ⟨b,o,none⟩)) f).run P w=.ok (.pointer (some ⟨b,o+off,none⟩)) w
def aWR (P:Ce) (t:CG) (f off:Nat):AZ:=
 match P.underlying t with
 |some (.struct q)=>match q[f]? with
  |some j=>j.offset=off&&(match P.info? j.type with |some i=>i.size≠0|none=>false)
  |none=>false
 |_=>false
def EN {P:Ce} {t:CG} {f off:Nat} (h:aWR P t f off=true):ED P t f off:=by
 unfold aWR at h;refine⟨fun b o w=>?_⟩;split at h
 ·rename_i u z;split at h
  ·rename_i I J;simp only[Du,I8]at h;obtain⟨L,j⟩:=h;split at j
   ·rename_i i hi;have hs:(sizeOf I.type).run P w=.ok i.size w:=by simp[sizeOf,typeInfo,hi]
    have M:i.size≠0:=WV
    have q:(underlying t).run P w=.ok (.struct u) w:=by simp[underlying,z]
    simp[Instr.fieldAt,q,J,Instr.sureAddr,fieldPlace,hs,M,addr_add,L]
   cases j
  cases h
 cases h
def aeH {x:CM} {t:CG} {f off j:Nat} {cs:A8 D} (J:ED P t f off) (L:o.op=.fieldAddr t x f):CQ P o [(x,.d (.ref cs j))] es (.d (.ref cs (j+off))) es:=
 .pure fun ok H a w _ _ M=>by
  have q:=LV M;simp only at q;generalize O:a.eval x=u at q;cases q with
  |d _ _ h=>
   cases h with
   |ref _ _ b p z I U Y=>
    refine⟨.pointer (some ⟨b,p+(j+off),none⟩),?_,.d _ _ (.ref cs (j+off) b p z I U Y)⟩;simp only[execOp,L,O,G6,J.run,GY,Gy,Rk]
def acn {x:CM} {t:CG} {f off k j:Nat} (z:ED P t f off) (I:o.op=.fieldAddr t x f):CQ P o [(x,.ptr k j)] es (.ptr k (j+off)) es:=
 .pure fun ok H a w _ _ J=>by
  have q:=LV J;simp only at q;generalize L:a.eval x=u at q;cases q with
  |ptr _ _ b s h=>
   refine⟨.pointer (some ⟨b,j+off,none⟩),?_,.ptr _ _ b s h⟩;simp only[execOp,I,L,G6,z.run,GY,Gy]
def alH {x:CM} {t:CG} {f off k i j:Nat} (z:ED P t f off) (I:o.op=.fieldAddr t x f):CQ P o [(x,.lq k i j)] es (.lq k i (j+off)) es:=
 .pure fun ok H a w _ _ J=>by
  have q:=LV J;simp only at q;generalize L:a.eval x=u at q;cases q with
  |lq _ _ _ b n cap s h=>
   refine⟨.pointer (some ⟨b,i*s+(j+off),none⟩),?_,.lq _ _ _ b n cap s h⟩;simp only[execOp,I,L,G6,z.run,GY,Gy,Rk]
def ak8 {x y:CM} {t e:CG} {k:IntKind} {i:Int} {xs:A8 D} {J:D} {agg:AZ} {size:Nat} (ht:P.underlying t=some (.slice e)) (hT:Em P e agg size) (h0:0<=i) (hi:xs[i.toNat]? =some J) (hs:J.cells.length=size)
 (ho:o.op=.indexAddr t x y):CQ P o [(x,.d (.sl xs)),(y,.d (.lit (.int k i)))] es (.d (.ref J.cells 0)) es:=
 .pure fun ok H a w _ _ Z=>by
  have L:=(FI Z).1;have h2:=(FI Z).2.lit;simp only at L h2;generalize he:a.eval x=u at L;have hu:(underlying t).run P w=.ok (.slice e) w:=Ox
  obtain⟨z,M⟩:=GH.1 hi;cases L with
  |d _ _ h=>
   cases h with
   |sl0 ad cap=>simp at z
   |sl _ b off cap q hcap O U hf hx hc=>
    have hd:xs.getD i.toNat EO=J:=by simp[List.getD,z,M]
    have Y:q=size:=by rw[←U _ z,hd,hs]
    subst Y;refine⟨.pointer (some ⟨b,off+i.toNat*q+0,none⟩),?_,.d _ _ (.ref J.cells 0 b (off+i.toNat*q) (fun h=>O AB (by rw[hs]at h;exact h)) ?_ ?_ ?_)⟩
    ·have hlen:0<=i/\i<(xs.length:Int):=⟨h0,AB⟩
     simp only[execOp,ho,he,h2,Instr.indexAt,asIntOf,G6,Gy,hu,GY,Sem.run_ite,hlen,and_self,Ku,hT.size,addr_add,PE]
    ·intro j I;rw[hs]at I;rw[←hd];exact hf _ z j I
    ·intro j I;rw[hs]at I;rw[Rk];exact hx _ z j I
    intro j I;rw[hs]at I;rw[Rk,←hd];exact hc _ z j I
def aiV {x y:CM} {t e e':CG} {kd:IntKind} {i:Int} {k size:Nat} {xs:A8 D} {agg:AZ} (Z:es[k]? =some (.arr e' size xs)) (ht:P.underlying t=some (.slice e)) (hT:Em P e agg size) (h0:0<=i) (hi:i.toNat<xs.length)
 (ho:o.op=.indexAddr t x y):CQ P o [(x,.aO k),(y,.d (.lit (.int kd i)))] es (.lq k i.toNat 0) es:=
 .pure fun ok H a w q hl L=>by
  have z:=(FI L).1;have M:=(FI L).2.lit;simp only at z M;generalize he:a.eval x=u at z;have hu:(underlying t).run P w=.ok (.slice e) w:=Ox
  obtain⟨h,O,I⟩:=Hl q hl Z;cases z with
  |aO _ ad n cap s' U=>
   rw[O]at U;obtain rfl:=Dq U;obtain⟨hs,_,ys,⟨_,J⟩,_⟩:=I;simp only at hs;subst hs;rcases J with⟨j,h3⟩|⟨g,Y,cur,j,_⟩
   ·omega
   simp only[jl]at j;obtain⟨rfl,rfl,rfl⟩:=j;refine⟨.pointer (some ⟨g,i.toNat*s'+0,none⟩),?_,.lq _ _ _ _ _ _ _ O⟩;have hlen:0<=i/\i<(xs.length:Int):=⟨h0,AB⟩
   simp only[execOp,ho,he,M,Instr.indexAt,asIntOf,G6,Gy,hu,GY,Sem.run_ite,hlen,and_self,Ku,hT.size,addr_add,Kz,PE]
def acp {x y:CM} {t:CG} {k:IntKind} {i:Int} {s:BD} {c:UInt8} (ht:P.underlying t=some .string) (z:0<=i) (hi:s[i.toNat]? =some c) (I:o.op=.index t x y):
 CQ P o [(x,.d (.lit (.string s))),(y,.d (.lit (.int k i)))] es (.d (.lit (.int .u8 c.toNat))) es:=
 .pure fun ok H a w _ _ j=>by
  have q:=(FI j).1.lit;have u:=(FI j).2.lit;simp only at q u;have J:(underlying t).run P w=.ok .string w:=Ox
  exact⟨_,by simp only[execOp,I,q,u,Instr.index,asIntOf,G6,Gy,J,GY,z,Ku,hi],.d _ _ (.lit _)⟩
def JI (l:A8 Af):A8 D:=l.map fun | .d x=>x|_=>EO
def Af.Bf:Af->AZ
 | .d _=>true
 |_=>false
def R.toD {ok:Nat->Prop} {w:BU} {H:A8 CP} {x:Af} {v:Au} (h:R ok w H x v) (hd:x.Bf=true):ES ok w ((fun | .d x=>x|_=>EO) x) v:=by
 cases h with
 |d _ _ h=>exact h
 |_=>simp[Af.Bf]at hd
def QI (agg:AZ) (cs:A8 D) (off n:Nat):D:=if agg then .agg ((cs.drop off).take n)else cs.getD off EO
def aAP {P:Ce} {ok:Nat->Prop} {w:BU} {t:CG} {agg:AZ} {n b p off:Nat} {cs:A8 D} (M:Em P t agg n) (hn:off+n<=cs.length) (U:agg=false->n=1)
 (Y:∀i,i<cs.length->(cs.getD i EO).leaf=true) (Z:∀j,j<cs.length->(w.cell? ⟨b,p+j,none⟩).isSome=true) (O:∀j,j<cs.length->ES ok w (cs.getD j EO) (cellAt w b (p+j))):
 ∃v,(Instr.loadAt t (.pointer (some ⟨b,p+off,none⟩))).run P w=.ok v w/\ES ok w (QI agg cs off n) v:=by
 have q:∀j,j<cs.length->w.cell? ⟨b,p+j,none⟩=some (cellAt w b (p+j)):=by
  intro j I;have :=Z j I;obtain⟨u,hu⟩:=SP.1 this;simp[cellAt,hu]
 cases agg with
 |false=>
  have :=U rfl;subst this;refine⟨cellAt w b (p+off),?_,O off AB⟩;have L:=q off AB;simp[Instr.loadAt,Instr.sureAddr,loadVar,M.agg,L]
 |true=>
  let vs:C9 Au:=((List.range n).map fun j=>cellAt w b (p+(off+j))).toArray
  have z:vs.size=n:=by simp[vs]
  have J:∀j,j<n->vs.getD j undef=cellAt w b (p+(off+j)):=by
   intro j I;simp[vs,Array.getD,I]
  refine⟨.agg vs,?_,?_⟩
  ·simp only[Instr.loadAt,Instr.sureAddr,G6,Gy,GY]
   have h:=aaY (P:=P) w t b (p+off) vs (M.agg w) (by rw[z];exact M.size w) (fun j I=>by
    rw[z]at I;rw[J j I,Rk]
    exact q (off+j) AB)
   exact h
  simp only[QI,Ku];have hlen:((cs.drop off).take n).length=n:=EW
  have L:∀i,i<n->((cs.drop off).take n).getD i EO=cs.getD (off+i) EO:=by
   intro i hi;simp[List.getD,NC hi,UQ]
  refine .agg _ vs (by rw[hlen,z]) (fun i hi=>?_) (fun i hi=>?_)
  ·rw[hlen]at hi;rw[L i hi];exact Y _ AB
  rw[hlen]at hi;rw[L i hi,J i hi];exact O _ AB
def aaJ {x:CM} {t:CG} {agg:AZ} {n off:Nat} {cs:A8 D} (z:Em P t agg n) (I:off+n<=cs.length) (J:agg=false->n=1) (L:o.op=.load t x):
 CQ P o [(x,.d (.ref cs off))] es (.d (QI agg cs off n)) es:=
 .pure fun ok H a w _ _ q=>by
  have j:=LV q;simp only at j;generalize M:a.eval x=u at j;cases j with
  |d _ _ h=>
   cases h with
   |ref _ _ b p O U Y Z=>
    obtain⟨v,hr,hd⟩:=aAP z I J U Y Z;exact⟨v,by simp only[execOp,L,M,G6,hr,GY,Gy],.d _ _ hd⟩
def oJ (l:A8 Af):(JI l).length=l.length:=by simp[JI]
def aTz {l:A8 Af} {i:Nat} (h:i<l.length):(JI l).getD i EO=(fun | .d x=>x|_=>EO) (l.getD i .junk):=by
 simp[JI,List.getD,h]
def aMq {ok:Nat->Prop} {w:BU} {H:A8 CP} {h:CP} {cs:A8 Af} (O:FY ok w H h (.box cs)) (hd:cs.all Af.Bf=true):
 ∃b,h.v=.pointer (some ⟨b,0,none⟩)/\(∀i,i<(JI cs).length->((JI cs).getD i EO).leaf=true)/\(∀j,j<(JI cs).length->(w.cell? ⟨b,0+j,none⟩).isSome=true)/\(∀j,j<(JI cs).length->ES ok w ((JI cs).getD j EO) (cellAt w b (0+j))):=by
 obtain⟨b,vs,T,U,Y,Z,I⟩:=O;rw[El]at hd
 have q:∀j,j<cs.length->w.cell? ⟨b,0+j,none⟩=some (vs.toList.getD j undef):=by
  intro j u;rw[Kz];have z:j<vs.size:=by simpa using(by omega:j<vs.toList.length)
  simp[World.cell?,Y,z,List.getD]
 refine⟨b,U,fun i hi=>?_,fun j u=>?_,fun j u=>?_⟩
 ·rw[oJ]at hi;rw[aTz hi];have J:=(I i hi).1;have L:=hd (cs.getD i .junk) Nh;cases M:cs.getD i .junk with
  |d x=>rw[M]at J;exact J
  |_=>rw[M]at L;simp[Af.Bf]at L
 ·rw[oJ]at u;rw[q j u];rfl
 rw[oJ]at u;rw[aTz u];unfold cellAt;rw[q j u];exact(I j u).2.toD (hd (cs.getD j .junk) aO7)
def aZ4 {x:CM} {t:CG} {agg:AZ} {k n off:Nat} {cs:A8 Af} (O:es[k]? =some (.box cs)) (hd:cs.all Af.Bf=true) (U:Em P t agg n) (Y:off+n<=cs.length) (Z:agg=false->n=1) (ho:o.op=.load t x):
 CQ P o [(x,.ptr k off)] es (.d (QI agg (JI cs) off n)) es:=
 .pure fun ok H a w q hl z=>by
  have j:=LV z;simp only at j;generalize he:a.eval x=u at j;obtain⟨h,hh,I⟩:=Hl q hl O;obtain⟨b,J,hf,hx,hc⟩:=aMq I hd;cases j with
  |ptr _ _ b' s L=>
   rw[hh]at L;obtain rfl:=Dq L;simp at J;subst J;obtain⟨v,M,hD⟩:=aAP U (by rw[oJ];exact Y) Z hf hx hc;rw[Kz]at M;exact⟨v,by simp only[execOp,ho,he,G6,M,GY,Gy],.d _ _ hD⟩
def aY4 {x:CM} {t:CG} {k off:Nat} {cs:A8 Af} {v:Af} (Y:es[k]? =some (.box cs)) (Z:cs[off]? =some v) (hT:Em P t false 1) (ho:o.op=.load t x):CQ P o [(x,.ptr k off)] es v es:=
 .pure fun ok H a w z hl J=>by
  have q:=LV J;simp only at q;generalize he:a.eval x=u at q;obtain⟨h,hh,b,vs,T,M,h2,h3,h4⟩:=Hl z hl Y;cases q with
  |ptr _ _ b' s O=>
   rw[hh]at O;obtain rfl:=Dq O;simp at M;subst M;obtain⟨I,L⟩:=GH.1 Z;have U:=(h4 off I).2;have e1:cs.getD off .junk=v:=by simp[List.getD,I,L]
   have j:off<vs.size:=by simpa using(by omega:off<vs.toList.length)
   have e2:vs.toList.getD off undef=vs[off]:=by simp[List.getD,j]
   rw[e1,e2]at U;refine⟨vs[off],?_,U⟩;have hc:w.cell? ⟨b',off,none⟩=some vs[off]:=by simp[World.cell?,h2,j]
   simp[execOp,ho,he,Instr.loadAt,Instr.sureAddr,loadVar,hT.agg,hc]
end
def E5.change {C:Ey} {ok ok':Nat->Prop} {H H':A8 CP} {es es':A8 Bd} {w w':BU} (hm:E5 C ok H es w) (B:Nat->Prop)
 (hos:w'.os=w.os) (O:w'.tape=w.tape) (hout:w'.output=w.output) (q:w.heap.size<=w'.heap.size)
 (L:∀b,b<w.heap.size->¬B b->w'.heap[b]? =w.heap[b]?) (hB:∀b,B b->b<w.heap.size->¬ok b/\(C.w0.heap.size<=b\/b∈C.X))
 (hok:∀b,ok b->ok' b) (M:∀b,ok' b->ok b\/(w.heap.size<=b/\b<w'.heap.size)) (z:Names H H') (hlen:H'.length=es'.length)
 (I:∀(k:Nat) (e:Bd) (h:CP),es'[k]? =some e->H'[k]? =some h->
  (es[k]? =some e/\H[k]? =some h/\(e.live=true->∀b,EK h.v=some b->¬B b))\/
  (FY ok' w' H' h e/\(e.live=true->∀b,EK h.v=some b->¬ok' b/\b<w'.heap.size/\(C.w0.heap.size<=b\/b∈C.X)/\
   ∀(k':Nat) (e':Bd) (h':CP),k'≠k->es'[k']? =some e'->e'.live=true->H'[k']? =some h'->EK h'.v≠some b))):
 E5 C ok' H' es' w'/\Et ok w ok' w':=by
 have hg:Et ok w ok' w':=fun b j=>⟨hok b j,L b (hm.kS b j) (fun u=>(hB b u (hm.kS b j)).1 j)⟩
 refine⟨⟨⟨hos.trans hm.fr.os,O.trans hm.fr.tape,hout.trans hm.fr.output,FC hm.fr.size q,fun k hk hx=>?_⟩,fun b j=>hok b (hm.yY b j),?_,?_,hm.names.trans z,hlen,?_,?_,?_⟩,hg⟩
 ·have hkw:k<w.heap.size:=Ur hk hm.fr.size;rw[L k hkw (fun j=>(hB k j hkw).2.elim (fun h=>AB) hx)];exact hm.fr.block k hk hx
 ·intro b j;rcases M b j with h|⟨h,_⟩
  ·exact hm.yZ b h
  exact .inr (.inl (FC hm.fr.size h))
 ·intro b j;rcases M b j with h|⟨_,h⟩
  ·exact Ur (hm.kS b h) q
  exact h
 ·intro k e h he hh;rcases I k e h he hh with⟨J,h2,h3⟩|⟨J,_⟩
  ·exact(hm.ent k e h J h2).mono hg z (fun hl b j=>L b (hm.blk k e h b J hl h2 j).2.1 (h3 hl b j))
  exact J
 ·intro k e h b he hl hh j;rcases I k e h he hh with⟨J,h2,h3⟩|⟨_,J⟩
  ·have :=hm.blk k e h b J hl h2 j;refine⟨fun u=>?_,Ur this.2.1 q,this.2.2⟩;rcases M b u with h4|⟨h4,_⟩
   ·exact this.1 h4
   omega
  exact⟨(J hl b j).1,(J hl b j).2.1,(J hl b j).2.2.1⟩
 intro k k' e e' h h' b he he' hl U hh hh' j u;apply aS;intro Y;rcases I k e h he hh with⟨J,h2,h3⟩|⟨_,J⟩
 ·rcases I k' e' h' he' hh' with⟨Z,h2',h3'⟩|⟨_,Z⟩
  ·exact Y (hm.Fe k k' e e' h h' b J Z hl U h2 h2' j u)
  exact(Z U b u).2.2.2 k e h Y he hl hh j
 exact(J hl b j).2.2.2 k' e' h' (fun e=>Y e.symm) he' U hh' u
def aF6 {α:Type} {l:A8 α} {i:Nat} {z:α} (h:i<l.length):l.getD i z=l[i]:=by simp[List.getD,h]
def Vz {α:Type} {l:A8 α} {a x:α} {k:Nat} (h:(l++[a])[k]? =some x):l[k]? =some x\/(k=l.length/\x=a):=by
 by_cases q:k<l.length
 ·rw[Hu q]at h;exact .inl h
 have j:=(GH.1 h).1;simp at j;have :k=l.length:=AB
 subst this;simp at h;exact .inr ⟨rfl,h.symm⟩
def E5.push {C:Ey} {ok:Nat->Prop} {H:A8 CP} {es:A8 Bd} {w:BU} (hm:E5 C ok H es w) (o:Obj) (h:CP) (e:Bd) (J:∀b,EK h.v=some b->b=w.heap.size)
 (he:FY ok (w.alloc o) (H++[h]) h e):E5 C ok (H++[h]) (es++[e]) (w.alloc o)/\Et ok w ok (w.alloc o):=by
 refine hm.change (fun _=>False) rfl rfl rfl Bh (fun b J _=>Kq _ _ _ J) (fun _ h=>h.elim) (fun _ h=>h) (fun _ h=>.inl h) (Ho _ _) Zo ?_;intro k e' h' L q;rcases Vz L with I|⟨I,h2⟩
 ·left;refine⟨I,?_,fun _ _ _ h=>h⟩;have M:k<H.length:=by rw[hm.hlen];exact(GH.1 I).1
  rwa [Hu M]at q
 subst h2;have M:k=H.length:=by rw[hm.hlen];exact I
 subst M;simp at q;subst q;refine .inr ⟨he,fun _ b O=>?_⟩;obtain rfl:=J b O;refine⟨fun u=>absurd (hm.kS _ u) AB,Bh,.inl hm.fr.size,fun k' U Y Z hk' hl j z=>?_⟩;rcases Vz hk' with u|⟨u,_⟩
 ·have hk2:k'<H.length:=by rw[hm.hlen];exact(GH.1 u).1
  rw[Hu hk2]at j;exact absurd (hm.blk k' U Y _ u hl j z).2.1 AB
 rw[←hm.hlen]at u;exact Z u
def E5.fresh {C:Ey} {ok:Nat->Prop} {H:A8 CP} {es:A8 Bd} {w:BU} (hm:E5 C ok H es w) (o:Obj):
 E5 C (fun b=>ok b\/b=w.heap.size) H es (w.alloc o)/\Et ok w (fun b=>ok b\/b=w.heap.size) (w.alloc o):=by
 refine hm.change (fun _=>False) rfl rfl rfl Bh (fun b j _=>Kq _ _ _ j) (fun _ h=>h.elim) (fun _ h=>.inl h) (fun b h=>?_) (.refl _) hm.hlen ?_
 ·rcases h with h|rfl
  ·exact .inl h
  exact .inr ⟨EZ _,Bh⟩
 intro k e h q u;exact .inl ⟨q,u,fun _ _ _ h=>h⟩
def E5.drew {C:Ey} {ok:Nat->Prop} {H:A8 CP} {es:A8 Bd} {w:BU} (hm:E5 C ok H es w):E5 C ok H es w.drew/\Et ok w ok w.drew:=
 hm.change (fun _=>False) rfl rfl rfl (EZ _) (fun _ _ _=>rfl) (fun _ h=>h.elim) (fun _ h=>h) (fun _ h=>.inl h) (.refl _) hm.hlen fun _ _ _ j q=>.inl ⟨j,q,fun _ _ _ h=>h⟩
def FY.dead {ok:Nat->Prop} {w:BU} {H:A8 CP} {h:CP}:FY ok w H h .dead:=trivial
def R.akc {ok:Nat->Prop} {w:BU} {H:A8 CP} {x:Af} {v:Au} (h:R ok w H x v) (hl:x.cells.all Af.leaf=true):Fj ok w H x.cells v.cells.toList:=by
 rw[El]at hl;cases h with
 |d x v h=>
  cases h with
  |agg cs vs hs L O=>
   refine⟨by simp[Af.cells,D.cells,Value.cells,hs],fun i hi=>?_⟩;simp only[Af.cells,D.cells,Dc]at hi;have U:(Af.cells (.d (.agg cs))).getD i .junk=.d (cs.getD i EO):=by simp[Af.cells,D.cells,List.getD,hi]
   have z:i<vs.size:=AB
   have M:(Value.cells (.agg vs)).toList.getD i undef=vs.getD i undef:=aPy
   rw[U,M];exact⟨L i hi,.d _ _ (O i hi)⟩
  |lit v=>
   have q:=hl (.d (.lit v)) (by simp[Af.cells,D.cells]);have e:v.cells= #[v]:=by cases v<;>first|rfl|(simp[Af.leaf,D.leaf,Value.oneCell']at q)
   refine⟨by simp[Af.cells,D.cells,e],fun i hi=>?_⟩;simp[Af.cells,D.cells]at hi;subst hi;rw[e];exact⟨q,.d _ _ (.lit v)⟩
  |sl0 ad cap=>
   refine⟨rfl,fun i hi=>?_⟩;simp[Af.cells,D.cells]at hi;subst hi;exact⟨rfl,.d _ _ (.sl0 ad cap)⟩
  |sl es b off cap size q u I J Y Z=>
   refine⟨rfl,fun i hi=>?_⟩;simp[Af.cells,D.cells]at hi;subst hi;exact⟨rfl,.d _ _ (.sl es b off cap size q u I J Y Z)⟩
  |ref cs off b o q u I J=>
   refine⟨rfl,fun i hi=>?_⟩;simp[Af.cells,D.cells]at hi;subst hi;exact⟨rfl,.d _ _ (.ref cs off b o q u I J)⟩
  |fn f first cap vs us q u I J=>
   refine⟨rfl,fun i hi=>?_⟩;simp[Af.cells,D.cells]at hi;subst hi;exact⟨rfl,.d _ _ (.fn f first cap vs us q u I J)⟩
  |PS t x v q=>
   refine⟨rfl,fun i hi=>?_⟩;simp[Af.cells,D.cells]at hi;subst hi;exact⟨rfl,.d _ _ (.PS t x v q)⟩
 |ptr k off b s h=>
  exact⟨rfl,fun i hi=>by simp[Af.cells]at hi;subst hi;exact⟨rfl,.ptr k off b s h⟩⟩
 |aO k ad n cap s h=>
  exact⟨rfl,fun i hi=>by simp[Af.cells]at hi;subst hi;exact⟨rfl,.aO k ad n cap s h⟩⟩
 |lq k i off b n cap s h=>
  exact⟨rfl,fun j hi=>by simp[Af.cells]at hi;subst hi;exact⟨rfl,.lq k i off b n cap s h⟩⟩
 |fn f first cap vs us q u I J=>
  exact⟨rfl,fun i hi=>by simp[Af.cells]at hi;subst hi;exact⟨rfl,.fn f first cap vs us q u I J⟩⟩
 |mp k v s hl h=>
  have e:v.cells= #[v]:=by cases v<;>first|rfl|(simp[Value.oneCell']at hl)
  exact⟨by simp[Af.cells,e],fun j hi=>by simp[Af.cells]at hi;subst hi;rw[e];exact⟨rfl,.mp k v s hl h⟩⟩
 |clip xs ad h=>exact⟨rfl,fun i hi=>by simp[Af.cells]at hi;subst hi;exact⟨rfl,.clip xs ad h⟩⟩
 |xP k ad n cap s h=>exact⟨rfl,fun i hi=>by simp[Af.cells]at hi;subst hi;exact⟨rfl,.xP k ad n cap s h⟩⟩
 |fC xs vs q u=>have :=hl (.fC xs) (by simp[Af.cells]);simp[Af.leaf]at this
 |ag xs vs q L u=>
  refine⟨by simp[Af.cells,Value.cells,q],fun i hi=>?_⟩;have z:i<vs.size:=by rw[q];exact hi
  have M:(Value.cells (.agg vs)).toList.getD i undef=vs.getD i undef:=aPy
  rw[M];exact⟨L i hi,u i hi⟩
 |junk v=>have :=hl .junk (by simp[Af.cells]);simp[Af.leaf]at this
section
variable {P:Ce} {o:Oper} {es:A8 Bd}
def aCZ (w:BU):∀b,EK (CP.v ⟨.pointer (some ⟨w.heap.size,0,none⟩),0⟩)=some b->b=w.heap.size:=fun b j=>by simpa[EK]using j.symm
def CQ.eff {ns:A8 (CM×Af)} {x:Af} {es':A8 Bd}
 (h:∀(C:Ey) (ok:Nat->Prop) (H:A8 CP) (a:Act) (w:BU),E5 C ok H es w->(∀n∈ns,R ok w H n.2 (a.eval n.1))->
  ∃v w' ok' H',((execOp a.eval o).run P w=.ok (.value v) w'\/(v=undef/\(execOp a.eval o).run P w=.ok .skip w'))/\Et ok w ok' w'/\Names H H'/\E5 C ok' H' es' w'/\R ok' w' H' x v):CQ P o ns es x es':=by
 intro C ok H a w Q hm J;obtain⟨v,w',ok',H',j,q,u,z,I⟩:=h C ok H a w hm J;unfold Oper.wp;rcases j with j|⟨rfl,j⟩
 ·rw[j];exact⟨v,ok',H',rfl,q,u,z,I⟩
 rw[j];exact⟨undef,ok',H',rfl,q,u,z,I⟩
def ai9 {t:CG} {x:CM} {v:Af} (hl:v.cells.all Af.leaf=true) (u:o.op=.box t x):CQ P o [(x,v)] es (.ptr es.length 0) (es++[.box v.cells]):=
 .eff fun C ok H a w hm z=>by
  have q:=LV z;simp only at q
  have j:FY ok (w.alloc (.cells (a.eval x).cells t)) (H++[⟨.pointer (some ⟨w.heap.size,0,none⟩),0⟩]) ⟨.pointer (some ⟨w.heap.size,0,none⟩),0⟩ (.box v.cells):=
   ⟨w.heap.size,(a.eval x).cells,t,rfl,XD w _,(q.akc hl).mono (fun b j=>⟨j,Kq _ _ _ (hm.kS b j)⟩) (Ho _ _)⟩
  obtain⟨I,J⟩:=hm.push (.cells (a.eval x).cells t) ⟨.pointer (some ⟨w.heap.size,0,none⟩),0⟩ _ (aCZ w) j;refine⟨_,_,ok,_,.inl ?_,J,Ho _ _,I,.ptr _ _ w.heap.size 0 PD⟩;simp[execOp,u,Instr.box,newVar,newRow]
def P7 :Au->D
 | .slice none 0 0=>.sl []
 |v=>.lit v
def fU {ok:Nat->Prop} {w:BU} (v:Au):ES ok w (P7 v) v:=by
 unfold P7;split
 ·exact .sl0 none 0
 exact .lit v
def sU {v:Au} (h:v.oneCell'=true):(P7 v).leaf=true:=by
 unfold P7;split
 ·rfl
 exact h
def GI (z:Au):A8 Af:=z.cells.toList.map fun v=>.d (P7 v)
def aiK {t:CG} {z:Au} (q:(P.info? t).bind (·.zero)=some z) (hl:z.cells.all (·.oneCell')=true) (u:o.op=.alloc t):CQ P o [] es (.ptr es.length 0) (es++[.box (GI z)]):=
 .eff fun C ok H a w hm U=>by
  have I:FY ok (w.alloc (.cells z.cells t)) (H++[⟨.pointer (some ⟨w.heap.size,0,none⟩),0⟩]) ⟨.pointer (some ⟨w.heap.size,0,none⟩),0⟩ (.box (GI z)):=by
   refine⟨w.heap.size,z.cells,t,rfl,XD w _,by simp[GI],fun i hi=>?_⟩;simp only[GI,Dc,Uo]at hi;have J:(GI z).getD i .junk=.d (P7 z.cells[i]):=by simp[GI,List.getD,hi]
   have L:z.cells.toList.getD i undef=z.cells[i]:=Nh
   rw[J,L];exact⟨sU ((UW.1 hl) _ Bh),.d _ _ (fU _)⟩
  obtain⟨M,O⟩:=hm.push (.cells z.cells t) ⟨.pointer (some ⟨w.heap.size,0,none⟩),0⟩ _ (aCZ w) I;refine⟨_,_,ok,_,.inl ?_,O,Ho _ _,M,.ptr _ _ w.heap.size 0 PD⟩;obtain⟨i,hi,j⟩:=mX.1 q;simp[execOp,u,Instr.alloc,zeroValue,typeInfo,hi,j,newVar,newRow]
def MO {l:A8 Bd} {k j:Nat} {a x:Bd} (q:k<l.length) (h:(l.set k a)[j]? =some x):(j=k/\x=a)\/(j≠k/\l[j]? =some x):=by
 by_cases e:k=j
 ·subst e;simp[q]at h;exact .inl ⟨rfl,h.symm⟩
 rw[dZ e]at h;exact .inr ⟨fun h'=>e h'.symm,h⟩
def E5.upd {C:Ey} {ok:Nat->Prop} {H:A8 CP} {w w':BU} (hm:E5 C ok H es w) {k:Nat} {M e:Bd} {h:CP} {b:Nat} (hk:es[k]? =some M) (I:M.live=true) (hh:H[k]? =some h) (hb:EK h.v=some b)
 (hos:w'.os=w.os) (J:w'.tape=w.tape) (O:w'.output=w.output) (hsize:w'.heap.size=w.heap.size)
 (z:∀c,c≠b->w'.heap[c]? =w.heap[c]?) (he:Et ok w ok w'->FY ok w' H h e):E5 C ok H (es.set k e) w'/\Et ok w ok w':=by
 have U:=hm.blk k M h b hk I hh hb;have hg:Et ok w ok w':=fun c q=>⟨q,z c (fun e=>U.1 (e▸q))⟩
 refine hm.change (fun c=>c=b) hos J O AB (fun c _ q=>z c q) (fun c q _=>by subst q;exact⟨U.1,U.2.2⟩) (fun _ h=>h) (fun _ h=>.inl h) (.refl _) Zo ?_;intro j e' h' hj u;have Y:k<es.length:=(GH.1 hk).1;rcases MO Y hj with⟨rfl,rfl⟩|⟨L,Z⟩
 ·rw[hh]at u;obtain rfl:=Dq u;refine .inr ⟨he hg,fun _ c q=>?_⟩;rw[hb]at q;obtain rfl:=Dq q;refine⟨U.1,AB,U.2.2,fun k' e'' h'' L hk' hl' aG2 aG3=>L ?_⟩;rcases MO Y hk' with⟨rfl,_⟩|⟨_,hk''⟩
  ·rfl
  exact hm.Fe k' j e'' M h'' h b hk'' hk hl' I aG2 hh aG3 hb
 refine .inl ⟨Z,u,fun hl c q hcb=>L ?_⟩;subst hcb;exact hm.Fe j k e' M h' h c Z hk hl I u hh q hb
def aIP (w:BU) (g:Nat) (cs:C9 Au) (k:Nat) (h:k≠g):(w.setRow g cs).heap[k]? =w.heap[k]? :=setRow_other w g k cs h
def setAt {α:Type} (cs:A8 α) (off:Nat) (ys:A8 α):A8 α:=cs.take off++ys++cs.drop (off+ys.length)
def TB {α:Type} {cs ys:A8 α} {off:Nat} (h:off+ys.length<=cs.length):(setAt cs off ys).length=cs.length:=by simp[setAt];omega
def Yu {α:Type} {cs ys:A8 α} {off:Nat} (h:off+ys.length<=cs.length) (i:Nat) (z:α):(setAt cs off ys).getD i z=if off<=i/\i<off+ys.length then ys.getD (i-off) z else cs.getD i z:=by
 unfold setAt;have j:(cs.take off).length=off:=EW
 by_cases hi:i<off
 ·rw[Dp AB];simp only[List.getD];rw[Jd,Hu AB,NC hi]
 by_cases q:i<off+ys.length
 ·rw[Di AB];simp only[List.getD];rw[Jd,Kt AB,j,Hu AB]
 rw[Dp AB];simp only[List.getD];rw[Kt EW,UQ];congr 2;simp;omega
def aP5 {t:CG} {x y:CM} {k off n:Nat} {cs:A8 Af} {v:Af} (hk:es[k]? =some (.box cs)) (hl:v.cells.all Af.leaf=true) (hs:∀w,(sizeOf t).run P w=.ok n w) (hn:v.cells.length=n) (hle:off+n<=cs.length) (ho:o.op=.store t x y):
 CQ P o [(x,.ptr k off),(y,v)] es .junk (es.set k (.box (setAt cs off v.cells))):=
 .eff fun C ok H a w hm I=>by
  have U:=(FI I).1;have h2:=(FI I).2;simp only at U h2;generalize he:a.eval x=u at U;obtain⟨h,hh,Y⟩:=Hl hm.ent hm.hlen hk;obtain⟨b,vs,T,hb,q,J,L⟩:=Y;have j:=h2.akc hl;cases U with
  |ptr _ _ M s hH=>
   rw[hh]at hH;obtain rfl:=Dq hH;simp at hb;subst hb;have z:(a.eval y).cells.toList.length=n:=by rw[j.1,hn]
   have aMJ:vs.size=cs.length:=SS
   have Z:(a.eval y).cells.size=n:=N8
   have hst:=aOE (P:=P) M off T (a.eval y).cells.toList 0 vs w q (by rw[z];omega) (fun u hu=>by
    obtain⟨i,hi,rfl⟩:=I5 hu;have O:=j.2 i (by rw[←j.1];exact hi);have :=O.2.leaf O.1
    rwa [aF6 hi]at this)
   simp only[PE]at hst;have hlt:M<w.heap.size:=(H6.1 q).1
   obtain⟨h3,h4⟩:=hm.upd (e:=.box (setAt cs off v.cells)) (w':=w.setRow M (vs.toList.take off++(a.eval y).cells.toList++vs.toList.drop (off+(a.eval y).cells.toList.length)).toArray) hk rfl hh rfl rfl rfl rfl aJf (fun c hc=>aIP _ _ _ _ hc) (fun hg=>by
    refine⟨M,_,T,rfl,yt w M vs _ T (0,0) q,?_,fun i hi=>?_⟩
    ·have e1:(vs.toList.take off++(a.eval y).cells.toList++vs.toList.drop (off+(a.eval y).cells.toList.length))=setAt vs.toList off (a.eval y).cells.toList:=rfl;rw[e1,a0W,TB (by have :=vs.length_toList;omega),TB AB];simpa using J
    have e1:(vs.toList.take off++(a.eval y).cells.toList++vs.toList.drop (off+(a.eval y).cells.toList.length))=setAt vs.toList off (a.eval y).cells.toList:=rfl;rw[TB AB]at hi;rw[e1,a0W,Yu (by have :=vs.length_toList;omega),Yu AB,z,hn];split
    ·have O:=j.2 (i-off) AB;exact⟨O.1,O.2.mono hg (.refl _)⟩
    exact⟨(L i hi).1,(L i hi).2.mono hg (.refl _)⟩)
   refine⟨undef,_,ok,H,.inr ⟨rfl,?_⟩,h4,.refl _,h3,.junk _⟩;simp only[execOp,ho,he,Instr.storeAt,Instr.sureAddr,storeVar,G6,Gy,GY,hs,Z,ne_eq,not_true_eq_false,KP,hst]
end
def Y0 (x:D) (es:A8 D):flat (x::es)=x.cells.map .d++flat es:=aX
def a1h (xs ys:A8 D):flat (xs++ys)=flat xs++flat ys:=aX
def SY {size:Nat}:∀{es:A8 D},(∀x∈es,x.cells.length=size)->(flat es).length=es.length*size
 | [],_=>aX
 |x::es,h=>by
  rw[Y0,En,Dc,h x Bh,SY (fun y j=>h y (IG _ j)),HY,Uk,YE]
def flat_get {size:Nat}:∀{es:A8 D},(∀x∈es,x.cells.length=size)->∀i j,i<es.length->j<size->(flat es).getD (i*size+j) .junk=.d ((es.getD i EO).cells.getD j EO)
 | [],_,i,j,hi,_=>PV
 |x::es,h,0,j,_,u=>by
  have q:=h x Bh;rw[Y0,Nat.zero_mul,Kz];simp only[List.getD];rw[Hu (by simp[q,u])];have z:j<x.cells.length:=AB
  simp[z]
 |x::es,h,i+1,j,hi,u=>by
  have q:=h x Bh;have I:=flat_get (fun y J=>h y (IG _ J)) i j Gs u;rw[Y0];simp only[List.getD]at I ⊢;rw[Kt (by simp[q,Uk];omega)];have e:(i+1)*size+j-(x.cells.map Af.d).length=i*size+j:=by simp[q,Uk];omega
  rw[e,I];simp
section
variable {P:Ce} {o:Oper} {es:A8 Bd}
structure Yy (w:World) (v:Value) (m size:Nat) (news:List Value):Prop where
 len:news.length=m*size
 one:∀u∈news,u.oneCell'=true
 at_:(∃ad c,v=.slice (some ad) m c/\∀(j:Nat) (u:Value),news[j]? =some u->w.cell? (ad.add j)=some u)\/(∃c,v=.slice none 0 c/\m=0)
def bn {ok:Nat->Prop} {w:BU} (H:A8 CP) {ys:A8 D} {v:Au} {size:Nat} (h:ES ok w (.sl ys) v) (hs:∀x∈ys,x.cells.length=size):
 ∃z,Yy w v ys.length size z/\Fj ok w H (flat ys) z:=by
 cases h with
 |sl0 ad cap=>
  refine⟨[],⟨Bh,Bh,?_⟩,aX,fun i hi=>aB6⟩;cases ad with
  |none=>exact .inr ⟨cap,rfl,rfl⟩
  |some ad=>exact .inl ⟨ad,cap,rfl,fun j u h=>Ip⟩
 |sl _ b off cap q hcap hok hs' hf hx hc=>
  by_cases hy:ys=[]
  ·subst hy;refine⟨[],⟨Bh,Bh,.inl ⟨⟨b,off,none⟩,cap,rfl,fun j u h=>Ip⟩⟩,aX,fun i hi=>aB6⟩
  have J:0<ys.length:=Za.2 hy;have hsz:q=size:=by rw[←hs' 0 J];exact hs _ (by simp[List.getD,J])
  subst hsz;have hl:=SY hs
  have key:∀k,k<ys.length*q->∃i j,k=i*q+j/\i<ys.length/\j<q:=by
   intro k I
   have hp:0<q:=by
    rcases XP q with h0|h0
    ·rw[h0,Nat.mul_zero]at I;omega
    exact h0
   exact⟨k/q,k % q,by rw[Uf];exact(aFX k q).symm,yg (by rwa [Uf]at I),lQ _ hp⟩
  let z:A8 Au:=(List.range (ys.length*q)).map fun k=>cellAt w b (off+k)
  have L:z.length=ys.length*q:=by simp[z]
  have O:∀k,k<ys.length*q->z.getD k undef=cellAt w b (off+k):=by
   intro k I;simp[z,List.getD,I]
  have M:Fj ok w H (flat ys) z:=by
   refine⟨by rw[L,hl],fun k I=>?_⟩;rw[hl]at I;obtain⟨i,j,rfl,hi,U⟩:=key k I;rw[flat_get hs i j hi U,O _ I];exact⟨hf i hi j U,.d _ _ (hc i hi j U)⟩
  refine⟨z,⟨L,fun u hu=>?_,.inl ⟨⟨b,off,none⟩,cap,rfl,fun k u I=>?_⟩⟩,M⟩
  ·obtain⟨k,I,rfl⟩:=I5 hu;have h5:=M.2 k (by rw[←M.1];exact I);have :=h5.2.leaf h5.1
   rwa [aF6 I]at this
  obtain⟨Y,rfl⟩:=GH.1 I;rw[addr_add];have Z:k<ys.length*q:=by rw[←L];exact Y
  obtain⟨i,j,e,hi,U⟩:=key k Z;have hxx:=hx i hi j U;rw[←e]at hxx;obtain⟨u',hu'⟩:=SP.1 hxx;have :=O k Z;rw[aF6 Y]at this;rw[this];simp[cellAt,hu']
structure Hf (P:Program) (t e:TypeId) (size bytes:Nat):Prop where
 und:P.underlying t=some (.slice e)
 info:∃i z,P.info? e=some i/\i.zero=some z/\i.size=size/\i.bytes=bytes/\z.cells.size=size
 pos:0<size
def aT6 (P:Ce) (t e size j:Nat):AZ:=
 (match P.underlying t with |some (.slice e')=>e'=e|_=>false)&&(match P.info? e with |some i=>i.size=size&&(i.bytes=j)&&(match i.zero with |some z=>z.cells.size=size|none=>false)|none=>false)&&(0<size)
def OO {P:Ce} {t e size j:Nat} (h:aT6 P t e size j=true):Hf P t e size j:=by
 unfold aT6 at h;simp only[Du,I8]at h;obtain⟨⟨q,u⟩,J⟩:=h;refine⟨?_,?_,J⟩
 ·split at q
  ·rename_i e' L;rw[L];simp at q;rw[q]
  cases q
 split at u
 ·rename_i i hi;simp only[Du,I8]at u;obtain⟨⟨M,O⟩,I⟩:=u;split at I
  ·rename_i z U;exact⟨i,z,hi,U,M,O,UR⟩
  cases I
 cases u
def ae5 {w:BU} {t e:CG} {ty:CG} {size O:Nat} (hE:Hf P t e size O) {v:Au} {n:Nat} {xs:A8 Au} (L:w.ownsRow 0 e size v n xs) {x:Au} {m:Nat} {I:A8 Au} (q:Yy w x m size I)
 (hb:(n+m)*O<=140737488355328) (hn:n+m<=maxLen):
 ∃v' w',(Builtin.append_ #[t,t] ty #[v,x]).run P w=.ok v' w'/\w'.ownsRow 0 e size v' (n+m) (xs++I)/\w.grownBy w' v.ownBlock/\(∀g,EK v'=some g->EK v=some g\/w.heap.size<=g):=by
 obtain⟨i,z,hi,hz,hs,Z,hzs⟩:=hE.info;rcases q.at_ with⟨ad,c,rfl,J⟩|⟨c,rfl,rfl⟩
 ·obtain⟨v',w',hr,ho',hg,hnil⟩:=run_append_own (P:=P) w 0 t ty e i z size O hE.und hi hz hs Z hzs hE.pos v n xs L ad m c I q.len J q.one hn hb (Ea _);refine⟨v',w',hr,ho',hg,fun g U=>?_⟩;rcases L.2 with⟨rfl,rfl⟩|⟨g0,cap,cur,rfl,hbg,hg0,hnc,hcm,hcs,htake⟩
  ·have hx:xs=[]:=Hg (by simpa using L.1);subst hx;obtain⟨v2,w2,M,ho2,_,_⟩:=run_append_own (P:=P) w w.heap.size t ty e i z size O hE.und hi hz hs Z hzs hE.pos _ 0 [] (aEE w w.heap.size e size) ad m c I q.len J q.one hn hb (EZ _);rw[hr]at M;simp only[Result.ok.injEq]at M;obtain⟨rfl,rfl⟩:=M;rcases ho2.2 with⟨rfl,_⟩|⟨g',_,_,rfl,hle,_⟩
   ·simp[EK]at U
   simp[EK]at U;subst U;exact .inr hle
  by_cases Y:n+m<=cap
  ·have hfit:n*i.size+I.length<=cur.size:=by rw[q.len,hcs,hs,←ku];exact MB _ Y
   have M:=run_append_room (P:=P) w t ty e i hE.und hi g0 n cap cur hg0 ad m c I (by rw[hs];exact q.len) J q.one Y hfit;rw[hr]at M;simp only[Result.ok.injEq]at M;obtain⟨rfl,rfl⟩:=M;exact .inl U
  have holds:∀(j:Nat) (u:Au),xs[j]? =some u->w.cell? ((⟨g0,0,none⟩:Addr).add j)=some u:=L.cells (g:=g0) rfl;have M:=run_append_grow (P:=P) w t ty e i z hE.und hi hz ⟨g0,0,none⟩ n cap xs (by rw[hs];exact L.1) holds ad m c I (by rw[hs];exact q.len) J AB (by unfold maxLen at hn;omega) (growslice_fits AB (by rw[Z];exact hb));rw[hr]at M;simp only[Result.ok.injEq]at M;obtain⟨rfl,rfl⟩:=M;simp[EK]at U;subst U;exact .inr (EZ _)
 have hnews:I=[]:=Hg (by simpa using q.len);subst hnews;refine⟨v,w,?_,YM,⟨rfl,rfl,rfl,EZ _,fun _ _ _=>rfl⟩,fun g hg=>.inl hg⟩;rcases L.2 with⟨rfl,rfl⟩|⟨g,cap,cur,rfl,_,_,hnc,_⟩
 ·simp[Builtin.append_,run_underlying hE.und,sizeOf,typeInfo,hi,Builtin.lenOf,Builtin.firstCells]
 simp[Builtin.append_,run_underlying hE.und,sizeOf,typeInfo,hi,Builtin.lenOf,Builtin.firstCells,hnc,storeCells]
def aTr {w:BU} {t e:CG} {ty:CG} {size I:Nat} (hE:Hf P t e size I) {v:Au} {n:Nat} {xs:A8 Au} (u:oq w e size v n xs) {x:Au} {m:Nat} {q:A8 Au} (j:Yy w x m size q)
 (hb:(n+m)*I<=140737488355328) (hn:n+m<=maxLen):
 ∃v' w',(Builtin.append_ #[t,t] ty #[v,x]).run P w=.ok v' w'/\oq w' e size v' (n+m) (xs++q)/\w.grownBy w' v.ownBlock/\(∀g,EK v'=some g->EK v=some g\/w.heap.size<=g):=by
 rcases u.2 with h|⟨g,cap,cur,rfl,h0,hg0,hnc,hcm,hcs,U⟩
 ·obtain⟨v',w',h1,h2,Y,h4⟩:=ae5 (ty:=ty) hE ⟨u.1,.inl h⟩ j hb hn;exact⟨v',w',h1,.of h2,Y,h4⟩
 obtain⟨i,z,hi,hz,hs,hby,hzs⟩:=hE.info;have hlen:(xs++q).length=(n+m)*size:=by rw[En,u.1,j.len,ku]
 rcases j.at_ with⟨ad,c,rfl,L⟩|⟨c,rfl,rfl⟩
 ·by_cases J:n+m<=cap
  ·have O:n*i.size+q.length<=cur.size:=by
    rw[j.len,hs,←ku];exact FC (MB _ J) hcs
   have hr:=run_append_room (P:=P) w t ty e i hE.und hi g n cap cur hg0 ad m c q (by rw[hs];exact j.len) L j.one J O;rw[hs]at hr O;refine⟨_,_,hr,⟨hlen,.inr ⟨g,cap,_,rfl,Ea _,yt w g cur _ e _ hg0,J,hcm,?_,?_⟩⟩,⟨rfl,rfl,rfl,Bh,fun k _ hk=>setRow_other w g k _ (fun e=>hk (by simp[Value.ownBlock,e]))⟩,fun g' M=>.inl M⟩
   ·simp only[kX,En,GK,L6,Uo];omega
   rw[U,←hlen];exact aCG
  obtain⟨v',w',h1,h2,Y⟩:=run_append_arg_grows (P:=P) w t ty e i z size I hE.und hi hz hs hby hzs hE.pos ⟨g,0,none⟩ n cap xs u.1 (u.cells (g:=g) rfl) ad m c q j.len L AB hn hb;refine⟨v',w',h1,.of h2,⟨Y.os,Y.tape,Y.output,Y.size,fun k hk _=>Y.block k hk Bh⟩,fun g' M=>.inr ?_⟩;rcases h2.2 with⟨rfl,_⟩|⟨g2,_,_,rfl,hle2,_⟩
  ·simp[EK]at M
  simp[EK]at M;subst M;exact hle2
 have Z:q=[]:=Hg (by simpa using j.len);subst Z;refine⟨.slice (some ⟨g,0,none⟩) n cap,w,?_,Vd,⟨rfl,rfl,rfl,EZ _,fun _ _ _=>rfl⟩,fun g hg=>.inl hg⟩;simp[Builtin.append_,run_underlying hE.und,sizeOf,typeInfo,hi,Builtin.lenOf,Builtin.firstCells,hnc,storeCells]
def E5.turn {C:Ey} {ok:Nat->Prop} {H:A8 CP} {w w':BU} (hm:E5 C ok H es w) {k:Nat} {e0 e:Bd} {h h':CP} (hk:es[k]? =some e0) (M:e0.live=true) (hh:H[k]? =some h)
 (hos:w'.os=w.os) (O:w'.tape=w.tape) (hout:w'.output=w.output) (U:w.heap.size<=w'.heap.size)
 (J:∀c,c<w.heap.size->EK h.v≠some c->w'.heap[c]? =w.heap[c]?) (hb':∀g,EK h'.v=some g->g<w'.heap.size/\(EK h.v=some g\/w.heap.size<=g))
 (he:Et ok w ok w'->FY ok w' (H++[h']) h' e):E5 C ok (H++[h']) (es.set k .dead++[e]) w'/\Et ok w ok w':=by
 have h0:=fun b hb=>hm.blk k e0 h b hk M hh hb;have hkl:k<es.length:=(GH.1 hk).1;have hg:Et ok w ok w':=fun c I=>⟨I,J c (hm.kS c I) (fun e=>(h0 c e).1 I)⟩
 refine hm.change (fun c=>EK h.v=some c) hos O hout U J (fun c I _=>⟨(h0 c I).1,(h0 c I).2.2⟩) (fun _ h=>h) (fun _ h=>.inl h) (Ho _ _) Zo ?_;intro j e' hj' hj u;rcases Vz hj with h1|⟨h1,h2⟩
 ·have hjl:j<H.length:=by rw[hm.hlen];simpa using(GH.1 h1).1
  rw[Hu hjl]at u;rcases MO hkl h1 with⟨rfl,rfl⟩|⟨Y,h3⟩
  ·exact .inr ⟨trivial,fun h=>Ib⟩
  refine .inl ⟨h3,u,fun hl c I hcb=>Y ?_⟩;exact hm.Fe j k e' e0 hj' h c h3 hk hl M u hh I hcb
 subst h2;have hk2:j=H.length:=by rw[hm.hlen];simpa using h1
 subst hk2;simp at u;subst u;refine .inr ⟨he hg,fun _ c I=>?_⟩;obtain⟨h3,q⟩:=hb' c I;refine⟨fun hok=>?_,h3,?_,fun k' e'' h'' Y hk' Z z L=>?_⟩
 ·rcases q with q|q
  ·exact(h0 c q).1 hok
  have :=hm.kS c hok;omega
 ·rcases q with q|q
  ·exact(h0 c q).2.2
  exact .inl (FC hm.fr.size q)
 rcases Vz hk' with h5|⟨h5,_⟩
 ·have hkl':k'<H.length:=by rw[hm.hlen];simpa using(GH.1 h5).1
  rw[Hu hkl']at z;rcases MO hkl h5 with⟨rfl,rfl⟩|⟨hne',h6⟩
  ·cases Z
  rcases q with q|q
  ·exact hne' (hm.Fe k' k e'' e0 h'' h c h6 hk Z M z hh L q)
  have :=(hm.blk k' e'' h'' c h6 Z z L).2.1;omega
 simp at h5;exact Y (by rw[h5,hm.hlen])
def aDV {w:BU} {e size n:Nat} {v:Au} {xs:A8 Au} (h:oq w e size v n xs) {g:Nat} (j:EK v=some g):g<w.heap.size:=by
 rcases h.2 with⟨rfl,_⟩|⟨u,_,_,rfl,_,q,_⟩
 ·simp[EK]at j
 simp[EK]at j;subst j;exact(H6.1 q).1
def aMy {w:BU} {e size n:Nat} {v:Au} {xs:A8 Au} (h:oq w e size v n xs):v.ownBlock=EK v:=by
 rcases h.2 with⟨rfl,_⟩|⟨j,_,_,rfl,_⟩<;>rfl
def QU {ok:Nat->Prop} {w:BU} {H:A8 CP} {k:Nat} {v:Au} {h:CP} (q:R ok w H (.aO k) v) (u:H[k]? =some h):v=h.v:=by
 cases q with
 |aO _ ad n cap s j=>rw[u]at j;rw[Dq j]
def aiE {C:Ey} {ok:Nat->Prop} {H:A8 CP} {w:BU} (hm:E5 C ok H es w) {t ty e:CG} {size q k:Nat} {xs ys:A8 D} (hE:Hf P t e size q) (hk:es[k]? =some (.arr e size xs))
 {v x:Au} (hv:R ok w H (.aO k) v) {j:A8 Au} (L:Yy w x ys.length size j) (I:Fj ok w H (flat ys) j) (hys:∀y∈ys,y.cells.length=size) (hb:(xs.length+ys.length)*q<=140737488355328) (hn:xs.length+ys.length<=maxLen):
 ∃v' w' H',(Builtin.append_ #[t,t] ty #[v,x]).run P w=.ok v' w'/\Et ok w ok w'/\Names H H'/\E5 C ok H' (es.set k .dead++[.arr e size (xs++ys)]) w'/\R ok w' H' (.aO es.length) v':=by
 obtain⟨h,hh,hok⟩:=Hl hm.ent hm.hlen hk;obtain rfl:=QU hv hh;obtain⟨h1,h2,Dl,z,hrs⟩:=hok;obtain⟨v',w',hr,J,M,O⟩:=aTr (P:=P) (ty:=ty) hE z L hb hn
 obtain⟨h3,h4⟩:=hm.turn (h':=⟨v',size⟩) (e:=.arr e size (xs++ys)) hk rfl hh M.os M.tape M.output M.size (fun c hc hne=>M.block c hc (by rw[aMy z];exact fun e=>hne e.symm)) (fun g U=>⟨aDV J U,O g U⟩) (fun Y=>by
  refine⟨rfl,fun y hy=>?_,Dl++j,SS,?_⟩
  ·rcases Iy.1 hy with h|h
   ·exact h2 y h
   exact hys y h
  have Z:=hrs.mono Y (Ho H [⟨v',size⟩]);have a2:=I.mono Y (Ho H [⟨v',size⟩]);rw[a1h];refine⟨by rw[En,En,Z.1,a2.1],fun i hi=>?_⟩;by_cases u:i<(flat xs).length
  ·have e1:(flat xs++flat ys).getD i .junk=(flat xs).getD i .junk:=by simp[List.getD,Hu u]
   have e2:(Dl++j).getD i undef=Dl.getD i undef:=by simp[List.getD,Hu (by rw[Z.1];exact u:i<Dl.length)]
   rw[e1,e2];exact Z.2 i u
  have hi3:i-(flat xs).length<(flat ys).length:=aNT
  have e1:(flat xs++flat ys).getD i .junk=(flat ys).getD (i-(flat xs).length) .junk:=by simp[List.getD,Kt (VU u)]
  have e2:(Dl++j).getD i undef=j.getD (i-(flat xs).length) undef:=by simp[List.getD,Kt (by rw[Z.1];omega:Dl.length<=i),Z.1]
  rw[e1,e2];exact a2.2 _ hi3)
 refine⟨v',w',_,hr,h4,Ho _ _,h3,?_⟩;have hH:(H++[(⟨v',size⟩:CP)])[es.length]? =some ⟨v',size⟩:=PD
 rcases J.2 with⟨rfl,_⟩|⟨g',c',_,rfl,_⟩
 ·exact .aO _ _ _ _ size hH
 exact .aO _ _ _ _ size hH
def amy {s x:CM} {t e:CG} {size j k:Nat} {xs ys:A8 D} (hE:Hf P t e size j) (U:es[k]? =some (.arr e size xs)) (q:∀y∈ys,y.cells.length=size)
 (Y:(xs.length+ys.length)*j<=140737488355328) (Z:xs.length+ys.length<=maxLen) (ho:o.op=.call { callee:=.builtin .append,args:= #[s,x],argTypes:= #[t,t] }):
 CQ P o [(s,.aO k),(x,.d (.sl ys))] es (.aO es.length) (es.set k .dead++[.arr e size (xs++ys)]):=
 .eff fun C ok H a w hm u=>by
  have L:=(FI u).1;have M:=(FI u).2;simp only at L M;have I:ES ok w (.sl ys) (a.eval x):=by cases M with |d _ _ h=>exact h
  obtain⟨O,z,J⟩:=bn H I q;obtain⟨v',w',H',hr,r1,r2,r3,r4⟩:=aiE (ty:=o.type) hm hE U L z J q Y Z;refine⟨v',w',ok,H',.inl ?_,r1,r2,r3,r4⟩;simp[execOp,ho,resolve,invoke,builtin,hr]
def aFt {C:Ey} {ok:Nat->Prop} {H:A8 CP} {w:BU} (hm:E5 C ok H es w) (e:CG) (size:Nat):
 E5 C ok (H++[⟨.slice none 0 0,size⟩]) (es++[.arr e size []]) w/\R ok w (H++[⟨.slice none 0 0,size⟩]) (.aO es.length) (.slice none 0 0):=by
 obtain⟨h,_⟩:=hm.change (ok':=ok) (w':=w) (H':=H++[⟨.slice none 0 0,size⟩]) (es':=es++[.arr e size []]) (fun _=>False) rfl rfl rfl (EZ _) (fun _ _ _=>rfl) (fun _ h=>h.elim) (fun _ h=>h) (fun _ h=>.inl h) (Ho _ _) Zo (by
  intro k e' h' u j;rcases Vz u with q|⟨q,I⟩
  ·have z:k<H.length:=by rw[hm.hlen];exact(GH.1 q).1
   rw[Hu z]at j;exact .inl ⟨q,j,fun _ _ _ h=>h⟩
  subst I;have z:k=H.length:=by rw[hm.hlen];exact q
  subst z;simp at j;subst j
  exact .inr ⟨⟨rfl,Bh,[],⟨Bh,.inl ⟨rfl,rfl⟩⟩,aX,fun i hi=>aB6⟩,fun _ b J=>by simp[EK]at J⟩)
 exact⟨h,.aO _ _ _ _ size PD⟩
def Cb (e:CG) (size:Nat) (j:o.op=.assign (.const (.slice none 0 0))):CQ P o [] es (.aO es.length) (es++[.arr e size []]):=
 .eff fun C ok H a w hm _=>by
  obtain⟨q,u⟩:=aFt hm e size;exact⟨.slice none 0 0,w,ok,_,.inl aMt,.refl _ _,Ho _ _,q,u⟩
def aeo (j:o.op=.assign (.const (.slice none 0 0))):CQ P o [] es (.d (.sl [])) es:=
 .pure fun _ _ a w _ _ _=>⟨.slice none 0 0,aMt,.d _ _ (.sl0 none 0)⟩
def acM (j:o.op=.move (.const (.slice none 0 0))):CQ P o [] es (.d (.sl [])) es:=
 .pure fun _ _ a w _ _ _=>⟨.slice none 0 0,aMt,.d _ _ (.sl0 none 0)⟩
end
def aQ2 (off:Nat):∀(vs:A8 Au) (i:Nat) (cells:C9 Au),off+i+vs.length<=cells.size->
 ((vs.zipIdx i).foldl (fun cs (p:Au×Nat)=>cs.setIfInBounds (off+p.2) p.1) cells).toList=setAt cells.toList (off+i) vs
 | [],i,cells,h=>by simp[setAt]
 |v::vs,i,cells,h=>by
  simp only[HY]at h;rw[List.zipIdx_cons,Gt];rw[aQ2 off vs (i+1) _ EW];simp only[aTw];have j:off+i<cells.toList.length:=EW
  unfold setAt;rw[aH6,Di j];have q:(cells.toList.take (off+i)).length=off+i:=EW
  have u:(List.take (off+i) cells.toList++v::List.drop (off+i+1) cells.toList).take (off+(i+1))=cells.toList.take (off+i)++[v]:=by
   rw[aIz,q,Qj AB];have :off+(i+1)-(off+i)=1:=AB
   rw[this];simp
  have z:(List.take (off+i) cells.toList++v::List.drop (off+i+1) cells.toList).drop (off+(i+1)+vs.length)=cells.toList.drop (off+i+(vs.length+1)):=by
   rw[List.drop_append,q,aDF AB];have :off+(i+1)+vs.length-(off+i)=vs.length+1:=AB
   rw[this];simp[aKM];congr 1;omega
  rw[u,z];simp
def Np :A8 (Nat×CM)->A8 Af->A8 (CM×Af)
 |(_,x)::j,v::vs=>(x,v)::Np j vs
 |_,_=>[]
def OI (place:Nat->AL (Nat×Nat)) (n:Nat):A8 (Nat×CM)->A8 Af->AZ
 |(i,_)::j,v::vs=>(match place i with |some (off,s)=>v.cells.length=s&&(off+s<=n)&&v.cells.all Af.leaf|none=>false)&&OI place n j vs
 | [],[]=>true
 |_,_=>false
def Kr (place:Nat->AL (Nat×Nat)):A8 Af->A8 (Nat×CM)->A8 Af->A8 Af
 |cs,(i,_)::j,v::vs=>Kr place (setAt cs ((place i).getD (0,0)).1 v.cells) j vs
 |cs,_,_=>cs
def Fj.setAt {ok:Nat->Prop} {w:BU} {H:A8 CP} {cs ys:A8 Af} {vs us:A8 Au} {off:Nat} (h:Fj ok w H cs vs) (k:Fj ok w H ys us) (j:off+ys.length<=cs.length):Fj ok w H (setAt cs off ys) (setAt vs off us):=by
 refine⟨by rw[TB (by rw[h.1,k.1];exact j),TB j,h.1],fun i hi=>?_⟩;rw[TB j]at hi;rw[Yu j,Yu (by rw[h.1,k.1];exact j),k.1];split
 ·exact k.2 _ AB
 exact h.2 i hi
def uX {ok:Nat->Prop} {w:BU} {H:A8 CP} {place:Nat->AL (Nat×Nat)} {a:Act}:∀(q:A8 (Nat×CM)) (vs:A8 Af) (cs:A8 Af) (cells:C9 Au),Fj ok w H cs cells.toList->OI place cs.length q vs=true->
 (∀n∈Np q vs,R ok w H n.2 (a.eval n.1))->∃j,Instr.fill place cells (q.map fun p=>(p.1,a.eval p.2))=some j/\Fj ok w H (Kr place cs q vs) j.toList
 | [],[],cs,cells,J,_,_=>⟨cells,rfl,J⟩
 | [],_::_,_,_,_,h,_=>by simp[OI]at h
 |_::_,[],_,_,_,h,_=>by simp[OI]at h
 |(i,x)::q,v::vs,cs,cells,J,h,M=>by
  simp only[OI,Du]at h;obtain⟨u,Y⟩:=h;cases hp:place i with
  |none=>rw[hp]at u;cases u
  |some os=>
   obtain⟨off,s⟩:=os;rw[hp]at u;simp only[Du,I8]at u;obtain⟨⟨h3,h4⟩,Z⟩:=u;have O:Fj ok w H v.cells (a.eval x).cells.toList:=(M (x,v) (by simp[Np])).akc Z;have hsz:(a.eval x).cells.size=s:=by have :=O.1;simp at this;omega
   have U:cells.size=cs.length:=by simpa using J.1
   have z:((a.eval x).cells.zipIdx.foldl (fun cs (p:Au×Nat)=>cs.setIfInBounds (off+p.2) p.1) cells).toList=setAt cells.toList off (a.eval x).cells.toList:=by
    rw[←Array.foldl_toList,Array.toList_zipIdx];exact aQ2 off (a.eval x).cells.toList 0 cells EW
   have I:=J.setAt O (off:=off) AB;rw[←z]at I;obtain⟨j,hc,hR⟩:=uX q vs (setAt cs off v.cells) _ I (by rw[TB AB];exact Y) (fun n L=>M n (by simp[Np,L]));refine⟨j,?_,?_⟩
   ·simp only[JR,Instr.fill,hp];rw[Dp EW];exact hc
   simp only[Kr,hp,Oq];exact hR
def Qm (z:Au) (n:Nat):A8 Af:=(List.range n).map fun k=>(GI z).getD (k % z.cells.size) .junk
def aZt {ok:Nat->Prop} {w:BU} {H:A8 CP} {z:Au} {n:Nat} (hl:z.cells.all (·.oneCell')=true) (q:0<z.cells.size):Fj ok w H (Qm z n) (((Array.range n).map (z.cells[· % z.cells.size]!)).toList):=by
 refine⟨by simp[Qm],fun i hi=>?_⟩;have j:i<n:=by simpa[Qm]using hi
 have hm:i % z.cells.size<z.cells.size:=lQ _ q;have u:(Qm z n).getD i .junk=.d (P7 z.cells[i % z.cells.size]):=by simp[Qm,GI,List.getD,j,hm]
 have I:(((Array.range n).map (z.cells[· % z.cells.size]!)).toList).getD i undef=z.cells[i % z.cells.size]:=by simp[List.getD,j,hm]
 rw[u,I];exact⟨sU ((UW.1 hl) _ Bh),.d _ _ (fU _)⟩
def aKe {ok:Nat->Prop} {w:BU} {H:A8 CP} {z:Au} (hl:z.cells.all (·.oneCell')=true):Fj ok w H (GI z) z.cells.toList:=by
 refine⟨by simp[GI],fun i hi=>?_⟩;simp only[GI,Dc,Uo]at hi;have j:(GI z).getD i .junk=.d (P7 z.cells[i]):=by simp[GI,List.getD,hi]
 have q:z.cells.toList.getD i undef=z.cells[i]:=Nh
 rw[j,q];exact⟨sU ((UW.1 hl) _ Bh),.d _ _ (fU _)⟩
def aLQ {P:Ce} {w:BU}:∀(l:A8 Field),(∀f∈l,(P.info? f.type).isSome=true)->
 (l.mapM fun f=>(do pure (f.offset,←sizeOf f.type):Sem (Nat×Nat))).run P w=.ok (l.map fun f=>(f.offset,P.cellsOf f.type)) w
 | [],_=>rfl
 |f::l,h=>by
  obtain⟨i,hi⟩:=SP.1 (h f Bh);have j:=aLQ (P:=P) (w:=w) l (fun g q=>h g Zx);have hs:(sizeOf f.type).run P w=.ok i.size w:=by simp[sizeOf,typeInfo,hi]
  have u:P.cellsOf f.type=i.size:=by simp[Program.cellsOf,hi]
  simp only[List.mapM_cons,G6,hs,GY,Gy,j,JR,u]
structure Ji (P:Program) (t:TypeId) (places:List (Nat×Nat)) (z:Value):Prop where
 fields:∃fs,P.underlying t=some (.struct fs)/\(∀f∈fs.toList,(P.info? f.type).isSome=true)/\(fs.toList.map fun f=>(f.offset,P.cellsOf f.type))=places
 zero:(P.info? t).bind (·.zero)=some z
 one:z.cells.all (·.oneCell')=true
def aVx (P:Ce) (t:CG) (j:A8 (Nat×Nat)):AZ:=
 match P.underlying t with
 |some (.struct q)=>q.toList.all (fun f=>(P.info? f.type).isSome)&&decide ((q.toList.map fun f=>(f.offset,P.cellsOf f.type))=j)
 |_=>false
def NK {P:Ce} {t:CG} {j:A8 (Nat×Nat)} {z:Au} (h:aVx P t j=true) (q:(P.info? t).bind (·.zero)=some z) (u:z.cells.all (·.oneCell')=true):Ji P t j z:=by
 unfold aVx at h;split at h
 ·rename_i I J;simp only[Du,El,I8]at h;exact⟨⟨I,J,h.1,h.2⟩,q,u⟩
 cases h
section
variable {P:Ce} {o:Oper} {es:A8 Bd}
def aDs {t:CG} {z:Au} (q:(P.info? t).bind (·.zero)=some z) (w:BU):(zeroValue t).run P w=.ok z w:=by
 obtain⟨i,hi,j⟩:=mX.1 q;simp[zeroValue,typeInfo,hi,j]
def aQk {l:A8 Af} (h:l.all Af.Bf=true):l=(JI l).map .d:=by
 rw[El]at h;unfold JI;rw[Yx]
 conv=>lhs;rw[←List.map_id l]
 refine aMd fun x j=>?_;have :=h x j;cases x<;>first|rfl|(simp[Af.Bf]at this)
def ah0 {t:CG} {q:C9 (Nat×CM)} {j:A8 (Nat×Nat)} {z:Au} (hS:Ji P t j z) (vs:A8 Af) (hp:OI (fun(i:Nat)=>j[i]?) (GI z).length q.toList vs=true) (ho:o.op=.build t q):
 CQ P o (Np q.toList vs) es (.ag (Kr (fun(i:Nat)=>j[i]?) (GI z) q.toList vs)) es:=
 .pure fun ok H a w _ _ hn=>by
  obtain⟨⟨Y,hu,hf,J⟩,hz,h1⟩:=hS;have L:=aDs (P:=P) hz w;have M:(underlying t).run P w=.ok (.struct Y) w:=aA0
  have hm:(Y.mapM fun f=>(do pure (f.offset,←sizeOf f.type):Sem (Nat×Nat))).run P w=.ok j.toArray w:=by
   rw[aJ7];rw[yx,aLQ _ hf,J];rfl
  obtain⟨u,hc,I⟩:=uX (place:=fun(i:Nat)=>j[i]?) q.toList vs (GI z) z.cells (aKe (ok:=ok) (w:=w) (H:=H) h1) hp hn;refine⟨.agg u,?_,.ag _ _ (by simpa using I.1) (fun i hi=>(I.2 i hi).1) (fun i hi=>?_)⟩
  rotate_left
  ·have Z:=(I.2 i hi).2;have O:i<u.size:=by have :=I.1;simp at this;omega
   have U:u.toList.getD i undef=u.getD i undef:=by simp[List.getD,Array.getD,O]
   rw[U]at Z;exact Z
  have e:(q.map fun(i,x)=>(i,a.eval x)).toList=q.toList.map fun p=>(p.1,a.eval p.2):=Bh
  have U:(fun(i:Nat)=>j.toArray[i]?)=(fun(i:Nat)=>j[i]?):=by funext i;simp
  simp only[execOp,ho,Instr.build,G6,L,M,hm,GY];rw[e,U,hc];rfl
def al9 {t:CG} {q:C9 (Nat×CM)} {j:A8 (Nat×Nat)} {z:Au} (hS:Ji P t j z) (vs:A8 Af) (hp:OI (fun(i:Nat)=>j[i]?) (GI z).length q.toList vs=true)
 (hd:(Kr (fun(i:Nat)=>j[i]?) (GI z) q.toList vs).all Af.Bf=true) (ho:o.op=.build t q):
 CQ P o (Np q.toList vs) es (.d (.agg (JI (Kr (fun(i:Nat)=>j[i]?) (GI z) q.toList vs)))) es:=
 .pure fun ok H a w _ _ hn=>by
  obtain⟨⟨fs,hu,hf,I⟩,hz,h1⟩:=hS;have J:=aDs (P:=P) hz w;have L:(underlying t).run P w=.ok (.struct fs) w:=aA0
  have hm:(fs.mapM fun f=>(do pure (f.offset,←sizeOf f.type):Sem (Nat×Nat))).run P w=.ok j.toArray w:=by
   rw[aJ7];rw[yx,aLQ _ hf,I];rfl
  obtain⟨u,hc,M⟩:=uX (place:=fun(i:Nat)=>j[i]?) q.toList vs (GI z) z.cells (aKe (ok:=ok) (w:=w) (H:=H) h1) hp hn;refine⟨.agg u,?_,.d _ _ ?_⟩
  ·have e:(q.map fun(i,x)=>(i,a.eval x)).toList=q.toList.map fun p=>(p.1,a.eval p.2):=Bh
   have e2:(fun(i:Nat)=>j.toArray[i]?)=(fun(i:Nat)=>j[i]?):=by funext i;simp
   simp only[execOp,ho,Instr.build,G6,J,L,hm,GY];rw[e,e2,hc];rfl
  rw[aQk hd]at M;generalize JI (Kr (fun(i:Nat)=>j[i]?) (GI z) q.toList vs)=xs at M ⊢;obtain⟨h2,O⟩:=M;simp only[Dc]at h2 O
  have hg:∀i,i<xs.length->(xs.map Af.d).getD i .junk=.d (xs.getD i EO):=by
   intro i hi;simp[List.getD,hi]
  have U:u.size=xs.length:=qJ
  refine .agg xs u U ?_ ?_<;>intro i hi
  ·have :=(O i hi).1;rw[hg i hi]at this;exact this
  have Y:=(O i hi).2;rw[hg i hi]at Y;have Z:i<u.size:=AB
  have e:u.toList.getD i undef=u.getD i undef:=by simp[List.getD,Array.getD,Z]
  rw[e]at Y;cases Y with |d _ _ h=>exact h
def amk {ok:Nat->Prop} {w:BU} {H:A8 CP} {ys:A8 D} {size b:Nat} {cells:C9 Au} {e:CG} {fr:Nat×Nat} (u:∀y∈ys,y.cells.length=size) (O:w.heap[b]? =some (.cells cells e fr)) (z:ok b) (I:Fj ok w H (flat ys) cells.toList):
 ES ok w (.sl ys) (.slice (some ⟨b,0,none⟩) ys.length ys.length):=by
 have hl:=SY u;have J:cells.size=ys.length*size:=by have :=I.1;simp at this;omega
 have U:∀i,i<ys.length->ys.getD i EO∈ys:=fun i hi=>Nh
 have L:∀i j,i<ys.length->j<size->i*size+j<ys.length*size:=by
  intro i j hi q
  calc i*size+j<i*size+size:=AB
   _=(i+1)*size:=by rw[Uk]
   _<=ys.length*size:=MB _ hi
 have M:∀i j,i<ys.length->j<size->w.cell? ⟨b,0+(i*size+j),none⟩=some (cells.toList.getD (i*size+j) undef):=by
  intro i j hi q;have :=L i j hi q;rw[Kz];simp[World.cell?,O,J,this,List.getD]
 refine .sl ys b 0 ys.length size (EZ _) (fun _ _=>z) (fun i hi=>u _ (U i hi)) (fun i hi j q=>?_) (fun i hi j q=>?_) (fun i hi j q=>?_)
 ·have :=(I.2 (i*size+j) (by rw[hl];exact L i j hi q)).1;rw[flat_get u i j hi q]at this;exact this
 ·rw[M i j hi q];rfl
 have :=(I.2 (i*size+j) (by rw[hl];exact L i j hi q)).2;rw[flat_get u i j hi q]at this;unfold cellAt;rw[M i j hi q];cases this with |d _ _ h=>exact h
def aTJ {t e:CG} {size u len:Nat} {z:Au} (hE:Hf P t e size u) (hz:(P.info? e).bind (·.zero)=some z) (h1:z.cells.all (·.oneCell')=true) (Y:z.cells.size=size) (hlen:len*size<=16777216) {j:C9 (Nat×CM)} {vs:A8 Af}
 (hp:OI (fun i=>some (i*size,size)) (len*size) j.toList vs=true) {ok:Nat->Prop} {w:BU} {H:A8 CP} {a:Act} (hn:∀n∈Np j.toList vs,R ok w H n.2 (a.eval n.1)):
 ∃cells,(Instr.buildSlice t len (j.map fun(i,x)=>(i,a.eval x))).run P w=.ok (.slice (some ⟨w.heap.size,0,none⟩) len len) (w.alloc (.cells cells e))/\Fj ok w H (Kr (fun i=>some (i*size,size)) (Qm z (len*size)) j.toList vs) cells.toList:=by
 obtain⟨i,z',hi,_,hs,_,_⟩:=hE.info;have Z:=aDs (P:=P) hz w;have I:(sizeOf e).run P w=.ok size w:=aGV
 have J:(underlying t).run P w=.ok (.slice e) w:=aIK
 have e0:(j.map fun(i,x)=>(i,a.eval x)).toList=j.toList.map fun p=>(p.1,a.eval p.2):=Bh
 have hzl:(Qm z (len*size)).length=len*size:=by simp[Qm]
 have L:0<z.cells.size:=by rw[Y];exact hE.pos
 obtain⟨q,hc,hR⟩:=uX (place:=fun i=>some (i*size,size)) j.toList vs (Qm z (len*size)) _ (aZt (ok:=ok) (w:=w) (H:=H) (n:=len*size) h1 L) (by rw[hzl];exact hp) hn;refine⟨q,?_,hR⟩;have M:¬(len*size>2^24):=AB
 by_cases O:len*size=0
 ·have hr0:(Array.range (len*size)).map (fun k=>(z.cells[k % z.cells.size]! :Au))= #[]:=by rw[O];simp
  rw[hr0]at hc;have U:(Array.range (len*size)).map (fun k=>((#[]:C9 Au)[k % (#[]:C9 Au).size]! :Au))= #[]:=by rw[O];simp
  simp only[Instr.buildSlice,G6,J,GY,I,M,KP,Sem.run_ite,O,Ku,Gy];simp only[O]at U;rw[U,e0,hc];rfl
 simp only[Instr.buildSlice,G6,J,GY,I,M,KP,Sem.run_ite,O,Z,Gy];rw[e0,hc];rfl
def aSi {t e:CG} {size q len:Nat} {z:Au} (hE:Hf P t e size q) (O:(P.info? e).bind (·.zero)=some z) (U:z.cells.all (·.oneCell')=true) (J:z.cells.size=size) (hlen:len*size<=16777216) {j:C9 (Nat×CM)} (vs:A8 Af) (ys:A8 D)
 (hp:OI (fun i=>some (i*size,size)) (len*size) j.toList vs=true) (L:Kr (fun i=>some (i*size,size)) (Qm z (len*size)) j.toList vs=flat ys) (hl:ys.length=len) (u:ys.all (fun y=>y.cells.length=size)=true) (Y:o.op=.buildSlice t len j):
 CQ P o (Np j.toList vs) es (.d (.sl ys)) es:=
 .eff fun C ok H a w hm Z=>by
  obtain⟨cells,hr,I⟩:=aTJ hE O U J hlen hp Z;rw[L]at I;obtain⟨h2,M⟩:=hm.fresh (.cells cells e);refine⟨.slice (some ⟨w.heap.size,0,none⟩) len len,_,_,H,.inl ?_,M,.refl _,h2,.d _ _ ?_⟩
  ·simp only[execOp,Y,G6,hr,GY,Gy]
  rw[←hl];exact amk (H:=H) (fun y L=>by rw[El]at u;simpa using u y L) (XD w _) (.inr rfl) (I.mono M (.refl _))
def aIC {t e:CG} {size q len:Nat} {z:Au} (hE:Hf P t e size q) (hz:(P.info? e).bind (·.zero)=some z) (h1:z.cells.all (·.oneCell')=true) (U:z.cells.size=size) (hlen:len*size<=16777216) {j:C9 (Nat×CM)} (vs:A8 Af) (ys:A8 D)
 (hp:OI (fun i=>some (i*size,size)) (len*size) j.toList vs=true) (Y:Kr (fun i=>some (i*size,size)) (Qm z (len*size)) j.toList vs=flat ys) (hl:ys.length=len) (I:ys.all (fun y=>y.cells.length=size)=true) (ho:o.op=.buildSlice t len j):
 CQ P o (Np j.toList vs) es (.aO es.length) (es++[.arr e size ys]):=
 .eff fun C ok H a w hm hn=>by
  obtain⟨cells,hr,u⟩:=aTJ hE hz h1 U hlen hp hn;rw[Y]at u;have J:∀y∈ys,y.cells.length=size:=fun y Y=>by rw[El]at I;simpa using I y Y
  have hfl:=SY J;have L:cells.size=ys.length*size:=by have :=u.1;simp at this;omega
  have M:=hE.pos
  have Z:ys.length<=16777216:=by
   have :ys.length*1<=ys.length*size:=Nat.mul_le_mul_left _ M;rw[hl]at this ⊢;omega
  obtain⟨h2,h3⟩:=hm.push (.cells cells e) ⟨.slice (some ⟨w.heap.size,0,none⟩) len len,size⟩ (.arr e size ys) (fun b O=>by simpa[EK]using O.symm) (by
   refine⟨rfl,J,cells.toList,⟨YM,.inr ⟨w.heap.size,len,cells,by rw[hl],Ea _,XD w _,AB,by unfold maxLen;omega,aV (by rw[L,hl]),?_⟩⟩,?_⟩
   ·rw[Qj EW]
   exact u.mono (fun b O=>⟨O,Kq _ _ _ (hm.kS b O)⟩) (Ho _ _))
  refine⟨.slice (some ⟨w.heap.size,0,none⟩) len len,_,ok,_,.inl ?_,h3,Ho _ _,h2,.aO _ _ _ _ size PD⟩;simp only[execOp,ho,G6,hr,GY,Gy]
end
section
variable {P:Ce} {ops:C9 Oper} {Q:Exit->Act->BU->Prop} {φ:Nat->Au->BU->Prop} {W:BU} {a0:Act} {i:Nat}
variable {d:AL Tmp} {t:CG} {p:String} {af:C9 Edge} {g:AL (Nat×AZ)}
def Enters (P:Ce) (f:FuncId):Prop:=∀args w,(callFunc f args).run P w=.ok (.enter f args) w
def enters_of {f:FuncId} {fn:Func} {c:Code} (q:P.funcs[f]? =some fn) (j:(fn.name== "runtime.NumGoroutine")=false) (u:fn.body=some c):Enters P f:=by
 intro args w;have z:fn.name≠ "runtime.NumGoroutine" :=WV
 simp[callFunc,q,z,u]
def Hd (P:Ce) (f:FuncId):AZ:=match P.funcs[f]? with
 |some fn=> !(fn.name== "runtime.NumGoroutine")&&fn.body.isSome
 |none=>false
def U9 {f:FuncId} (h:Hd P f=true):Enters P f:=by
 unfold Hd at h;cases j:P.funcs[f]? with
 |none=>rw[j]at h;cases h
 |some fn=>
  rw[j]at h;simp only[Du,ND]at h;obtain⟨c,q⟩:=SP.1 h.2;exact enters_of j h.1 q
def um {o:Oper} {a:Act} {f:FuncId} {ats:C9 CG} {aMP:C9 CM} (j:o.op=.call { callee:=.value (.func f),args:=aMP,argTypes:=ats }):execOp a.eval o=callFunc f (aMP.map a.eval):=by
 have q:a.eval (.func f)=.func (.func f) #[] #[]:=rfl;unfold execOp;simp[j,resolve,Deferred.ofValue,invoke,q]
end
inductive EU where
 |ent (k:Nat)
 |nil (size:Nat)
def EU.hd (H:A8 CP):EU->CP
 | .ent k=>H.getD k ⟨undef,0⟩
 | .nil s=>⟨.slice none 0 0,s⟩
def Af.Vs (srcs:A8 EU) (n:Nat):Af->Af
 | .d x=>.d x
 | .ptr k off=>match srcs[k]? with |some (.ent j)=>.ptr j off|some (.nil _)=>.junk|none=>.ptr (n+(k-srcs.length)) off
 | .aO k=>match srcs[k]? with |some (.ent j)=>.aO j|some (.nil _)=>.junk|none=>.aO (n+(k-srcs.length))
 | .lq k i off=>match srcs[k]? with |some (.ent j)=>.lq j i off|some (.nil _)=>.junk|none=>.lq (n+(k-srcs.length)) i off
 | .mp k=>match srcs[k]? with |some (.ent j)=>.mp j|some (.nil _)=>.junk|none=>.mp (n+(k-srcs.length))
 | .xP k=>match srcs[k]? with |some (.ent j)=>.xP j|some (.nil _)=>.junk|none=>.xP (n+(k-srcs.length))
 | .clip xs=>.clip xs
 |_=>.junk
def Af.up (srcs:A8 EU) (n:Nat):Af->Af
 | .fC xs=>.fC (xs.map (Af.Vs srcs n))
 | .fn f fi ca=>.fn f (fi.map (Af.Vs srcs n)) (ca.map (Af.Vs srcs n))
 |x=>x.Vs srcs n
def aNi (srcs:A8 EU):Af->Af->Prop
 | .d x,y=>y=.d x
 | .ptr k off,y=>∃i,y=.ptr i off/\srcs[i]? =some (.ent k)
 | .mp k,y=>∃i,y=.mp i/\srcs[i]? =some (.ent k)
 |_,_=>False
def vG (srcs:A8 EU):A8 Af->A8 Af->Prop
 |x::xs,y::ys=>aNi srcs x y/\vG srcs xs ys
 | [],[]=>True
 |_,_=>False
def tK {srcs:A8 EU}:∀{xs ys:A8 Af},vG srcs xs ys->xs.length=ys.length
 | [],[],_=>rfl
 |_::xs,_::ys,h=>by simp[tK h.2]
 | [],_::_,h=>h.elim
 |_::_,[],h=>h.elim
def aIn {srcs:A8 EU}:∀{xs ys:A8 Af},vG srcs xs ys->∀i,i<ys.length->aNi srcs (xs.getD i .junk) (ys.getD i .junk)
 | [],[],_,i,hi=>PV
 |_::xs,_::ys,h,0,_=>by simpa using h.1
 |_::xs,_::ys,h,i+1,hi=>by simpa using aIn h.2 i Gs
 | [],_::_,h,_,_=>h.elim
 |_::_,[],h,_,_=>h.elim
def aWf (srcs:A8 EU):Af->Af->Prop
 | .fn f fi ca,y=>∃j q,y=.fn f j q/\vG srcs fi j/\vG srcs ca q
 | .d x,y=>y=.d x\/(∃i s,x=.lit (.slice none 0 0)/\y=.aO i/\srcs[i]? =some (.nil s))\/(x=.lit (.slice none 0 0)/\y=.d (.sl []))
 | .aO k,y=>∃i,y=.aO i/\srcs[i]? =some (.ent k)
 | .ptr k off,y=>∃i,y=.ptr i off/\srcs[i]? =some (.ent k)
 | .mp k,y=>∃i,y=.mp i/\srcs[i]? =some (.ent k)
 |_,_=>False
def Bd.closed:Bd->AZ
 | .box cs=>cs.all Af.Bf
 | .loop .. =>false
 |_=>true
def FY.any {ok:Nat->Prop} {w:BU} {H H2:A8 CP} {h:CP} {e:Bd} (q:FY ok w H h e) (I:e.closed=true):FY ok w H2 h e:=by
 cases e with
 |dead=>trivial
 |box cs=>
  obtain⟨b,vs,T,J,L,M,z⟩:=q;refine⟨b,vs,T,J,L,M,fun i hi=>⟨(z i hi).1,?_⟩⟩;have u:=(z i hi).2;simp only[Bd.closed,El]at I;have j:=I (cs.getD i .junk) Nh;cases O:cs.getD i .junk with
  |d x=>rw[O]at u;cases u with |d _ _ h=>exact .d _ _ h
  |_=>rw[O]at j;simp[Af.Bf]at j
 |arr e s es=>
  obtain⟨J,L,xs,M,z,u⟩:=q;refine⟨J,L,xs,M,z,fun i hi=>⟨(u i hi).1,?_⟩⟩;have j:=(u i hi).2;have hm:(flat es).getD i .junk∈flat es:=Nh
  unfold flat at hm ⊢;simp only[Vy,Fh]at hm;obtain⟨x,_,y,_,U⟩:=hm;unfold flat at j;rw[←U]at j ⊢;cases j with |d _ _ h=>exact .d _ _ h
 |map es=>exact q
 |iM es=>exact q
 |iter es vis=>exact q
 |loop=>cases I
def Bd.up (srcs:A8 EU) (n:Nat):Bd->Bd
 | .box cs=>.box (cs.map (Af.Vs srcs n))
 |e=>e
def Af.ase (srcs:A8 EU):Af->AZ
 | .d _=>true
 | .mp k=>match srcs[k]? with |some (.ent _)=>true|_=>false
 | .ptr k _=>match srcs[k]? with |some (.ent _)=>true|_=>false
 |_=>false
def Bd.anv (srcs:A8 EU):Bd->AZ
 | .box cs=>cs.all (Af.ase srcs)
 | .loop .. =>false
 |_=>true
def Bd.apb (srcs:A8 EU) (n:Nat):Bd->AZ
 | .box cs=>cs.all fun x=>x.Bf||(x.Vs srcs n).leaf
 | .loop .. =>false
 |_=>true
def Bd.ad1 (srcs:A8 EU) (n:Nat) (e:Bd):(e.up srcs n).live=e.live:=by cases e<;>rfl
def aTa {srcs:A8 EU} {n:Nat} {x:Af} (h:x.Bf=true):x.Vs srcs n=x:=by cases x<;>first|rfl|cases h
def Bd.azz {srcs:A8 EU} {n:Nat} {e:Bd} (h:e.closed=true):e.up srcs n=e:=by
 cases e with
 |box cs=>
  simp only[Bd.closed,El]at h;show Bd.box (cs.map (Af.Vs srcs n))=Bd.box cs
  rw[show cs.map (Af.Vs srcs n)=cs from by
   conv=>rhs;rw[←List.map_id cs]
   exact aMd fun x j=>aTa (h x j)]
 |_=>rfl
def aYQ {srcs:A8 EU} {n:Nat}:∀{E:A8 Bd},E.all Bd.closed=true->E.map (Bd.up srcs n)=E
 | [],_=>rfl
 |e::E,h=>by
  simp only[yE,Du]at h;rw[JR,Bd.azz h.1,aYQ h.2]
def an7 {srcs:A8 EU} {n:Nat} {e:Bd} (h:e.closed=true):e.apb srcs n=true:=by
 cases e with
 |box cs=>
  simp only[Bd.closed,Bd.apb,El]at h ⊢;intro x j;rw[h x j];rfl
 |loop=>cases h
 |_=>rfl
def FY.down {ok:Nat->Prop} {w:BU} {H Hc:A8 CP} {h:CP} {srcs:A8 EU} {n:Nat} {e:Bd} (L:∀(j:Nat) (s:EU),srcs[j]? =some s->Hc[j]? =some (EU.hd H s)) (hd:e.anv srcs=true) (z:FY ok w H h (e.up srcs n)):FY ok w Hc h e:=by
 cases e with
 |dead=>trivial
 |arr=>exact z.any rfl
 |map=>exact z
 |iM=>exact z
 |iter=>exact z
 |loop=>cases hd
 |box cs=>
  obtain⟨b,vs,T,M,O,U,Y⟩:=z;refine⟨b,vs,T,M,O,by rw[U,Dc],fun i hi=>?_⟩;obtain⟨I,u⟩:=Y i aOJ;rw[Si _ _ _ hi]at u I;simp only[Bd.anv,El]at hd;have q:=hd (cs.getD i .junk) Nh;generalize cs.getD i .junk=x at u q I ⊢;generalize vs.toList.getD i undef=v at u ⊢;cases x with
  |d x=>exact⟨I,by cases u with |d _ _ h=>exact .d _ _ h⟩
  |mp k=>
   refine⟨rfl,?_⟩;simp only[Af.ase]at q;simp only[Af.Vs]at u;cases hs:srcs[k]? with
   |none=>rw[hs]at q;cases q
   |some s=>
    cases s with
    |nil _=>rw[hs]at q;cases q
    |ent j=>
     rw[hs]at u;cases u with
     |mp _ _ s hl J=>
      refine .mp k _ s hl ?_;rw[L k _ hs];simp[EU.hd,List.getD,J]
  |ptr k off=>
   refine⟨rfl,?_⟩;simp only[Af.ase]at q;simp only[Af.Vs]at u;cases hs:srcs[k]? with
   |none=>rw[hs]at q;cases q
   |some s=>
    cases s with
    |nil _=>rw[hs]at q;cases q
    |ent j=>
     rw[hs]at u;cases u with
     |ptr _ _ b s J=>
      refine .ptr k off b s ?_;rw[L k _ hs];simp[EU.hd,List.getD,J]
  |_=>simp[Af.ase]at q
def MW (srcs:A8 EU) (es E':A8 Bd):A8 Bd:=
 (es.zipIdx.map fun(e,j)=>match srcs.findIdx? (fun s=>match s with | .ent k=>k==j| .nil _=>false)with |some i=>(E'.getD i .dead).up srcs es.length|none=>e)++(E'.drop srcs.length).map (Bd.up srcs es.length)
def TN (srcs:A8 EU) (es E E':A8 Bd):AZ:=
 decide (srcs.length=E.length)&&(srcs.length<=E'.length)&&E.all (Bd.anv srcs)&&E'.all (Bd.apb srcs es.length)&&
 decide ((srcs.filterMap fun s=>match s with | .ent k=>some k| .nil _=>none).Nodup)&&
 ((srcs.zip E').all fun p=>match p.1 with | .ent _=>true| .nil _=> !p.2.live)&&(srcs.all fun s=>match s with | .ent k=>k<es.length&&(es.getD k .dead).live| .nil _=>true)
def uo (srcs:A8 EU) (es:A8 Bd):A8 Bd->Prop
 |E=>∀(i:Nat) (s:EU),srcs[i]? =some s->match s with | .ent k=>(E[i]?).map (Bd.up srcs es.length)=es[k]? | .nil sz=>∃e,E[i]? =some (.arr e sz [])
def V9 {ok:Nat->Prop} {w:BU} {H Hc H':A8 CP} {srcs:A8 EU} {x:Af} {v:Au} (O:Hc=srcs.map (EU.hd H)) (I:∀(i k:Nat),srcs[i]? =some (.ent k)->k<H.length) (U:Names Hc H') (h:R ok w H' x v):R ok w (H++H'.drop srcs.length) (x.Vs srcs H.length) v:=by
 have key:∀(k:Nat) (hd:CP),H'[k]? =some hd->(∀(j:Nat),srcs[k]? =some (.ent j)->(H++H'.drop srcs.length)[j]? =some hd)/\(srcs[k]? =none->(H++H'.drop srcs.length)[H.length+(k-srcs.length)]? =some hd):=by
  intro k hd L;refine⟨fun j M=>?_,fun J=>?_⟩
  ·have z:=I k j M;have u:Hc[k]? =some (H.getD j ⟨undef,0⟩):=by rw[O,Jg,M];rfl
   have q:=U _ _ u;rw[L]at q;rw[Hu z];simp[List.getD,z]at q;simp[z,q]
  have Y:srcs.length<=k:=SS
  rw[Kt AB,UQ];have :srcs.length+(H.length+(k-srcs.length)-H.length)=k:=AB
  rw[this,L]
 cases h with
 |d x v h=>exact .d x v h
 |ptr k off b s h=>
  obtain⟨u,q⟩:=key k _ h;simp only[Af.Vs];split<;>rename_i hs
  ·exact .ptr _ off b s (u _ hs)
  ·exact .junk _
  exact .ptr _ off b s (q hs)
 |aO k ad n cap s h=>
  obtain⟨u,q⟩:=key k _ h;simp only[Af.Vs];split<;>rename_i hs
  ·exact .aO _ ad n cap s (u _ hs)
  ·exact .junk _
  exact .aO _ ad n cap s (q hs)
 |lq k i off b n cap s h=>
  obtain⟨u,q⟩:=key k _ h;simp only[Af.Vs];split<;>rename_i hs
  ·exact .lq _ i off b n cap s (u _ hs)
  ·exact .junk _
  exact .lq _ i off b n cap s (q hs)
 |mp k v s hl h=>
  obtain⟨u,q⟩:=key k _ h;simp only[Af.Vs];split<;>rename_i hs
  ·exact .mp _ v s hl (u _ hs)
  ·exact .junk _
  exact .mp _ v s hl (q hs)
 |clip xs ad h=>exact .clip xs ad h
 |xP k ad n cap s h=>
  obtain⟨u,q⟩:=key k _ h;simp only[Af.Vs];split<;>rename_i hs
  ·exact .xP _ ad n cap s (u _ hs)
  ·exact .junk _
  exact .xP _ ad n cap s (q hs)
 |fn f first cap vs us hl hm h h'=>exact .junk _
 |fC xs vs hl h=>exact .junk _
 |ag xs vs hl Z h=>exact .junk _
 |junk v=>exact .junk _
def aXz {ok:Nat->Prop} {w:BU} {H Hc H':A8 CP} {srcs:A8 EU} {x:Af} {v:Au} (q:Hc=srcs.map (EU.hd H)) (j:∀(i k:Nat),srcs[i]? =some (.ent k)->k<H.length) (u:Names Hc H') (h:R ok w H' x v):R ok w (H++H'.drop srcs.length) (x.up srcs H.length) v:=by
 cases h with
 |fC xs vs hl h=>exact .fC _ vs fP (fun i hi=>aOs)
 |ag xs vs hl z h=>exact .junk _
 |d x v h=>exact V9 q j u (.d x v h)
 |ptr k off b s h=>exact V9 q j u (.ptr k off b s h)
 |aO k ad n cap s h=>exact V9 q j u (.aO k ad n cap s h)
 |lq k i off b n cap s h=>exact V9 q j u (.lq k i off b n cap s h)
 |mp k v s hl h=>exact V9 q j u (.mp k v s hl h)
 |clip xs ad h=>exact V9 q j u (.clip xs ad h)
 |xP k ad n cap s h=>exact V9 q j u (.xP k ad n cap s h)
 |fn f first cap vs us hl hm h h'=>exact .fn f _ _ vs us fP (by simp[hm]) (fun i hi=>aOs) (fun i hi=>by rw[Dc]at hi;rw[Si _ _ _ hi];exact V9 q j u (h' i hi))
 |junk v=>exact .junk _
def FY.upw {ok:Nat->Prop} {w:BU} {H Hc H':A8 CP} {h:CP} {srcs:A8 EU} {n:Nat} {e:Bd} (I:Hc=srcs.map (EU.hd H)) (u:∀(i k:Nat),srcs[i]? =some (.ent k)->k<H.length) (J:Names Hc H') (hl:H.length=n) (z:e.apb srcs n=true) (j:FY ok w H' h e):
 FY ok w (H++H'.drop srcs.length) h (e.up srcs n):=by
 cases e with
 |dead=>trivial
 |arr=>exact j.any rfl
 |map=>exact j
 |iM=>exact j
 |iter=>exact j
 |loop=>cases z
 |box cs=>
  obtain⟨b,vs,T,L,M,O,U⟩:=j;refine⟨b,vs,T,L,M,by rw[O,Dc],fun i hi=>?_⟩;rw[Dc]at hi;obtain⟨Y,Z⟩:=U i hi;simp only[Bd.apb,El]at z;have q:=z (cs.getD i .junk) Nh;rw[Si _ _ _ hi];refine⟨?_,by have :=V9 I u J Z;rwa [hl]at this⟩;rcases Bool.or_eq_true_iff.1 q with q|q
  ·rw[aTa q];exact Y
  exact q
def G7 :A8 CM->A8 Af->A8 (CM×Af)
 |x::xs,v::vs=>(x,v)::G7 xs vs
 |_,_=>[]
def Nb (srcs:A8 EU):A8 Af->A8 Af->Prop
 |x::xs,y::ys=>aWf srcs x y/\Nb srcs xs ys
 | [],[]=>True
 |_,_=>False
def aRG {srcs:A8 EU}:∀{xs ys:A8 Af},Nb srcs xs ys->xs.length=ys.length
 | [],[],_=>rfl
 |_::xs,_::ys,h=>by simp[aRG h.2]
 | [],_::_,h=>h.elim
 |_::_,[],h=>h.elim
def ae1 {srcs:A8 EU} {ops:A8 CM}:∀{xs ys:A8 Af},ops.length=xs.length->Nb srcs xs ys->∀i,i<ys.length->∃o x,ops[i]? =some o/\(o,x)∈G7 ops xs/\aWf srcs x (ys.getD i .junk):=by
 induction ops with
 |nil=>
  intro xs ys hl h i hi;cases xs with
  |nil=>cases ys with |nil=>simp at hi|cons _ _=>exact h.elim
  |cons _ _=>simp at hl
 |cons o ops j=>
  intro xs ys hl h i hi;cases xs with
  |nil=>simp at hl
  |cons x xs=>
   cases ys with
   |nil=>exact h.elim
   |cons y ys=>
    cases i with
    |zero=>exact⟨o,x,rfl,by simp[G7],h.1⟩
    |succ i=>
     obtain⟨q,u,z,I,J⟩:=j NG h.2 i Gs;exact⟨q,u,N8,by simp[G7,I],SS⟩
def ami {srcs:A8 EU} {H:A8 CP} {b:Nat}:b∈(srcs.filterMap fun s=>match s with | .ent k=>EK (H.getD k ⟨undef,0⟩).v| .nil _=>none)↔∃k,.ent k∈srcs/\EK (H.getD k ⟨undef,0⟩).v=some b:=by
 rw[VA];constructor
 ·rintro⟨s,hs,h⟩;cases s with
  |ent k=>exact⟨k,hs,h⟩
  |nil _=>cases h
 rintro⟨k,hs,h⟩;exact⟨_,hs,h⟩
section
variable {P:Ce} {o:Oper} {es:A8 Bd}
def aT1 :∀{srcs:A8 EU},(srcs.filterMap fun s=>match s with | .ent k=>some k| .nil _=>none).Nodup->∀(i j k:Nat),srcs[i]? =some (.ent k)->srcs[j]? =some (.ent k)->i=j
 | [],_,i,j,k,h,_=>Ip
 |s::srcs,u,i,j,k,hi,z=>by
  have q:∀(n:Nat),srcs[n]? =some (.ent k)->k∈srcs.filterMap fun s=>match s with | .ent k=>some k| .nil _=>none:=fun n h=>by
   rw[VA];exact⟨_,WZ h,rfl⟩
  have I:(srcs.filterMap fun s=>match s with | .ent k=>some k| .nil _=>none).Nodup:=by
   cases s with
   |ent k'=>simp only[QM]at u;exact(NY.1 u).2
   |nil _=>simpa only[QM]using u
  match i,j with
  |0,0=>rfl
  |0,j+1=>
   simp at hi z;subst hi;simp only[QM]at u;exact absurd (q j z) (NY.1 u).1
  |i+1,0=>
   simp at hi z;subst z;simp only[QM]at u;exact absurd (q i hi) (NY.1 u).1
  |i+1,j+1=>rw[aT1 I i j k Gs N8]
def aQo {f:FuncId} {C:Ey} {ok:Nat->Prop} {H:A8 CP} {w:BU} (hm:E5 C ok H es w) (srcs:A8 EU) {eH fH:A8 Af} {E E':A8 Bd} {res:Af} (hr:Ed P f fH E res E')
 (hb:TN srcs es E E'=true) (hE:uo srcs es E) (ha:Nb srcs eH fH) {ops:A8 CM} (hl:ops.length=eH.length) {a:Act} (hn:∀n∈G7 ops eH,R ok w H n.2 (a.eval n.1)):
 Calls P f (ops.map a.eval).toArray w fun e w'=>∃v ok' H',e=.returned v/\Et ok w ok' w'/\Names H H'/\E5 C ok' H' (MW srcs es E') w'/\R ok' w' H' (res.up srcs es.length) v:=by
 unfold TN at hb;simp only[Du,I8,El]at hb;obtain⟨⟨⟨⟨⟨⟨hb1,hb2⟩,hb3⟩,hb4⟩,hb5⟩,hb6⟩,hb7⟩:=hb;have hidx:=aT1 hb5
 let Hc:=srcs.map (EU.hd H)
 let X:=srcs.filterMap fun s=>match s with | .ent k=>EK (H.getD k ⟨undef,0⟩).v| .nil _=>none
 have hX:∀b,b∈X↔∃k,.ent k∈srcs/\EK (H.getD k ⟨undef,0⟩).v=some b:=fun b=>ami
 have U:∀(i k:Nat),srcs[i]? =some (.ent k)->k<es.length/\(es.getD k .dead).live=true:=by
  intro i k hi;have :=hb7 _ (WZ hi);simpa using this
 have hlt:∀(i k:Nat),srcs[i]? =some (.ent k)->k<H.length:=fun i k hi=>by rw[hm.hlen];exact(U i k hi).1
 have hHk:∀(k:Nat),k<H.length->H[k]? =some (H.getD k ⟨undef,0⟩):=fun k hk=>by simp[List.getD,hk]
 have apc:∀(k:Nat),k<es.length->es[k]? =some (es.getD k .dead):=fun k hk=>by simp[List.getD,hk]
 have L:∀b,b∈X->∃(i k:Nat),srcs[i]? =some (.ent k)/\EK (H.getD k ⟨undef,0⟩).v=some b/\¬ok b/\b<w.heap.size/\(C.w0.heap.size<=b\/b∈C.X):=by
  intro b hb;obtain⟨k,hk,hbk⟩:=(hX b).1 hb;obtain⟨i,hi,M⟩:=I5 hk;have hi':srcs[i]? =some (.ent k):=by simp[hi,M]
  have :=hm.blk k _ _ b (apc k (U i k hi').1) (U i k hi').2 (hHk k (hlt i k hi')) hbk;exact⟨i,k,hi',hbk,this⟩
 have hmc:E5 ⟨w,ok,X,Hc⟩ ok Hc E w:=by
  refine⟨.refl _ _,fun _ h=>h,fun _ h=>.inl h,hm.kS,.refl _,by simp[Hc,hb1],?_,?_,?_⟩
  ·intro i e h M I;have hi:i<srcs.length:=aGP
   have hcl:e.anv srcs=true:=hb3 e (WZ M);have aG4:∀(j:Nat) (s:EU),srcs[j]? =some s->Hc[j]? =some (EU.hd H s):=fun j s hs=>by simp[Hc,hs]
   have hs:srcs[i]? =some srcs[i]:=Tt
   have hd:=hE i _ hs;simp only[Hc,Jg,hs,JQ,Mc]at I;cases hsi:srcs[i]with
   |ent k=>
    rw[hsi]at hd I hs;simp only[EU.hd]at I;subst I;simp only at hd;rw[M,JQ]at hd;exact FY.down aG4 hcl (hm.ent k _ _ hd.symm (hHk k (hlt i k hs)))
   |nil sz=>
    rw[hsi]at hd I;simp only[EU.hd]at I;subst I;obtain⟨e',he'⟩:=hd;rw[M]at he';obtain rfl:=Dq he';exact⟨rfl,Bh,[],⟨Bh,.inl ⟨rfl,rfl⟩⟩,aX,fun i hi=>aB6⟩
  ·intro i e h b M J I z;have hi:i<srcs.length:=aGP
   have hs:srcs[i]? =some srcs[i]:=Tt
   simp only[Hc,Jg,hs,JQ,Mc]at I;cases hsi:srcs[i]with
   |ent k=>
    rw[hsi]at I hs;simp only[EU.hd]at I;subst I;have hbX:b∈X:=(hX b).2 ⟨k,WZ hs,z⟩;obtain⟨_,_,_,_,O,Y,_⟩:=L b hbX;exact⟨O,Y,.inr hbX⟩
   |nil sz=>
    rw[hsi]at I;simp only[EU.hd]at I;subst I;simp[EK]at z
  intro i j e e' h h' b M he' J Z I hh' z ame;have hi:i<srcs.length:=aGP
  have hj:j<srcs.length:=by rw[hb1];exact(GH.1 he').1
  have hs:srcs[i]? =some srcs[i]:=Tt
  have hs':srcs[j]? =some srcs[j]:=by simp[hj]
  simp only[Hc,Jg,hs,JQ,Mc]at I;simp only[Hc,Jg,hs',JQ,Mc]at hh';cases hsi:srcs[i]with
  |nil sz=>rw[hsi]at I;simp only[EU.hd]at I;subst I;simp[EK]at z
  |ent k=>
   cases hsj:srcs[j]with
   |nil sz=>rw[hsj]at hh';simp only[EU.hd]at hh';subst hh';simp[EK]at ame
   |ent k'=>
    rw[hsi]at I hs;rw[hsj]at hh' hs';simp only[EU.hd]at I hh';subst I;subst hh';have hkk:=hm.Fe k k' _ _ _ _ b (apc k (U i k hs).1) (apc k' (U j k' hs').1) (U i k hs).2 (U j k' hs').2 (hHk k (hlt i k hs)) (hHk k' (hlt j k' hs')) z ame;subst hkk;exact hidx i j k hs hs'
 have hargs:∀i,i<fH.length->R ok w Hc (fH.getD i .junk) ((ops.map a.eval).toArray.getD i undef):=by
  intro i hi;obtain⟨op,x,ho,hmem,harg⟩:=ae1 hl ha i hi;have hR:=hn _ hmem
  have e:(ops.map a.eval).toArray.getD i undef=a.eval op:=by
   obtain⟨O,Y⟩:=GH.1 ho;simp[Array.getD,O,Y]
  rw[e];simp only at hR;generalize fH.getD i .junk=y at harg ⊢;generalize a.eval op=u at hR ⊢;have hHc:∀(j:Nat) (s:EU),srcs[j]? =some s->Hc[j]? =some (EU.hd H s):=fun j s hs=>by simp[Hc,hs]
  cases x with
  |d x=>
   rcases harg with rfl|⟨j,s,rfl,rfl,hs⟩|⟨rfl,rfl⟩
   ·cases hR with |d _ _ h=>exact .d _ _ h
   ·have :=hR.lit;rw[this];exact .aO j none 0 0 s (hHc j _ hs)
   have :=hR.lit;rw[this];exact .d _ _ (.sl0 none 0)
  |aO k=>
   obtain⟨j,rfl,hs⟩:=harg;cases hR with
   |aO _ ad n cap s hH=>
    refine .aO j ad n cap s ?_;rw[hHc j _ hs];simp[EU.hd,List.getD,hH]
  |ptr k off=>
   obtain⟨j,rfl,hs⟩:=harg;cases hR with
   |ptr _ _ b s hH=>
    refine .ptr j off b s ?_;rw[hHc j _ hs];simp[EU.hd,List.getD,hH]
  |mp k=>
   obtain⟨j,rfl,hs⟩:=harg;cases hR with
   |mp _ _ s hl hH=>
    refine .mp j _ s hl ?_;rw[hHc j _ hs];simp[EU.hd,List.getD,hH]
  |fn f fi ca=>
   obtain⟨fi',ca',rfl,O,Y⟩:=harg
   have one:∀(x y:Af) (v:Au),aNi srcs x y->R ok w H x v->R ok w Hc y v:=by
    intro x y v hxy hx;cases x with
    |d x=>obtain rfl:=hxy;cases hx with |d _ _ h=>exact .d _ _ h
    |mp k=>
     obtain⟨j,rfl,hs⟩:=hxy;cases hx with
     |mp _ _ s hl hH=>
      refine .mp j _ s hl ?_;rw[hHc j _ hs];simp[EU.hd,List.getD,hH]
    |ptr k off=>
     obtain⟨j,rfl,hs⟩:=hxy;cases hx with
     |ptr _ _ b s hH=>
      refine .ptr j off b s ?_;rw[hHc j _ hs];simp[EU.hd,List.getD,hH]
    |_=>exact hxy.elim
   cases hR with
   |fn _ _ _ vs us hl1 hl2 h3 h4=>
    refine .fn f fi' ca' vs us (by rw[hl1,tK O]) (by rw[hl2,tK Y]) (fun i hi=>?_) (fun i hi=>?_)
    ·exact one _ _ _ (aIn O i hi) (h3 i (by rw[tK O];exact hi))
    exact one _ _ _ (aIn Y i hi) (h4 i (by rw[tK Y];exact hi))
  |_=>exact harg.elim
 refine(hr ok X Hc w _ hmc (by simp[hl,aRG ha]) hargs).mono ?_;rintro e w' ⟨v,ok',H',rfl,q,hR⟩;have hgr:Et ok w ok' w':=fun b hb=>⟨q.yY b hb,q.fr.block b (hm.kS b hb) (fun hbX=>by obtain⟨_,_,_,_,O,_⟩:=L b hbX;exact O hb)⟩
 have aLI:srcs.length<=H'.length:=by rw[q.hlen];exact hb2
 refine⟨v,ok',H++H'.drop srcs.length,rfl,hgr,Ho _ _,?_,by have :=aXz rfl hlt q.names hR;rwa [hm.hlen]at this⟩
 let idx:Nat->AL Nat:=fun j=>srcs.findIdx? (fun s=>match s with | .ent k=>k==j| .nil _=>false)
 have aF8:∀(j i:Nat),idx j=some i->srcs[i]? =some (.ent j):=by
  intro j i h;simp only[idx,aRu]at h;obtain⟨O,Y,_⟩:=h;have :srcs[i]? =some srcs[i]:=by simp[O]
  cases hs:srcs[i]with
  |ent k=>rw[hs]at Y this;simp at Y;rw[this,Y]
  |nil _=>rw[hs]at Y;simp at Y
 have aF9:∀(j:Nat),idx j=none->∀(i:Nat),srcs[i]? ≠some (.ent j):=by
  intro j h i hi;simp only[idx,List.findIdx?_eq_none_iff]at h;have :=h _ (WZ hi);simp at this
 have hlow:∀(j:Nat),j<es.length->(MW srcs es E')[j]? =some (match idx j with |some i=>(E'.getD i .dead).up srcs es.length|none=>es.getD j .dead):=by
  intro j hj;unfold MW;rw[Hu (by simpa using hj)];simp only[Jg,List.getElem?_zipIdx,apc j hj,JQ,Kz];rfl
 have aET:(MW srcs es E').length=es.length+(E'.length-srcs.length):=by simp[MW]
 have hhigh:∀(j:Nat),es.length<=j->(MW srcs es E')[j]? =(E'[srcs.length+(j-es.length)]?).map (Bd.up srcs es.length):=by
  intro j hj;unfold MW;rw[Kt (by simpa using hj),Jg,UQ];simp
 have aGa:∀(j:Nat),j<es.length->(H++H'.drop srcs.length)[j]? =H[j]? :=fun j hj=>Hu (by rw[hm.hlen];exact hj)
 have aEU:∀(j:Nat),es.length<=j->(H++H'.drop srcs.length)[j]? =H'[srcs.length+(j-es.length)]? :=by
  intro j hj;rw[Kt (by rw[hm.hlen];exact hj),UQ,hm.hlen]
 have hcls:∀(j:Nat) (e:Bd) (h:CP),(MW srcs es E')[j]? =some e->e.live=true\/True->(H++H'.drop srcs.length)[j]? =some h->
  (∃(i:Nat) (e0:Bd),e=e0.up srcs es.length/\E'[i]? =some e0/\H'[i]? =some h/\((j<es.length/\srcs[i]? =some (.ent j))\/(es.length<=j/\i=srcs.length+(j-es.length))))\/(j<es.length/\es[j]? =some e/\H[j]? =some h/\∀(i:Nat),srcs[i]? ≠some (.ent j)):=by
  intro j e h M _ I;by_cases hj:j<es.length
  ·rw[hlow j hj]at M;rw[aGa j hj]at I;cases hi:idx j with
   |none=>
    rw[hi]at M;simp only[Mc]at M;exact .inr ⟨hj,by rw[apc j hj,M],I,aF9 j hi⟩
   |some i=>
    rw[hi]at M;simp only[Mc]at M;have hs:=aF8 j i hi;have hil:i<srcs.length:=(GH.1 hs).1;have hiE:i<E'.length:=AB
    refine .inl ⟨i,_,M.symm,by simp[List.getD,hiE],?_,.inl ⟨hj,hs⟩⟩;refine q.names i h ?_;simp only[Hc,Jg,hs,JQ,EU.hd];simp[List.getD,I]
  rw[hhigh j AB]at M;rw[aEU j AB]at I;rw[Uu]at M;obtain⟨e0,M,rfl⟩:=M;exact .inl ⟨_,_,rfl,M,I,.inr ⟨AB,rfl⟩⟩
 have hold:∀(j:Nat) (e:Bd) (h:CP) (b:Nat),es[j]? =some e->H[j]? =some h->(∀(i:Nat),srcs[i]? ≠some (.ent j))->e.live=true->EK h.v=some b->b<w.heap.size/\b∉X/\¬ok b/\(C.w0.heap.size<=b\/b∈C.X):=by
  intro j e h b M I hno J z;have O:=hm.blk j e h b M J I z;refine⟨O.2.1,fun hbX=>?_,O.1,O.2.2⟩;obtain⟨i,k,hs,hbk,_⟩:=L b hbX;have :=hm.Fe j k e _ h _ b M (apc k (U i k hs).1) J (U i k hs).2 I (hHk k (hlt i k hs)) z hbk;subst this;exact hno i hs
 have apd:∀(i:Nat) (e:Bd) (h:CP) (b:Nat),E'[i]? =some e->H'[i]? =some h->e.live=true->EK h.v=some b->¬ok' b/\b<w'.heap.size/\(w.heap.size<=b\/b∈X):=fun i e h b M I J z=>q.blk i e h b M J I z;refine⟨⟨q.fr.os.trans hm.fr.os,q.fr.tape.trans hm.fr.tape,q.fr.output.trans hm.fr.output,FC hm.fr.size q.fr.size,fun k hk hx=>?_⟩,fun b hb=>q.yY b (hm.yY b hb),?_,q.kS,hm.names.trans (Ho _ _),?_,?_,?_,?_⟩
 ·have hkw:k<w.heap.size:=Ur hk hm.fr.size
  rw[q.fr.block k hkw (fun hkX=>by
   obtain⟨_,_,_,_,_,_,h⟩:=L k hkX;rcases h with h|h
   ·omega
   exact hx h)]
  exact hm.fr.block k hk hx
 ·intro b hb;rcases q.yZ b hb with h|h|h
  ·exact hm.yZ b h
  ·exact .inr (.inl (FC hm.fr.size h))
  obtain⟨_,_,_,_,_,_,h⟩:=L b h;exact .inr h
 ·rw[aET,En,L6,hm.hlen,q.hlen]
 ·intro j e h M I;rcases hcls j e h M (.inr trivial) I with⟨i,e0,rfl,O,Y,_⟩|⟨_,O,Y,h3⟩
  ·exact FY.upw rfl hlt q.names hm.hlen (hb4 e0 (WZ O)) (q.ent i e0 h O Y)
  refine(hm.ent j e h O Y).mono hgr (Ho _ _) (fun J b z=>?_);have h4:=hold j e h b O Y h3 J z;exact q.fr.block b h4.1 h4.2.1
 ·intro j e h b M J I z;rcases hcls j e h M (.inr trivial) I with⟨i,e0,rfl,O,Y,_⟩|⟨_,O,Y,h3⟩
  ·have h4:=apd i e0 h b O Y aIt z;refine⟨h4.1,h4.2.1,?_⟩;rcases h4.2.2 with h5|h5
   ·exact .inl (FC hm.fr.size h5)
   obtain⟨_,_,_,_,_,_,h⟩:=L b h5;exact h
  have h4:=hold j e h b O Y h3 J z;refine⟨fun hok'=>?_,Ur h4.1 q.fr.size,h4.2.2.2⟩;rcases q.yZ b hok' with h5|h5|h5
  ·exact h4.2.2.1 h5
  ·have :w.heap.size<=b:=h5;omega
  exact h4.2.1 h5
 intro j j' e e' h h' b M he' J Z I hh' z ame;rcases hcls j e h M (.inr trivial) I with⟨i,e0,rfl,O,Y,h3⟩|⟨_,O,Y,h3⟩
 ·rcases hcls j' e' h' he' (.inr trivial) hh' with⟨i',e0',rfl,h1',h2',h3'⟩|⟨_,h1',h2',h3'⟩
  ·have hii:=q.Fe i i' e0 e0' h h' b O h1' aIt (by rw[Bd.ad1]at Z;exact Z) Y h2' z ame;subst hii;rcases h3 with⟨_,h4⟩|⟨h4,h5⟩
   ·rcases h3' with⟨_,h4'⟩|⟨h4',h5'⟩
    ·rw[h4]at h4';simpa using h4'
    have :=(GH.1 h4).1;omega
   rcases h3' with⟨_,h4'⟩|⟨h4',h5'⟩
   ·have :=(GH.1 h4').1;omega
   omega
  have h4:=hold j' e' h' b h1' h2' h3' Z ame;rcases(apd i e0 h b O Y aIt z).2.2 with h5|h5
  ·omega
  exact absurd h5 h4.2.1
 rcases hcls j' e' h' he' (.inr trivial) hh' with⟨i',e0',rfl,h1',h2',h3'⟩|⟨_,h1',h2',h3'⟩
 ·have h4:=hold j e h b O Y h3 J z;rcases(apd i' e0' h' b h1' h2' (by rw[Bd.ad1]at Z;exact Z) ame).2.2 with h5|h5
  ·omega
  exact absurd h5 h4.2.1
 exact hm.Fe j j' e e' h h' b O h1' J Z Y h2' z ame
def aP3 {f:FuncId} {ops:C9 CM} {ats:C9 CG} (srcs:A8 EU) {eH fH:A8 Af} {E E':A8 Bd} {j:Af} (q:Ed P f fH E j E') (u:Hd P f=true) (z:TN srcs es E E'=true) (hE:uo srcs es E) (ha:Nb srcs eH fH) (hl:ops.toList.length=eH.length)
 (I:o.op=.call { callee:=.value (.func f),args:=ops,argTypes:=ats }):CQ P o (G7 ops.toList eH) es (j.up srcs es.length) (MW srcs es E'):=by
 intro C ok H a w Q hm J;unfold Oper.wp;rw[um I,U9 u,dU];have e:ops.map a.eval=(ops.toList.map a.eval).toArray:=aDP
 rw[e];refine(aQo hm srcs q z hE ha hl J).mono ?_;rintro e w' ⟨v,ok',H',rfl,L,M,O,U⟩;exact⟨v,ok',H',rfl,L,M,O,U⟩
end
def Ae (n:Int):D:=.lit (.int .i64 n)
def Dn (n:Int):D:=.lit (.int .u8 n)
def EY (b:AZ):D:=.lit (.bool b)
def DV (s:BD):D:=.lit (.string s)
def Bo {α:Type} (e:α->D) (l:A8 α):D:=.sl (l.map e)
def BP (x:D):A8 Af:=x.cells.map .d
def Ak {α:Type} (l:A8 α) (i:Int):AL α:=if 0<=i then l[i.toNat]? else none
def DU {α:Type} (j:Nat) (l m:A8 α):AL (A8 α):=if(l.length+m.length)*j<=140737488355328 then some (l++m)else none
def IL (s:BD) (i:Int):AL Int:=if 0<=i then(s[i.toNat]?).map fun c=>(c.toNat:Int)else none
def IB {α:Type} (l:A8 α) (lo hi:Int):AL (A8 α):=if 0<=lo/\lo<=hi/\hi<=l.length then some ((l.drop lo.toNat).take (hi.toNat-lo.toNat))else none
def OM (s:BD) (lo hi:Int):AL BD:=if 0<=lo/\lo<=hi/\hi<=s.size then some (s.extract lo.toNat hi.toNat)else none
def Iw {α:Type} (j:Nat) (z:α) (n c:Int):AL (A8 α):=if 0<=n/\n<=c/\(j:Int)*c<=140737488355328 then some (List.replicate n.toNat z)else none
def Gx {α:Type} {l:A8 α} {i:Int} {x:α} (h:Ak l i=some x):0<=i/\l[i.toNat]? =some x:=by
 unfold Ak at h;split at h
 ·exact⟨‹_›,h⟩
 cases h
def aku {α β:Type} {l:A8 α} {i:Nat} {x:α} (f:α->β) (h:l[i]? =some x):(l.map f)[i]? =some (f x):=by simp[h]
def U8 {α:Type} {b:AZ} {x y z:α} (j:b=true) (h:(bif b then x else y)=z):x=z:=by subst j;exact h
def U3 {α:Type} {b:AZ} {x y z:α} (j:b=false) (h:(bif b then x else y)=z):y=z:=by subst j;exact h
def EM {α β:Type} {x:AL α} {f:α->AL β} {z:β} (h:x.bind f=some z):∃a,x=some a/\f a=some z:=mX.1 h
def Ap :Nat:=9223372036854775808
section
variable {P:Ce} {o:Oper} {es:A8 Bd} {α:Type}
def BQ {x:CM} {t e:CG} (enc:α->D) (l:A8 α) (ht:P.underlying t=some (.slice e)) (j:o.op=.call { callee:=.builtin .len,args:= #[x],argTypes:= #[t] }):
 CQ P o [(x,.d (Bo enc l))] es (.d (Ae l.length)) es:=by
 have :=agm (es:=es) (xs:=l.map enc) ht j;rw[Dc]at this;exact this
def Jb {x:CM} {t e e':CG} {k s:Nat} (enc:α->D) (l:A8 α) (j:es[k]? =some (.arr e' s (l.map enc))) (ht:P.underlying t=some (.slice e)) (q:o.op=.call { callee:=.builtin .len,args:= #[x],argTypes:= #[t] }):
 CQ P o [(x,.aO k)] es (.d (Ae l.length)) es:=by
 have :=agt j ht q;rw[Dc]at this;exact this
def akh {x:CM} {t:CG} (s:BD) (ht:P.underlying t=some .string) (j:o.op=.call { callee:=.builtin .len,args:= #[x],argTypes:= #[t] }):
 CQ P o [(x,.d (DV s))] es (.d (Ae s.size)) es:=agP ht j
def nK {x y:CM} {t e:CG} {k:IntKind} {i:Int} {agg:AZ} {size:Nat} (enc:α->D) {l:A8 α} {a:α} (h:Ak l i=some a) (ht:P.underlying t=some (.slice e)) (j:Em P e agg size) (hs:(enc a).cells.length=size) (q:o.op=.indexAddr t x y):
 CQ P o [(x,.d (Bo enc l)),(y,.d (.lit (.int k i)))] es (.d (.ref (enc a).cells 0)) es:=
 ak8 ht j (Gx h).1 (aku enc (Gx h).2) hs q
def Ia {x y:CM} {t e e':CG} {kd:IntKind} {i:Int} {k size:Nat} {agg:AZ} (enc:α->D) {l:A8 α} {a:α} (h:Ak l i=some a) (j:es[k]? =some (.arr e' size (l.map enc))) (ht:P.underlying t=some (.slice e)) (q:Em P e agg size) (u:o.op=.indexAddr t x y):
 CQ P o [(x,.aO k),(y,.d (.lit (.int kd i)))] es (.lq k i.toNat 0) es:=
 aiV j ht q (Gx h).1 (by have :=(GH.1 (Gx h).2).1;simpa using this) u
def aaw {s:BD} {i n:Int} (h:IL s i=some n):∃c,0<=i/\s[i.toNat]? =some c/\n=c.toNat:=by
 unfold IL at h;split at h
 ·rename_i j;rw[Uu]at h;obtain⟨c,q,u⟩:=h;exact⟨c,j,q,u.symm⟩
 cases h
def Jl {x y:CM} {t:CG} {k:IntKind} {i n:Int} {s:BD} (h:IL s i=some n) (ht:P.underlying t=some .string) (j:o.op=.index t x y):
 CQ P o [(x,.d (DV s)),(y,.d (.lit (.int k i)))] es (.d (Dn n)) es:=by
 obtain⟨c,q,u,rfl⟩:=aaw h;exact acp ht q u j
def tX {b:Nat} {l m r:A8 α} (h:DU b l m=some r):r=l++m/\(l.length+m.length)*b<=140737488355328:=by
 unfold DU at h;split at h
 ·exact⟨(Dq h).symm, ‹_›⟩
 cases h
def aBT {n b:Nat} (j:0<b) (h:n*b<=140737488355328):n<=maxLen:=by
 have :n*1<=n*b:=Nat.mul_le_mul_left _ j;unfold maxLen;omega
def E8 {s x:CM} {t e:CG} {size j k:Nat} (enc:α->D) {l m r:A8 α} (h:DU j l m=some r) (hE:Hf P t e size j) (u:es[k]? =some (.arr e size (l.map enc))) (z:∀a,(enc a).cells.length=size) (I:0<j)
 (J:o.op=.call { callee:=.builtin .append,args:= #[s,x],argTypes:= #[t,t] }):
 CQ P o [(s,.aO k),(x,.d (Bo enc m))] es (.aO es.length) (es.set k .dead++[.arr e size (r.map enc)]):=by
 obtain⟨rfl,q⟩:=tX h;have :=amy (ys:=m.map enc) hE u (fun y L=>by obtain⟨a,_,rfl⟩:=Fh.1 L;exact z a) OQ (by simpa using aBT I q) J;rw[←LP]at this;exact this
def adx {s r:BD} {lo hi:Int} (h:OM s lo hi=some r):(0<=lo/\lo<=hi/\hi<=s.size)/\r=s.extract lo.toNat hi.toNat:=by
 unfold OM at h;split at h
 ·exact⟨‹_›,(Dq h).symm⟩
 cases h
def zN (x:AL CM) (n:Int):A8 (CM×Af):=match x with |some y=>[(y,.d (Ae n))]|none=>[]
def kU {t:CG} {x:CM} {lo hi:AL CM} {l h:Int} {s r:BD} (hr:OM s l h=some r) (hl:lo=none->l=0) (Z:hi=none->h=s.size) (ht:P.underlying t=some .string) (J:o.op=.slice t x lo hi none):
 CQ P o ((x,.d (DV s))::(zN lo l++zN hi h)) es (.d (DV r)) es:=
 .pure fun ok H a w _ _ M=>by
  obtain⟨⟨O,h1,h2⟩,rfl⟩:=adx hr;have q:=(M (x,.d (DV s)) Bh).lit;simp only at q;have L:(underlying t).run P w=.ok .string w:=Ox
  refine⟨.string (s.extract l.toNat h.toNat),?_,.d _ _ (.lit _)⟩;have u:∀y,lo=some y->a.eval y=.int .i64 l:=fun y e=>(M (y,.d (Ae l)) aCR).lit;have I:∀y,hi=some y->a.eval y=.int .i64 h:=fun y e=>(M (y,.d (Ae h)) aCR).lit;have e1:((0:Int)<=h/\h<=(s.size:Int)):=⟨AB,h2⟩
  have e2:((0:Int)<=l/\l<=(h.toNat:Int)):=⟨O,AB⟩
  cases lo with
  |none=>
   have U:=hl rfl;subst U;cases hi with
   |none=>
    have j:=Z rfl;subst j;simp[execOp,J,q,Instr.sliceAt,Instr.slice,L,Instr.sliceBounds]
   |some y=>
    simp[execOp,J,q,Instr.sliceAt,Instr.slice,L,Instr.sliceBounds,Instr.sliceBound,I y rfl,asIntOf,e1]
  |some z=>
   cases hi with
   |none=>
    have j:=Z rfl;subst j;have Y:((0:Int)<=l/\l<=(s.size:Int)):=⟨O,AB⟩
    simp[execOp,J,q,Instr.sliceAt,Instr.slice,L,Instr.sliceBounds,Instr.sliceBound,u z rfl,asIntOf,Y]
   |some y=>
    simp[execOp,J,q,Instr.sliceAt,Instr.slice,L,Instr.sliceBounds,Instr.sliceBound,u z rfl,I y rfl,asIntOf,e1];intro hc;have :=hc O;omega
def aQS {l r:A8 α} {lo hi:Int} (h:IB l lo hi=some r):(0<=lo/\lo<=hi/\hi<=l.length)/\r=(l.drop lo.toNat).take (hi.toNat-lo.toNat):=by
 unfold IB at h;split at h
 ·exact⟨‹_›,(Dq h).symm⟩
 cases h
def aRD {ok:Nat->Prop} {w:BU} {xs:A8 D} {ad:AL Addr} {cap size l h:Nat} (Y:ES ok w (.sl xs) (.slice ad xs.length cap)) (hs:∀x∈xs,x.cells.length=size) (Z:l<=h) (h2:h<=xs.length):
 ES ok w (.sl ((xs.drop l).take (h-l))) (.slice (if cap=l then ad else ad.map (·.add (l*size))) (h-l) (cap-l)):=by
 have hlen:((xs.drop l).take (h-l)).length=h-l:=EW
 by_cases hz:h-l=0
 ·have :(xs.drop l).take (h-l)=[]:=by rw[hz];rfl
  rw[this,hz];exact .sl0 _ _
 have z:0<xs.length:=AB
 generalize hn:xs.length=n at Y;cases Y with
 |sl0=>simp at z
 |sl _ b off _ q hcap L I hf hx hc=>
  have M:q=size:=by
   rw[←I 0 z];exact hs _ (by simp[List.getD,z])
  subst M;have O:cap≠l:=AB
  rw[Dp O];simp only[JQ,addr_add]
  have U:∀i,i<h-l->((xs.drop l).take (h-l)).getD i EO=xs.getD (l+i) EO:=by
   intro i hi;simp[List.getD,NC hi,UQ]
  have u:∀i j,off+l*q+(i*q+j)=off+((l+i)*q+j):=by
   intro i j;rw[ku];omega
  have :=ES.sl ((xs.drop l).take (h-l)) b (off+l*q) (cap-l) q (ok:=ok) (w:=w) (by rw[hlen];omega) (fun Z h2=>L (by rw[hlen]at Z;omega) h2) (fun i hi=>by rw[hlen]at hi;rw[U i hi];exact I _ AB)
   (fun i hi j J=>by rw[hlen]at hi;rw[U i hi];exact hf _ AB j J) (fun i hi j J=>by rw[hlen]at hi;rw[u];exact hx _ AB j J)
   (fun i hi j J=>by rw[hlen]at hi;rw[U i hi,u];exact hc _ AB j J)
  rw[hlen]at this;exact this
def SA {t e:CG} {agg:AZ} {size:Nat} {x:CM} {lo hi:AL CM} {l h:Int} (enc:α->D) {xs r:A8 α} (hr:IB xs l h=some r) (hl:lo=none->l=0) (hh:hi=none->h=xs.length) (ht:P.underlying t=some (.slice e)) (O:Em P e agg size)
 (hc:∀a,(enc a).cells.length=size) (U:o.op=.slice t x lo hi none):CQ P o ((x,.d (Bo enc xs))::(zN lo l++zN hi h)) es (.d (Bo enc r)) es:=
 .pure fun ok H a w _ _ hn=>by
  obtain⟨⟨h0,h1,h2⟩,rfl⟩:=aQS hr;have hx:=hn (x,.d (Bo enc xs)) Bh;simp only at hx;generalize Y:a.eval x=v at hx;have Z:(underlying t).run P w=.ok (.slice e) w:=Ox
  have L:∀y,lo=some y->a.eval y=.int .i64 l:=fun y e=>(hn (y,.d (Ae l)) aCR).lit;have M:∀y,hi=some y->a.eval y=.int .i64 h:=fun y e=>(hn (y,.d (Ae h)) aCR).lit;have u:ES ok w (.sl (xs.map enc)) v:=by cases hx with |d _ _ h=>exact h
  have I:∃ad cap,v=.slice ad (xs.map enc).length cap/\(xs.map enc).length<=cap:=by
   generalize hys:xs.map enc=ys at u;cases u with
   |sl0 ad cap=>exact⟨ad,cap,rfl,Ea _⟩
   |sl _ b off cap size j=>exact⟨_,cap,rfl,j⟩
  obtain⟨ad,cap,rfl,j⟩:=I;have q:=aRD (l:=l.toNat) (h:=h.toNat) u (size:=size) (fun y hy=>aFy) AB EW;rw[←iC,←aK]at q;rw[Dc]at j;refine⟨_,?_,.d _ _ q⟩;have e1:((0:Int)<=h/\h<=(cap:Int)):=⟨AB,AB⟩
  cases lo with
  |none=>
   have hl0:=hl rfl;subst hl0;cases hi with
   |none=>
    have J:=hh rfl;subst J;simp[execOp,U,Y,Instr.sliceAt,Instr.slice,Z,Instr.sliceBounds,O.size]
   |some y=>
    simp[execOp,U,Y,Instr.sliceAt,Instr.slice,Z,Instr.sliceBounds,Instr.sliceBound,M y rfl,asIntOf,e1,O.size]
  |some z=>
   cases hi with
   |none=>
    have J:=hh rfl;subst J;have e2':((0:Int)<=l/\l<=(xs.length:Int)):=⟨h0,AB⟩
    simp[execOp,U,Y,Instr.sliceAt,Instr.slice,Z,Instr.sliceBounds,Instr.sliceBound,L z rfl,asIntOf,e2',O.size]
   |some y=>
    simp[execOp,U,Y,Instr.sliceAt,Instr.slice,Z,Instr.sliceBounds,Instr.sliceBound,L z rfl,M y rfl,asIntOf,e1,O.size];intro hc';have :=hc' h0;omega
def jk (P:Ce) (t:CG) (f off:Nat) (agg:AZ) (n:Nat):AZ:=
 match P.underlying t with
 |some (.struct q)=>match q[f]? with
  |some j=>j.offset=off&&aHX P j.type agg n
  |none=>false
 |_=>false
def agr {x:CM} {t:CG} {f off n:Nat} {agg:AZ} {cs:A8 D} (hp:jk P t f off agg n=true) (hn:off+n<=cs.length) (Z:agg=false->n=1) (M:o.op=.field t x f):CQ P o [(x,.d (.agg cs))] es (.d (QI agg cs off n)) es:=
 .pure fun ok H a w _ _ I=>by
  have J:=LV I;simp only at J;generalize O:a.eval x=v at J;unfold jk at hp;split at hp
  ·rename_i fs hu;split at hp
   ·rename_i j U;simp only[Du,I8]at hp;obtain⟨rfl,q⟩:=hp;have q:=Gp q;have u:(underlying t).run P w=.ok (.struct fs) w:=aA0
    cases J with
    |d _ _ h=>
     cases h with
     |agg _ vs hl L Y=>
      cases agg with
      |false=>
       have :=Z rfl;subst this;have z:j.offset<vs.size:=AB
       refine⟨vs[j.offset],?_,?_⟩
       ·simp[execOp,M,O,Instr.field,u,U,asAgg,part,q.agg,z]
       have :=Y j.offset AB;simp[Array.getD,z]at this;exact .d _ _ this
      |true=>
       refine⟨.agg (vs.extract j.offset (j.offset+n)),?_,?_⟩
       ·simp[execOp,M,O,Instr.field,u,U,asAgg,part,q.agg,q.size]
       simp only[QI,Ku];have hlen:((cs.drop j.offset).take n).length=n:=EW
       have hg:∀i,i<n->((cs.drop j.offset).take n).getD i EO=cs.getD (j.offset+i) EO:=by
        intro i hi;simp[List.getD,NC hi,UQ]
       refine .d _ _ (.agg _ _ (by rw[hlen];simp;omega) ?_ ?_)<;>intro i hi<;>rw[hlen]at hi<;>rw[hg i hi]
       ·exact L _ AB
       have :=Y (j.offset+i) AB
       have e:(vs.extract j.offset (j.offset+n)).getD i undef=vs.getD (j.offset+i) undef:=by
        have h3:j.offset+i<vs.size:=AB
        have h4:i<(vs.extract j.offset (j.offset+n)).size:=EW
        have h5:i<min (j.offset+n) vs.size-j.offset:=AB
        simp[Array.getD,h3,h5]
       rw[e];exact this
   cases hp
  cases hp
def Af.flat:Af->AZ
 | .d (.lit _)=>true
 | .fC xs=>xs.all fun x=>match x with | .d (.lit _)=>true|_=>false
 |_=>false
def aRn (es:A8 Bd):Af->Af->Prop
 | .d x,y=>y=.d x
 | .aO k,y=>∃e s xs,es[k]? =some (.arr e s xs)/\y=.d (.sl xs)
 |_,_=>False
def bM (es:A8 Bd):A8 Af->A8 Af->Prop
 |x::xs,y::ys=>aRn es x y/\bM es xs ys
 | [],[]=>True
 |_,_=>False
def aMU :∀{xs ys:A8 Af},bM es xs ys->xs.length=ys.length
 | [],[],_=>rfl
 |_::xs,_::ys,h=>by simp[aMU h.2]
 | [],_::_,h=>h.elim
 |_::_,[],h=>h.elim
def aXy {ops:A8 CM}:∀{xs ys:A8 Af},ops.length=xs.length->bM es xs ys->∀i,i<ys.length->∃o x,ops[i]? =some o/\(o,x)∈G7 ops xs/\aRn es x (ys.getD i .junk):=by
 induction ops with
 |nil=>
  intro xs ys hl h i hi;cases xs with
  |nil=>cases ys with |nil=>simp at hi|cons _ _=>exact h.elim
  |cons _ _=>simp at hl
 |cons o ops j=>
  intro xs ys hl h i hi;cases xs with
  |nil=>simp at hl
  |cons x xs=>
   cases ys with
   |nil=>exact h.elim
   |cons y ys=>
    cases i with
    |zero=>exact⟨o,x,rfl,by simp[G7],h.1⟩
    |succ i=>
     obtain⟨q,u,z,I,J⟩:=j NG h.2 i Gs;exact⟨q,u,N8,by simp[G7,I],SS⟩
def dN {ok ok':Nat->Prop} {w:BU} {H:A8 CP} {h:CP} {e s:Nat} {xs:A8 D} (he:FY ok w H h (.arr e s xs)) (u:∀b,ok b->ok' b) (M:∀b,EK h.v=some b->ok' b):ES ok' w (.sl xs) h.v:=by
 obtain⟨h1,J,ys,⟨h3,h4⟩,h5⟩:=he;rcases h4 with⟨L,h7⟩|⟨g,cap,cur,L,h7,h8,h9,h10,O,U⟩
 ·rw[Hg h7,L];exact .sl0 none 0
 rw[L];have z:=M g (by rw[L];rfl);have I:=SY J
 have Y:∀i j,i<xs.length->j<s->i*s+j<xs.length*s:=by
  intro i j hi q
  calc i*s+j<i*s+s:=AB
   _=(i+1)*s:=by rw[Uk]
   _<=xs.length*s:=MB _ hi
 have hcur:xs.length*s<=cur.size:=by
  exact FC (MB _ h9) O
 have hc:∀i j,i<xs.length->j<s->w.cell? ⟨g,0+(i*s+j),none⟩=some (ys.getD (i*s+j) undef):=by
  intro i j hi q;have Z:=Y i j hi q;rw[Kz]
  have e1:ys.getD (i*s+j) undef=cur[i*s+j]' AB:=by
   rw[←U];simp[List.getD,NC Z,show i*s+j<cur.size by omega]
  rw[e1];simp[World.cell?,h8,show i*s+j<cur.size by omega]
 have hg:∀i,i<xs.length->xs.getD i EO∈xs:=fun i hi=>Nh
 refine .sl xs g 0 cap s h9 (fun _ _=>z) (fun i hi=>J _ (hg i hi)) (fun i hi j q=>?_) (fun i hi j q=>?_) (fun i hi j q=>?_)
 ·have :=(h5.2 (i*s+j) (by rw[I];exact Y i j hi q)).1;rw[flat_get J i j hi q]at this;exact this
 ·rw[hc i j hi q];rfl
 have :=(h5.2 (i*s+j) (by rw[I];exact Y i j hi q)).2;rw[flat_get J i j hi q]at this;unfold cellAt;rw[hc i j hi q];cases this with |d _ _ h=>exact h.mono (fun b M=>⟨u b M,rfl⟩)
def aP {f:FuncId} {ops:C9 CM} {ats:C9 CG} {eH fH:A8 Af} {I:Af} (hr:Ed P f fH [] I []) (hf:Hd P f=true) (z:I.flat=true) (ha:bM es eH fH) (hl:ops.toList.length=eH.length)
 (ho:o.op=.call { callee:=.value (.func f),args:=ops,argTypes:=ats }):CQ P o (G7 ops.toList eH) es I es:=by
 intro C ok H a w Q hm hn;unfold Oper.wp;rw[um ho,U9 hf,dU];have e:ops.map a.eval=(ops.toList.map a.eval).toArray:=aDP
 rw[e]
 let J:Nat->Prop:=fun b=>b<w.heap.size
 have hmc:E5 ⟨w,J,[],[]⟩ J [] [] w:=
  ⟨.refl _ _,fun _ h=>h,fun _ h=>.inl h,fun _ h=>h,.refl _,rfl,fun k e h L _=>by simp at L,fun k e h b L=>by simp at L,fun k k' e e' h h' b L=>by simp at L⟩
 refine(hr J [] [] w _ hmc (by simp[hl,aMU ha]) (fun i hi=>?_)).mono ?_
 ·obtain⟨op,x,ho',U,j⟩:=aXy hl ha i hi;have O:=hn _ U
  have e:(ops.toList.map a.eval).toArray.getD i undef=a.eval op:=by
   obtain⟨h1,h2⟩:=GH.1 ho';have Y:i<ops.size:=by simpa using h1
   have Z:ops[i]=op:=qJ
   simp[Array.getD,Y,Z]
  rw[e];simp only at O;generalize fH.getD i .junk=y at j;generalize a.eval op=u at O;cases x with
  |d x=>
   obtain rfl:=j;cases O with |d _ _ h=>exact .d _ _ (h.mono (fun b M=>⟨hm.kS b M,rfl⟩))
  |aO k=>
   obtain⟨e',s,xs,hk,rfl⟩:=j;obtain⟨h,hh,hok⟩:=Hl hm.ent hm.hlen hk;obtain rfl:=QU O hh;exact .d _ _ (dN hok (fun b M=>hm.kS b M) (fun b M=>(hm.blk k _ h b hk rfl hh M).2.1))
  |_=>exact j.elim
 rintro e w' ⟨v,ok',H',rfl,q,O⟩;have hblk:∀b,b<w.heap.size->¬False->w'.heap[b]? =w.heap[b]? :=fun b M _=>q.fr.block b M Bh;obtain⟨h1,h2⟩:=hm.change (ok':=ok) (H':=H) (es':=es) (w':=w') (fun _=>False) q.fr.os q.fr.tape q.fr.output q.fr.size hblk (fun _ h=>h.elim) (fun _ h=>h) (fun _ h=>.inl h) (.refl _) hm.hlen (fun k e h L hh=>.inl ⟨L,hh,fun _ _ _ h=>h⟩);refine⟨v,ok,H,rfl,h2,.refl _,h1,?_⟩;cases O with
 |d x v h=>
  cases x with
  |lit u=>cases h;exact .d _ _ (.lit _)
  |_=>simp[Af.flat]at z
 |fC xs vs hl' h=>
  refine .fC xs vs hl' (fun i hi=>?_);simp only[Af.flat,El]at z;have Y:=z (xs.getD i .junk) Nh;have Z:=h i hi;generalize xs.getD i .junk=x at Y Z;generalize vs.getD i undef=u at Z;cases Z with
  |d y _ h5=>
   cases y with
   |lit u=>cases h5;exact .d _ _ (.lit _)
   |_=>simp at Y
  |_=>simp at Y
 |_=>simp[Af.flat]at z
end
def Af.thaw (k:Nat) (xs:A8 D):Af->Af
 | .aO j=>if j=k then .d (.sl xs)else .aO j
 | .lq j i off=>if j=k then .junk else .lq j i off
 |x=>x
def BO.thaw (σ:BO) (k:Nat) (xs:A8 D):BO:=⟨σ.slots.map (Af.thaw k xs),σ.ents.set k .dead,σ.base⟩
def Jf {σ:BO} (k:Nat) {e s:Nat} {xs:A8 D} (hk:σ.ents[k]? =some (.arr e s xs)):∀C ok H a w,Holds C ok H σ a w->∃ok',Holds C ok' H (σ.thaw k xs) a w:=by
 intro C ok H a w u;obtain⟨hd,O,hok⟩:=Hl u.mem.ent u.mem.hlen hk;have I:k<σ.ents.length:=(GH.1 hk).1
 let ok':Nat->Prop:=fun b=>ok b\/EK hd.v=some b
 have M:=fun b q=>u.mem.blk k _ hd b hk rfl O q;have hg:Et ok w ok' w:=fun b q=>⟨.inl q,rfl⟩
 refine⟨ok',⟨u.mem.fr,fun b q=>.inl (u.mem.yY b q),?_,?_,u.mem.names,by simp[BO.thaw,u.mem.hlen],?_,?_,?_⟩,by simp[BO.thaw,u.size],u.defers.mono hg,u.base,?_⟩
 ·rintro b (q|q)
  ·exact u.mem.yZ b q
  exact .inr (M b q).2.2
 ·rintro b (q|q)
  ·exact u.mem.kS b q
  exact(M b q).2.1
 ·intro j e' h' he J;rcases MO I he with⟨rfl,rfl⟩|⟨_,L⟩
  ·trivial
  exact(u.mem.ent j e' h' L J).mono hg (.refl _) (fun _ _ _=>rfl)
 ·intro j e' h' b he hl J q;rcases MO I he with⟨rfl,rfl⟩|⟨hne,L⟩
  ·cases hl
  have h3:=u.mem.blk j e' h' b L hl J q;refine⟨fun z=>?_,h3.2⟩;rcases z with z|z
  ·exact h3.1 z
  exact hne (u.mem.Fe j k e' _ h' hd b L hk hl rfl J O q z)
 ·intro i j e1 e2 h1 h2 b he1 he2 Y Z hh1 hh2 hb1 hb2;rcases MO I he1 with⟨rfl,rfl⟩|⟨_,asV⟩
  ·cases Y
  rcases MO I he2 with⟨rfl,rfl⟩|⟨_,amg⟩
  ·cases Z
  exact u.mem.Fe i j e1 e2 h1 h2 b asV amg Y Z hh1 hh2 hb1 hb2
 intro t ht;simp only[BO.thaw,Dc]at ht
 have e1:(σ.thaw k xs).slots.getD t .junk=(σ.slots.getD t .junk).thaw k xs:=by
  simp only[BO.thaw];exact Si _ _ _ ht
 rw[e1];have U:=(u.slot t ht).mono hg (aT H);generalize σ.slots.getD t .junk=x at U ⊢;generalize a.tmps.getD t undef=v at U ⊢;cases x with
 |aO j=>
  simp only[Af.thaw];split
  ·rename_i hj;subst hj;obtain rfl:=QU U O;exact .d _ _ (dN hok (fun b q=>.inl q) (fun b q=>.inr q))
  exact U
 |lq j i off=>
  simp only[Af.thaw];split
  ·exact .junk _
  exact U
 |_=>exact U
def Bv.thaw {P:Ce} {c:Code} {σ:BO} {Q:Exit->BO->Prop} (k:Nat) {e s:Nat} {xs:A8 D} (q:σ.ents[k]? =some (.arr e s xs)) (h:Bv P c (σ.thaw k xs) Q):Bv P c σ Q:=by
 refine⟨fun ro u C ok H a w z=>?_⟩;obtain⟨ok',j⟩:=Jf k q C ok H a w z;exact h.run ro u C ok' H a w j
def Ed.view {P:Ce} {f:FuncId} {args:A8 Af} {e s:Nat} {xs:A8 D} (h:Ed P f args [] (.aO 0) [.arr e s xs]):Ed P f args [] (.d (.sl xs)) []:=by
 intro ok X H w q hm hs ha;refine(h ok X H w q hm hs ha).mono ?_;rintro e' w' ⟨v,ok',H',rfl,j,L⟩;have M:H=[]:=Hg hm.hlen;have hl:H'.length=1:=j.hlen
 match H',hl with
 | [hd],_=>
   obtain rfl:=QU L (h:=hd) rfl;have I:=j.ent 0 _ hd rfl rfl;have z:=fun b z=>j.blk 0 _ hd b rfl rfl rfl z
   let J:Nat->Prop:=fun b=>ok' b\/EK hd.v=some b
   refine⟨hd.v,J,[],rfl,⟨j.fr,fun b h=>.inl (j.yY b h),?_,?_,by intro k v O;subst M;simp at O,rfl,fun k e h u=>by simp at u,fun k e h b u=>by simp at u,fun k k' e e' h h' b u=>by simp at u⟩,.d _ _ (dN I (fun b h=>.inl h) (fun b h=>.inr h))⟩
   ·rintro b (h|h)
    ·exact j.yZ b h
    exact .inr (z b h).2.2
   rintro b (h|h)
   ·exact j.kS b h
   exact(z b h).2.1
def akR (es E':A8 Bd) (j:E'.all Bd.closed=true):MW [] es E'=es++E':=by
 unfold MW;simp only[List.findIdx?_nil,NM,lg];rw[aYQ j];congr 1;apply kN;intro i;simp only[Jg,List.getElem?_zipIdx];cases es[i]? <;>rfl
def aX1 {P:Ce} {o:Oper} {es:A8 Bd} {f:FuncId} {ops:C9 CM} {ats:C9 CG} {eH fH:A8 Af} {j res':Af} {E':A8 Bd} (z:Ed P f fH [] j E') (I:Hd P f=true) (q:E'.all Bd.closed=true)
 (ha:Nb [] eH fH) (hl:ops.toList.length=eH.length) (J:j.up [] es.length=res') (L:o.op=.call { callee:=.value (.func f),args:=ops,argTypes:=ats }):CQ P o (G7 ops.toList eH) es res' (es++E'):=by
 have :=aP3 (es:=es) [] z I (by
  have u:E'.all (Bd.apb [] es.length)=true:=by
   rw[El]at q ⊢;exact fun e M=>an7 (q e M)
  simp[TN,u]) (fun i s h=>Ip) ha hl L
 rw[akR _ _ q,J]at this;exact this
def aWg {P:Ce} {o:Oper} {es:A8 Bd} {f:FuncId} {ops:C9 CM} {ats:C9 CG} {eH fH:A8 Af} {j res':Af} (q:Ed P f fH [] j []) (u:Hd P f=true)
 (ha:Nb [] eH fH) (hl:ops.toList.length=eH.length) (z:j.up [] es.length=res') (I:o.op=.call { callee:=.value (.func f),args:=ops,argTypes:=ats }):CQ P o (G7 ops.toList eH) es res' es:=by
 have :=aX1 (es:=es) q u rfl ha hl z I;rw[PK]at this;exact this
section
variable {P:Ce} {σ:BO} {Q:Exit->BO->Prop}
def aJ4 (P:Ce) (σ:BO):ResultVar->Af->Prop
 | .tmp t,x=>x=σ.slots.getD t .junk
 | .cell t T,x=>∃k cs agg n,σ.slots.getD t .junk=.ptr k 0/\σ.ents[k]? =some (.box cs)/\cs.all Af.Bf=true/\Em P T agg n/\n<=cs.length/\(agg=false->n=1)/\x=.d (QI agg (JI cs) 0 n)
def Gh {P:Ce} {σ:BO} {t:Tmp} {x:Af} (h:x=σ.slots.getD t .junk):aJ4 P σ (.tmp t) x:=h
def ZE (P:Ce) (σ:BO):A8 ResultVar->A8 Af->Prop
 |r::rs,x::xs=>aJ4 P σ r x/\ZE P σ rs xs
 | [],[]=>True
 |_,_=>False
def l9 :A8 Af->Af
 | [x]=>x
 |xs=>.fC xs
def aVL (P:Ce) (fn:Func) (j:Af) (E':A8 Bd):Exit->BO->Prop
 | .ret,σ=>∃xs π,ZE P σ fn.results.toList xs/\Ut σ.base σ.ents π=true/\j=(l9 xs).back π/\E'=Sl σ.ents π
 | .normal,σ=>∃xs π,ZE P σ fn.results.toList xs/\Ut σ.base σ.ents π=true/\j=(l9 xs).back π/\E'=Sl σ.ents π
 |_,_=>False
def aKQ (tmps:C9 Au):ResultVar->Sem Au
 | .tmp t=>pure (tmps.getD t undef)
 | .cell t T=>do loadVar T (←asAddr (tmps.getD t undef))
def adA {C:Ey} {ok:Nat->Prop} {H:A8 CP} {a:Act} {w:BU} (h:Holds C ok H σ a w) {r:ResultVar} {x:Af} (j:aJ4 P σ r x):
 ∃v,(aKQ a.tmps r).run P w=.ok v w/\R ok w H x v:=by
 cases r with
 |tmp t=>
  obtain rfl:=j;exact⟨_,rfl,h.aw7 t⟩
 |cell t T=>
  obtain⟨k,cs,agg,n,hs,J,hd,L,hn,M,rfl⟩:=j;have hp:=hs▸h.aw7 t;obtain⟨O,U,q⟩:=Hl h.mem.ent h.mem.hlen J;obtain⟨b,z,Y,Z,hc⟩:=aMq q hd;generalize hu:a.tmps.getD t undef=u at hp;cases hp with
  |ptr _ _ b' s I=>
   rw[U]at I;obtain rfl:=Dq I;simp at z;subst z;show ∃v,((do loadVar T (←asAddr (a.tmps.getD t undef)):Sem Au)).run P w=.ok v w/\_;rw[hu];obtain⟨v,j,hD⟩:=aAP L (off:=0) (by rw[oJ];omega) M Y Z hc;refine⟨v,?_,.d _ _ hD⟩;simp only[Instr.loadAt,Instr.sureAddr,G6,Gy,GY,Kz]at j;simp only[asAddr,G6,Gy,GY];exact j
def aPo {C:Ey} {ok:Nat->Prop} {H:A8 CP} {a:Act} {w:BU} (h:Holds C ok H σ a w):∀(rs:A8 ResultVar) (xs:A8 Af),ZE P σ rs xs->
 ∃vs:A8 Au,(rs.mapM (aKQ a.tmps)).run P w=.ok vs w/\vs.length=xs.length/\∀i,i<xs.length->R ok w H (xs.getD i .junk) (vs.getD i undef)
 | [],[],_=>⟨[],rfl,rfl,fun i hi=>PV⟩
 | [],_::_,h'=>h'.elim
 |_::_,[],h'=>h'.elim
 |r::rs,x::xs,h'=>by
  obtain⟨v,u,z⟩:=adA (P:=P) h h'.1;obtain⟨vs,j,hl,q⟩:=aPo h rs xs h'.2;refine⟨v::vs,?_,fP,fun i hi=>?_⟩
  ·simp only[List.mapM_cons,G6,u,j,GY,Gy]
  cases i with
  |zero=>exact z
  |succ i=>simpa using q i Gs
def alL {C:Ey} {ok:Nat->Prop} {H:A8 CP} {a:Act} {w:BU} (h:Holds C ok H σ a w) {fn:Func} {xs:A8 Af} (I:ZE P σ fn.results.toList xs):
 ∃v,(results fn a.tmps).run P w=.ok v w/\R ok w H (l9 xs) v:=by
 obtain⟨vs,u,hl,j⟩:=aPo (P:=P) h _ _ I
 have hm:(results fn a.tmps).run P w=.ok (if h:vs.toArray.size=1 then vs.toArray[0]else .tuple vs.toArray) w:=by
  have e:results fn a.tmps=(do let vs ←fn.results.mapM (aKQ a.tmps);pure (if h:vs.size=1 then vs[0]else .tuple vs)):=rfl;rw[e,aJ7];simp only[G6,yx,u,GY,Gy]
 refine⟨_,hm,?_⟩
 match xs,hl,j with
 | [x],hl,j=>
   have q:vs.toArray.size=1:=NG
   rw[dif_pos q];have :=j 0 Bh
   have e:vs.getD 0 undef=vs.toArray[0]:=by
    have :0<vs.length:=fP
    simp[List.getD,this]
   rw[e]at this;exact this
 | [],hl,j=>
   have q:¬vs.toArray.size=1:=by simp at hl;simp[hl]
   rw[dif_neg q];exact .fC [] _ NG (fun i hi=>PV)
 |x::y::xs,hl,j=>
  have q:¬vs.toArray.size=1:=by simp at hl;simp[hl]
  rw[dif_neg q];refine .fC _ _ NG (fun i hi=>?_);have :=j i hi;have z:i<vs.length:=AB
  have e:vs.toArray.getD i undef=vs.getD i undef:=by simp[Array.getD,List.getD,z]
  rw[e];exact this
def alr {w:BU} {D:Nat} {x:AL (A8 Deferred)} (h:w.heap[D]? =some (.deferred x)) (o:Nat):w.cell? ⟨D,o,none⟩=none:=by
 unfold World.cell?;rw[h]
def Holds.take {C:Ey} {ok:Nat->Prop} {H:A8 CP} {σ:BO} {a:Act} {w:BU} (hC:∀b,C.ok0 b->b<C.w0.heap.size) (h:Holds C ok H σ a w) {D:Nat} {Ds:A8 Nat} (hd:∀d∈Ds,ok d/\C.w0.heap.size<=d/\w.heap[d]? =some (.deferred (some [])))
 (hD:ok D/\C.w0.heap.size<=D/\w.heap[D]? =some (.deferred (some []))) (J:(D::Ds).Nodup):
 ∃ok',Holds C ok' H σ { a with defers:=Ds.map fun D=>{ target:=.collected D,args:= #[] } } (w.putObj D (.deferred none))/\∀d∈Ds,ok' d/\C.w0.heap.size<=d/\(w.putObj D (.deferred none)).heap[d]? =some (.deferred (some [])):=by
 obtain⟨h1,h2,h3⟩:=hD;have q:∀b,b≠D->(w.putObj D (.deferred none)).heap[b]? =w.heap[b]? :=fun b j=>Z4 j;have L:∀b o,ok b->(w.cell? ⟨b,o,none⟩).isSome=true->ok b/\b≠D:=fun b o j M=>⟨j,fun e=>by subst e;rw[alr h3]at M;cases M⟩
 have hg:Et (fun b=>ok b/\b≠D) w (fun b=>ok b/\b≠D) (w.putObj D (.deferred none)):=fun b j=>⟨j,q b j.2⟩
 have Y:∀(k:Nat) (e:Bd) (hd:CP) (b:Nat),σ.ents[k]? =some e->e.live=true->H[k]? =some hd->EK hd.v=some b->b≠D:=fun k e hd b z hl I j Z=>(h.mem.blk k e hd b z hl I j).1 (Z▸h1)
 have O:∀d∈Ds,(ok d/\d≠D)/\C.w0.heap.size<=d/\(w.putObj D (.deferred none)).heap[d]? =some (.deferred (some [])):=fun d u=>by
  have U:d≠D:=fun e=>(NY.1 J).1 (e▸u);exact⟨⟨(hd d u).1,U⟩,(hd d u).2.1,by rw[q d U];exact(hd d u).2.2⟩
 refine⟨fun b=>ok b/\b≠D,⟨⟨⟨h.mem.fr.os,h.mem.fr.tape,h.mem.fr.output,by simpa[World.putObj]using h.mem.fr.size,fun k hk hX=>by rw[q k AB];exact h.mem.fr.block k hk hX⟩,fun b j=>⟨h.mem.yY b j,fun e=>by have :=hC b j;omega⟩,fun b j=>h.mem.yZ b j.1,fun b j=>by simpa[World.putObj]using h.mem.kS b j.1,h.mem.names,h.mem.hlen,?_,?_,?_⟩,h.size,⟨Ds,rfl,(NY.1 J).2,O⟩,h.base,fun t ht=>((h.slot t ht).shrink L).mono hg (.refl _)⟩,O⟩
 ·intro k e hd z I;exact((h.mem.ent k e hd z I).shrink L (fun b ms c j M=>⟨j,fun e=>by subst e;rw[h3]at M;cases M⟩)).mono hg (.refl _) fun hl b j=>q b (Y k e hd b z hl I j)
 ·intro k e hd b z hl I j;obtain⟨h4,h5,h6⟩:=h.mem.blk k e hd b z hl I j;exact⟨fun hx=>h4 hx.1,by simpa[World.putObj]using h5,h6⟩
 exact h.mem.Fe
def aIp {fn:Func} {Rr:Ending->BU->Prop} {C:Ey} (u:∀b,C.ok0 b->b<C.w0.heap.size) {H:A8 CP} {σ:BO}
 (z:∀ok a w,Holds C ok H σ a w->∃v,(results fn a.tmps).run P w=.ok v w/\Rr (.returned v) w):∀(Ds:A8 Nat) {ok:Nat->Prop} {a:Act} {w:BU},Holds C ok H σ a w->(∀d∈Ds,ok d/\C.w0.heap.size<=d/\w.heap[d]? =some (.deferred (some [])))->Ds.Nodup->
  LeavesInM (JO none) 0 P fn a.tmps Rr (Ds.map fun D=>{ target:=.collected D,args:= #[] }) .returning w
 | [],ok,a,w,h,_,_=>z ok a w h
 |D::Ds,ok,a,w,h,hd,I=>by
  obtain⟨ok',h',j⟩:=h.take u (fun d q=>hd d (IG _ q)) (hd D (H8 ..)) I;have J:=aIp u z Ds h' j (NY.1 I).2;exact⟨Bh,.inl ⟨D,_,rfl,run_takeDeferred (hd D (H8 ..)).2.2,J⟩⟩
def Ed.aI {f:FuncId} {fn:Func} {c:Code} {args:A8 Af} {E E':A8 Bd} {u:Af} (hf:P.funcs[f]? =some fn) (hb:fn.body=some c)
 (h:Bv P c (.enter args fn.ntmps E) (aVL P fn u E')):Ed P f args E u E':=by
 intro ok X H w j hm hs ha;refine(aEI (ro:=none) (n:=0)).1 (aLx hf hb trivial (Ua (h.run none (.inl rfl) ⟨w,ok,X,H⟩ ok H _ w ?_) ?_) rfl)
 ·refine⟨hm,?_,.nil _ _ _,hm.hlen,fun t ht=>?_⟩
  ·simp[BO.enter,hs]
  simp only[BO.enter];by_cases e:t<args.length
  ·have J:(args++List.replicate (fn.ntmps-args.length) Af.junk).getD t .junk=args.getD t .junk:=aMG
   have e2:(j++Array.replicate (fn.ntmps-j.size) undef).getD t undef=j.getD t undef:=by
    simp[J8,YU (show t<j.size by omega)]
   rw[J,e2];exact ha t e
  have J:(args++List.replicate (fn.ntmps-args.length) Af.junk).getD t .junk=.junk:=by
   simp only[List.getD,Kt (VU e),aI0];split<;>rfl
  rw[J];exact .junk _
 rintro e a' w' ⟨ok',H',σ',h1,L⟩;obtain⟨Ds,M,O,U⟩:=h1.defers
 have key:∀(x:A8 Af) (π:A8 (Nat×AZ)),ZE P σ' fn.results.toList x->Ut σ'.base σ'.ents π=true->u=(l9 x).back π->E'=Sl σ'.ents π->
  LeavesInM (JO none) 0 P fn a'.tmps (fun e w'=>∃v ok' H',e=.returned v/\E5 ⟨w,ok,X,H⟩ ok' H' E' w'/\R ok' w' H' u v) a'.defers .returning w':=by
  rintro x π I q rfl rfl;rw[M];refine aIp (P:=P) (C:=⟨w,ok,X,H⟩) hm.kS (fun Y a2 w2 z=>?_) Ds h1 U O;obtain⟨v,hv,hR⟩:=alL (P:=P) z I;exact⟨v,hv,v,Y,_,rfl,z.mem.norm π (z.base▸q),hR.back π⟩
 cases e with
 |ret=>obtain⟨x,π,I,q,z,Z⟩:=L;exact key x π I q z Z
 |normal=>obtain⟨x,π,I,q,z,Z⟩:=L;exact key x π I q z Z
 |_=>exact L.elim
def BG:=@Ed.aI
def Aa {x y:Code} (j:Bv P x σ (Jp (fun s=>Bv P y s Q) Q)):Bv P (.seq x y) σ Q:=Bv.seq _ j (fun _ h=>h)
def Bv.join {x y:Code} (K:BO->Prop) (j:∀s,K s->Bv P y s Q) (q:(∀s,K s->Bv P y s Q)->Bv P x σ (Jp (fun s=>Bv P y s Q) Q)):Bv P (.seq x y) σ Q:=Bv.seq _ (q j) (fun _ h=>h)
def DT:=@Bv.join
def Xf {c:CM} {x y:Code} (j:σ.get c=.d (.lit (.bool true))) (h:Bv P x σ Q):Bv P (.cond c x y) σ Q:=Bv.cond true j (fun _=>h) (fun h=>Ib)
def Qp {c:CM} {x y:Code} (j:σ.get c=.d (.lit (.bool false))) (h:Bv P y σ Q):Bv P (.cond c x y) σ Q:=Bv.cond false j (fun h=>Ib) (fun _=>h)
def FU {id:Nat} {ops:C9 Oper} {y:Code} {σ':BO} {rs:A8 Af} {ess:A8 (A8 Bd)} {bs:A8 AZ} (hm:P.follows .mixedOrders=true) (j:(Xa ops&&XR ops&&Vq ops σ.slots.length&&Xe ops)=true) (q:Vf ops bs=true)
 (h:FZ P ops ops.toList σ rs ess bs σ') (u:Bv P y σ' Q):Bv P (.seq (.region id ops true) y) σ Q:=
 Bv.seq (fun s=>s=σ') (.draw hm j q h rfl) (fun _ e=>e▸u)
end
section
variable {P:Ce} {o:Oper} {es:A8 Bd}
def acG {x:CM} {t:CG} {agg:AZ} {n off:Nat} {cs:A8 D} {y:D} (j:y=QI agg cs off n) (q:Em P t agg n) (u:off+n<=cs.length) (z:agg=false->n=1) (I:o.op=.load t x):CQ P o [(x,.d (.ref cs off))] es (.d y) es:=j▸aaJ q u z I
def adL {x:CM} {t:CG} {agg:AZ} {k n off:Nat} {cs:A8 Af} {y:D} (j:y=QI agg (JI cs) off n) (q:es[k]? =some (.box cs)) (hd:cs.all Af.Bf=true) (u:Em P t agg n) (z:off+n<=cs.length) (I:agg=false->n=1) (J:o.op=.load t x):
 CQ P o [(x,.ptr k off)] es (.d y) es:=j▸aZ4 q hd u z I J
def aek {x:CM} {t:CG} {f off n:Nat} {agg:AZ} {cs:A8 D} {y:D} (j:y=QI agg cs off n) (hp:jk P t f off agg n=true) (q:off+n<=cs.length) (u:agg=false->n=1) (z:o.op=.field t x f):CQ P o [(x,.d (.agg cs))] es (.d y) es:=j▸agr hp q u z
def aZ0 {t:CG} {q:C9 (Nat×CM)} {j:A8 (Nat×Nat)} {z:Au} {y:D} (u:Ji P t j z) (vs:A8 Af) (I:o.op=.build t q) (J:y=.agg (JI (Kr (fun(i:Nat)=>j[i]?) (GI z) q.toList vs))) (hp:OI (fun(i:Nat)=>j[i]?) (GI z).length q.toList vs=true)
 (hd:(Kr (fun(i:Nat)=>j[i]?) (GI z) q.toList vs).all Af.Bf=true):CQ P o (Np q.toList vs) es (.d y) es:=J▸al9 u vs hp hd I
def acC {s t:CG} {x:CM} {j k:IntKind} {n:Int} (hs:P.underlying s=some (.int j)) (ht:P.underlying t=some (.int k)) (q:o.op=.convert s t x):CQ P o [(x,.d (.lit (.int j n)))] es (.d (.lit (.int k (k.wrap n)))) es:=
 aVQ q fun w=>by simp[convert,underlying,hs,ht,Conv.intToInt]
def afy {s t:CG} {x:CM} {u:BD} (hs:P.underlying s=some .string) (ht:P.underlying t=some .string) (j:o.op=.convert s t x):CQ P o [(x,.d (DV u))] es (.d (DV u)) es:=
 aVQ j fun w=>by simp[convert,underlying,hs,ht]
def aZh {t t':CG} {x y:CM} {a b:AZ} (ht:P.underlying t=some .bool) (j:o.op=.binOp .eql t x y t'):CQ P o [(x,.d (EY a)),(y,.d (EY b))] es (.d (EY (a==b))) es:=
 GV (u:=.bool a) (v:=.bool b) (r:=.bool (a==b)) j (fun w=>by
  show((do pure (.bool (←Op.equal t (.bool a) (.bool b))):Sem Au)).run P w=_
  simp only[G6,run_equal_bool w t a b ht,GY,Gy]) ⟨rfl,rfl⟩
def aml {t t':CG} {x y:CM} {a b:AZ} (ht:P.underlying t=some .bool) (j:o.op=.binOp .neq t x y t'):CQ P o [(x,.d (EY a)),(y,.d (EY b))] es (.d (EY (!(a==b)))) es:=
 GV (u:=.bool a) (v:=.bool b) (r:=.bool (!(a==b))) j (fun w=>by
  show((do pure (.bool (!(←Op.equal t (.bool a) (.bool b)))):Sem Au)).run P w=_
  simp only[G6,run_equal_bool w t a b ht,GY,Gy]) ⟨rfl,rfl⟩
end
def bJ {A Rr:Type} (body:(A->AL Rr)->A->AL Rr):Nat->A->AL Rr
 |0,_=>none
 |n+1,a=>body (bJ body n) a
def EH {P:Ce} {σ:BO} {Q:Exit->BO->Prop} {q:Code} {A Rr:Type} (S:A->BO) (body:(A->AL Rr)->A->AL Rr) (r:Rr) (a0:A) (hs:CX σ (S a0)) (h:Go.Proofs.YtkkdimcnpacjhaaGreat.bJ body Ap a0=some r)
 (round:∀(J:BO->Prop) (k:A->AL Rr),(∀σ' a,CX σ' (S a)->k a=some r->J σ')->∀a,body k a=some r->Bv P q (S a) (Jp J Q)):Bv P (.loop q) σ Q:=by
 refine Bv.loop (fun n s=>∃a,CX s (S a)/\Go.Proofs.YtkkdimcnpacjhaaGreat.bJ body n a=some r) Ap ⟨a0,hs,h⟩ ?_;rintro n s ⟨a,j,u⟩;refine DF j ?_;cases n with
 |zero=>cases u
 |succ n=>exact round _ (Go.Proofs.YtkkdimcnpacjhaaGreat.bJ body n) (fun σ' a z I=>⟨n,WO n,a,z,I⟩) a u
def aU {A B Rr:Type} (body:(A->B->AL Rr)->A->B->AL Rr):Nat->A->B->AL Rr
 |0,_,_=>none
 |n+1,a,b=>body (aU body n) a b
def Dk {P:Ce} {σ:BO} {Q:Exit->BO->Prop} {u:Code} {A B Rr:Type} (S:A->B->BO) (body:(A->B->AL Rr)->A->B->AL Rr) (r:Rr) (a0:A) (q:B) (hs:CX σ (S a0 q)) (h:Go.Proofs.YtkkdimcnpacjhaaGreat.aU body Ap a0 q=some r)
 (round:∀(J:BO->Prop) (k:A->B->AL Rr),(∀σ' a b,CX σ' (S a b)->k a b=some r->J σ')->∀a b,body k a b=some r->Bv P u (S a b) (Jp J Q)):Bv P (.loop u) σ Q:=by
 refine Bv.loop (fun n s=>∃a b,CX s (S a b)/\Go.Proofs.YtkkdimcnpacjhaaGreat.aU body n a b=some r) Ap ⟨a0,q,hs,h⟩ ?_;rintro n s ⟨a,b,j,z⟩;refine DF j ?_;cases n with
 |zero=>cases z
 |succ n=>exact round _ (Go.Proofs.YtkkdimcnpacjhaaGreat.aU body n) (fun σ' a b I L=>⟨n,WO n,a,b,I,L⟩) a b z
def jf {A B C Rr:Type} (body:(A->B->C->AL Rr)->A->B->C->AL Rr):Nat->A->B->C->AL Rr
 |0,_,_,_=>none
 |n+1,a,b,c=>body (jf body n) a b c
def PX {P:Ce} {σ:BO} {Q:Exit->BO->Prop} {z:Code} {A B C Rr:Type} (S:A->B->C->BO) (body:(A->B->C->AL Rr)->A->B->C->AL Rr) (r:Rr) (a0:A) (q:B) (u:C) (hs:CX σ (S a0 q u)) (h:Go.Proofs.YtkkdimcnpacjhaaGreat.jf body Ap a0 q u=some r)
 (round:∀(J:BO->Prop) (k:A->B->C->AL Rr),(∀σ' a b c,CX σ' (S a b c)->k a b c=some r->J σ')->∀a b c,body k a b c=some r->Bv P z (S a b c) (Jp J Q)):Bv P (.loop z) σ Q:=by
 refine Bv.loop (fun n s=>∃a b c,CX s (S a b c)/\Go.Proofs.YtkkdimcnpacjhaaGreat.jf body n a b c=some r) Ap ⟨a0,q,u,hs,h⟩ ?_;rintro n s ⟨a,b,c,j,I⟩;refine DF j ?_;cases n with
 |zero=>cases I
 |succ n=>exact round _ (Go.Proofs.YtkkdimcnpacjhaaGreat.jf body n) (fun σ' a b c L M=>⟨n,WO n,a,b,c,L,M⟩) a b c I
def Ul {A B C D Rr:Type} (body:(A->B->C->D->AL Rr)->A->B->C->D->AL Rr):Nat->A->B->C->D->AL Rr
 |0,_,_,_,_=>none
 |n+1,a,b,c,d=>body (Ul body n) a b c d
def Bv.Ul {P:Ce} {σ:BO} {Q:Exit->BO->Prop} {I:Code} {A B C D Rr:Type} (S:A->B->C->D->BO) (body:(A->B->C->D->AL Rr)->A->B->C->D->AL Rr) (r:Rr) (a0:A) (q:B) (u:C) (z:D) (hs:CX σ (S a0 q u z)) (h:Go.Proofs.YtkkdimcnpacjhaaGreat.Ul body Ap a0 q u z=some r)
 (round:∀(J:BO->Prop) (k:A->B->C->D->AL Rr),(∀σ' a b c d,CX σ' (S a b c d)->k a b c d=some r->J σ')->∀a b c d,body k a b c d=some r->Bv P I (S a b c d) (Jp J Q)):Bv P (.loop I) σ Q:=by
 refine Bv.loop (fun n s=>∃a b c d,CX s (S a b c d)/\Go.Proofs.YtkkdimcnpacjhaaGreat.Ul body n a b c d=some r) Ap ⟨a0,q,u,z,hs,h⟩ ?_;rintro n s ⟨a,b,c,d,j,L⟩;refine DF j ?_;cases n with
 |zero=>cases L
 |succ n=>exact round _ (Go.Proofs.YtkkdimcnpacjhaaGreat.Ul body n) (fun σ' a b c d M O=>⟨n,WO n,a,b,c,d,M,O⟩) a b c d L
def FM {A B C D E Rr:Type} (body:(A->B->C->D->E->AL Rr)->A->B->C->D->E->AL Rr):Nat->A->B->C->D->E->AL Rr
 |0,_,_,_,_,_=>none
 |n+1,a,b,c,d,e=>body (FM body n) a b c d e
def Bv.FM {P:Ce} {σ:BO} {Q:Exit->BO->Prop} {L:Code} {A B C D E Rr:Type} (S:A->B->C->D->E->BO) (body:(A->B->C->D->E->AL Rr)->A->B->C->D->E->AL Rr) (r:Rr) (a0:A) (q:B) (u:C) (z:D) (I:E) (hs:CX σ (S a0 q u z I)) (h:Go.Proofs.YtkkdimcnpacjhaaGreat.FM body Ap a0 q u z I=some r)
 (round:∀(J:BO->Prop) (k:A->B->C->D->E->AL Rr),(∀σ' a b c d e,CX σ' (S a b c d e)->k a b c d e=some r->J σ')->∀a b c d e,body k a b c d e=some r->Bv P L (S a b c d e) (Jp J Q)):Bv P (.loop L) σ Q:=by
 refine Bv.loop (fun n s=>∃a b c d e,CX s (S a b c d e)/\Go.Proofs.YtkkdimcnpacjhaaGreat.FM body n a b c d e=some r) Ap ⟨a0,q,u,z,I,hs,h⟩ ?_;rintro n s ⟨a,b,c,d,e,j,M⟩;refine DF j ?_;cases n with
 |zero=>cases M
 |succ n=>exact round _ (Go.Proofs.YtkkdimcnpacjhaaGreat.FM body n) (fun σ' a b c d e O U=>⟨n,WO n,a,b,c,d,e,O,U⟩) a b c d e M
def FN {A B C D E F Rr:Type} (body:(A->B->C->D->E->F->AL Rr)->A->B->C->D->E->F->AL Rr):Nat->A->B->C->D->E->F->AL Rr
 |0,_,_,_,_,_,_=>none
 |n+1,a,b,c,d,e,f=>body (FN body n) a b c d e f
def Bv.FN {P:Ce} {σ:BO} {Q:Exit->BO->Prop} {M:Code} {A B C D E F Rr:Type} (S:A->B->C->D->E->F->BO) (body:(A->B->C->D->E->F->AL Rr)->A->B->C->D->E->F->AL Rr) (r:Rr) (a0:A) (q:B) (u:C) (z:D) (I:E) (L:F) (hs:CX σ (S a0 q u z I L)) (h:Go.Proofs.YtkkdimcnpacjhaaGreat.FN body Ap a0 q u z I L=some r)
 (round:∀(J:BO->Prop) (k:A->B->C->D->E->F->AL Rr),(∀σ' a b c d e f,CX σ' (S a b c d e f)->k a b c d e f=some r->J σ')->∀a b c d e f,body k a b c d e f=some r->Bv P M (S a b c d e f) (Jp J Q)):Bv P (.loop M) σ Q:=by
 refine Bv.loop (fun n s=>∃a b c d e f,CX s (S a b c d e f)/\Go.Proofs.YtkkdimcnpacjhaaGreat.FN body n a b c d e f=some r) Ap ⟨a0,q,u,z,I,L,hs,h⟩ ?_;rintro n s ⟨a,b,c,d,e,f,j,O⟩;refine DF j ?_;cases n with
 |zero=>cases O
 |succ n=>exact round _ (Go.Proofs.YtkkdimcnpacjhaaGreat.FN body n) (fun σ' a b c d e f U Y=>⟨n,WO n,a,b,c,d,e,f,U,Y⟩) a b c d e f O
def abb {A B C D E F G Rr:Type} (body:(A->B->C->D->E->F->G->AL Rr)->A->B->C->D->E->F->G->AL Rr):Nat->A->B->C->D->E->F->G->AL Rr
 |0,_,_,_,_,_,_,_=>none
 |n+1,a,b,c,d,e,f,g=>body (abb body n) a b c d e f g
def Bv.abb {P:Ce} {σ:BO} {Q:Exit->BO->Prop} {O:Code} {A B C D E F G Rr:Type} (S:A->B->C->D->E->F->G->BO) (body:(A->B->C->D->E->F->G->AL Rr)->A->B->C->D->E->F->G->AL Rr) (r:Rr) (a0:A) (q:B) (u:C) (z:D) (I:E) (L:F) (M:G) (hs:CX σ (S a0 q u z I L M)) (h:Go.Proofs.YtkkdimcnpacjhaaGreat.abb body Ap a0 q u z I L M=some r)
 (round:∀(J:BO->Prop) (k:A->B->C->D->E->F->G->AL Rr),(∀σ' a b c d e f g,CX σ' (S a b c d e f g)->k a b c d e f g=some r->J σ')->∀a b c d e f g,body k a b c d e f g=some r->Bv P O (S a b c d e f g) (Jp J Q)):Bv P (.loop O) σ Q:=by
 refine Bv.loop (fun n s=>∃a b c d e f g,CX s (S a b c d e f g)/\Go.Proofs.YtkkdimcnpacjhaaGreat.abb body n a b c d e f g=some r) Ap ⟨a0,q,u,z,I,L,M,hs,h⟩ ?_;rintro n s ⟨a,b,c,d,e,f,g,j,U⟩;refine DF j ?_;cases n with
 |zero=>cases U
 |succ n=>exact round _ (Go.Proofs.YtkkdimcnpacjhaaGreat.abb body n) (fun σ' a b c d e f g Y Z=>⟨n,WO n,a,b,c,d,e,f,g,Y,Z⟩) a b c d e f g U
section
variable {P:Ce} {o:Oper} {es:A8 Bd} {α:Type}
def ahg {b:Nat} {z:α} {n c:Int} {r:A8 α} (h:Iw b z n c=some r):(0<=n/\n<=c/\(b:Int)*c<=140737488355328)/\r=List.replicate n.toNat z:=by
 unfold Iw at h;split at h
 ·exact⟨‹_›,(Dq h).symm⟩
 cases h
def WE {x y:CM} {t e:CG} {size j:Nat} {q:Au} {n c:Int} {r:A8 α} (enc:α->D) (z:α) (h:Iw j z n c=some r) (hE:Hf P t e size j) (hz:(P.info? e).bind (·.zero)=some q) (h1:q.cells.all (·.oneCell')=true) (M:q.cells.size=size)
 (u:GI q=(enc z).cells.map .d) (hb:0<j) (ho:o.op=.makeSlice t x y):CQ P o [(x,.d (Ae n)),(y,.d (Ae c))] es (.aO es.length) (es++[.arr e size (List.map enc r)]):=
 .eff fun C ok H a w hm hn=>by
  obtain⟨⟨h0,hnc,hbc⟩,rfl⟩:=ahg h;have hx:=(FI hn).1.lit;have O:=(FI hn).2.lit;simp only at hx O;obtain⟨i,z',hi,hz',hs,hby,_⟩:=hE.info;have hzv:i.zero=some q:=by rw[hi]at hz;simpa using hz
  have U:c<=9223372036854775807:=by
   have h2:(1:Int)*c<=(j:Int)*c:=Int.mul_le_mul_of_nonneg_right AB AB;omega
  have hr:=run_make (P:=P) w t e i q hE.und hi hzv .i64 .i64 n c h0 hnc (by rw[hby];omega) U;rw[hs]at hr
  let cells:=madeCells q.cells (c.toNat*size)
  have Y:=hE.pos;have I:cells.size=c.toNat*size:=size_madeCells _ _;have Z:(GI q).length=size:=by simp[GI,M]
  have J:∀y∈List.map enc (List.replicate n.toNat z),y.cells.length=size:=by
   intro y O;simp only[List.map_replicate,List.mem_replicate]at O;rw[O.2,←Z,u];simp
  have L:=SY J;have hlen:(List.map enc (List.replicate n.toNat z)).length=n.toNat:=Bh
  rw[hlen]at L;have aMK:n.toNat*size<=c.toNat*size:=MB _ AB
  have hrs:∀{ok:Nat->Prop} {w:BU} {H:A8 CP},Fj ok w H (flat (List.map enc (List.replicate n.toNat z))) (cells.toList.take (n.toNat*size)):=by
   intro ok w H;refine⟨by rw[L,GK,Uo,I];omega,fun k hk=>?_⟩;rw[L]at hk;have hd:=aFX k size;have hq:k/size<n.toNat:=yg (by rwa [Uf]at hk);have hm':k % size<size:=lQ _ Y;have e0:k=k/size*size+k % size:=by rw[Uf];exact hd.symm
   have e1:(flat (List.map enc (List.replicate n.toNat z))).getD k .junk=.d ((enc z).cells.getD (k % size) EO):=by
    have hg:=flat_get J (k/size) (k % size) (by rw[hlen];exact hq) hm';rw[←e0]at hg;rw[hg];congr 3;simp[List.getD,hq]
   have hcl:(enc z).cells.length=size:=by rw[←Z,u];simp
   have e2:(Af.d ((enc z).cells.getD (k % size) EO))=(GI q).getD (k % size) .junk:=by
    rw[u];have :k % size<(enc z).cells.length:=AB
    simp[List.getD,this]
   have hmz:k % size<q.cells.size:=AB
   have e3:(cells.toList.take (n.toNat*size)).getD k undef=q.cells[k % size]:=by
    have hk2:k<c.toNat*size:=AB
    have e:cells.toList=(List.range (c.toNat*size)).map fun i=>q.cells[i % q.cells.size]! :=by
     show(madeCells q.cells (c.toNat*size)).toList=_;simp[madeCells]
    rw[e];simp only[List.getD,NC hk];simp[hk2,M];rw[Y1 q.cells (k % size) hmz]
   rw[e1,e2,e3];have e4:(GI q).getD (k % size) .junk=.d (P7 q.cells[k % size]):=by simp[GI,List.getD,hmz]
   rw[e4];exact⟨sU ((UW.1 h1) _ Bh),.d _ _ (fU _)⟩
  obtain⟨h2,h3⟩:=hm.push (.cells cells e) ⟨.slice (some ⟨w.heap.size,0,none⟩) n.toNat c.toNat,size⟩ (.arr e size (List.map enc (List.replicate n.toNat z))) (fun b hb=>by simpa[EK]using hb.symm) (by
   refine⟨rfl,J,cells.toList.take (n.toNat*size),⟨?_,.inr ⟨w.heap.size,c.toNat,cells,by rw[hlen],Ea _,XD w _,by rw[hlen];omega,by unfold maxLen;omega,aV I.symm,by rw[hlen]⟩⟩,hrs⟩
   rw[hlen,GK,Uo,I];omega)
  refine⟨.slice (some ⟨w.heap.size,0,none⟩) n.toNat c.toNat,_,ok,_,.inl ?_,h3,Ho _ _,h2,.aO _ _ _ _ size PD⟩;simp only[execOp,ho,hx,O,G6,hr,GY,Gy];rfl
def gCopy (l m:A8 α):A8 α:=m.take l.length++l.drop m.length
def aT7 {x y:CM} {t e:CG} {size bytes k:Nat} (enc:α->D) (l m:A8 α) (hE:Hf P t e size bytes) (hk:es[k]? =some (.arr e size (List.map enc l))) (hc:∀a,(enc a).cells.length=size) (ho:o.op=.call { callee:=.builtin .copy,args:= #[x,y],argTypes:= #[t,t] }):
 CQ P o [(x,.aO k),(y,.d (Bo enc m))] es .junk (es.set k (.arr e size (List.map enc (gCopy l m)))):=
 .eff fun C ok H a w hm hn=>by
  have hx:=(FI hn).1;have hy:=(FI hn).2;simp only at hx hy;obtain⟨h,hh,hok⟩:=Hl hm.ent hm.hlen hk;have hxv:=QU hx hh;obtain⟨i,z',hi,hz',hs,hby,_⟩:=hE.info;have hu:(underlying t).run P w=.ok (.slice e) w:=aIK
  have hsz:(sizeOf e).run P w=.ok size w:=aGV
  have U:∀(q:A8 α),∀y∈q.map enc,y.cells.length=size:=fun q y hy=>aFy
  have hyR:ES ok w (.sl (m.map enc)) (a.eval y):=by cases hy with |d _ _ h=>exact h
  obtain⟨z,O,aG5⟩:=bn H hyR (U m);obtain⟨h1,h2,ys,Y,hrs⟩:=hok;have Z:(m.map enc).length=m.length:=Bh
  have hll:(l.map enc).length=l.length:=Bh
  have hnl:z.length=m.length*size:=by rw[O.len,Z]
  let n:=Nat.min m.length l.length
  have hlenx:(Builtin.lenOf (a.eval y)).run P w=.ok m.length w:=by
   rcases O.at_ with⟨ad,c,e1,_⟩|⟨c,e1,e2⟩
   ·rw[e1];simp[Builtin.lenOf]
   rw[e1];rw[Z]at e2;simp[Builtin.lenOf,e2]
  have J:(Builtin.firstCells size n (a.eval y)).run P w=.ok (z.take (n*size)).toArray w:=by
   rcases O.at_ with⟨ad,c,e1,hcells⟩|⟨c,e1,e2⟩
   ·rw[e1];refine run_firstCells_some (P:=P) w size n ad _ c (z.take (n*size)) ?_ ?_
    ·rw[GK,hnl];have :n*size<=m.length*size:=MB _ (aMf _ _);omega
    intro j v hj;rw[List.getElem?_take]at hj;split at hj
    ·exact hcells j v hj
    cases hj
   rw[e1];rw[Z]at e2;have :z=[]:=Hg (by rw[hnl,e2];simp);simp[Builtin.firstCells,this]
  have hone:∀u∈z.take (n*size),u.oneCell'=true:=fun u hu=>O.one u (lN hu);have hn1:n<=m.length:=aMf _ _;have hn2:n<=l.length:=Nat.min_le_right _ _
  have I:(z.take (n*size)).length=n*size:=by
   rw[GK,hnl];have :n*size<=m.length*size:=MB _ hn1;omega
  have hgc:gCopy l m=m.take n++l.drop n:=by
   unfold gCopy;by_cases hle:m.length<=l.length
   ·have e1:n=m.length:=aJn hle;rw[e1,Qj hle,Gg]
   have e1:n=l.length:=Nat.min_eq_right AB;rw[e1,aDF AB,PZ]
  have L:(gCopy l m).length=l.length:=by rw[hgc];simp;omega
  rcases Y.2 with⟨hv,hl0⟩|⟨g,cap,cur,hv,_,hg,hncap,hcm,hcs,htake⟩
  ·
   rw[hll]at hl0;have hn0:n=0:=AB
   have hl:l=[]:=Hg hl0;have hge:gCopy l m=l:=by rw[hgc,hn0];simp
   rw[hge]
   have hset:es.set k (.arr e size (List.map enc l))=es:=by
    apply kN;intro j;by_cases hj:k=j
    ·subst hj;have hkl:=(GH.1 hk).1;rw[List.getElem?_set_self hkl,hk]
    rw[dZ hj]
   rw[hset];refine⟨goInt n,w,ok,H,.inl ?_,.refl _ _,.refl _,hm,.junk _⟩;have e0:Nat.min m.length 0=n:=by rw[hn0];simp
   have hf0:(Builtin.firstCells size 0 (a.eval y)).run P w=.ok #[] w:=by rw[hn0]at J;simpa using J
   simp[execOp,ho,resolve,invoke,builtin,Builtin.copy_,hxv,hv,hu,hlenx,hsz,hf0,hn0]
  ·rw[hll]at hv hncap htake;have hlt:g<w.heap.size:=(H6.1 hg).1
   have hfit:n*size<=cur.size:=by
    exact FC (MB _ AB) hcs
   have hst:=aOE (P:=P) g 0 e (z.take (n*size)) 0 cur w hg (by rw[I];omega) hone;have aBt:∀y∈(gCopy l m).map enc,y.cells.length=size:=U _
   obtain⟨h3,h4⟩:=hm.upd (e:=.arr e size (List.map enc (gCopy l m))) (w':=w.setRow g (cur.toList.take (0+0)++z.take (n*size)++cur.toList.drop (0+0+(z.take (n*size)).length)).toArray) hk rfl hh (by rw[hv];rfl) rfl rfl rfl aJf (fun c hc=>aIP _ _ _ _ hc) (fun hg'=>by
    refine⟨h1,aBt,z.take (n*size)++ys.drop (n*size),?_,?_⟩
    ·refine⟨?_,.inr ⟨g,cap,_,by rw[Dc,L];exact hv,Ea _,yt w g cur _ e (0,0) hg,by rw[Dc,L];exact hncap,hcm,?_,?_⟩⟩
     ·simp only[En,I,L6,Y.1,Dc,L];have :n*size<=l.length*size:=MB _ hn2;omega
     ·simp only[PE,qV,Iq,Kz,I];simp only[kX,En,I,L6,Uo];rw[show n*size+(cur.size-n*size)=cur.size by omega];exact hcs
     simp only[PE,qV,Iq,Kz,I,a0W];rw[Dc,L,←htake];rw[aIz,I,Qj (by rw[I];exact MB _ hn2)];congr 1;rw[List.drop_take]
    have ha:=aG5.mono hg' (aT H);have hb:=hrs.mono hg' (aT H);have aG6:=SY (U l);have aG7:=SY (U m);have aEY:=SY aBt;have aML:n*size<=l.length*size:=MB _ hn2;have aMM:n*size<=m.length*size:=MB _ hn1;refine⟨by simp only[aEY,En,I,L6,Y.1,Dc,L];omega,fun j hj=>?_⟩;rw[aEY,Dc,L]at hj;have hpos:=hE.pos;have e0:j=j/size*size+j % size:=by rw[Uf];exact(aFX j size).symm
    have hq:j/size<l.length:=yg (by rwa [Uf]at hj);have hr:j % size<size:=lQ _ hpos;have hg3:=flat_get aBt (j/size) (j % size) (by rw[Dc,L];exact hq) hr;rw[←e0]at hg3;by_cases hjn:j<n*size
    ·have hqn:j/size<n:=yg (by rwa [Uf]at hjn);have hg2:=flat_get (U m) (j/size) (j % size) (by rw[Z];omega) hr;rw[←e0]at hg2
     have M:((gCopy l m).map enc).getD (j/size) EO=(m.map enc).getD (j/size) EO:=by
      rw[hgc];simp only[List.getD,LP];rw[Hu EW,aK,NC hqn]
     rw[hg3,M,←hg2]
     have e5:(z.take (n*size)++ys.drop (n*size)).getD j undef=z.getD j undef:=by
      simp only[List.getD];rw[Hu (by rw[I];exact hjn),NC hjn]
     rw[e5];exact ha.2 j (by rw[aG7,Z];omega)
    have hqn:n<=j/size:=(Nat.le_div_iff_mul_le hpos).2 AB;have hg1:=flat_get (U l) (j/size) (j % size) (by rw[hll];exact hq) hr;rw[←e0]at hg1
    have M:((gCopy l m).map enc).getD (j/size) EO=(l.map enc).getD (j/size) EO:=by
     rw[hgc];have hlt':(m.take n).length=n:=EW
     simp only[List.getD,LP];rw[Kt (by rw[Dc,hlt'];exact hqn),Dc,hlt',iC,UQ];congr 2;omega
    rw[hg3,M,←hg1]
    have e5:(z.take (n*size)++ys.drop (n*size)).getD j undef=ys.getD j undef:=by
     simp only[List.getD];rw[Kt (by rw[I];omega),I,UQ];congr 2;omega
    rw[e5]
    exact hb.2 j (by rw[aG6,hll];omega))
   refine⟨goInt n,_,ok,H,.inl ?_,h4,.refl _,h3,.junk _⟩;have e0:Nat.min m.length l.length=n:=rfl;simp[execOp,ho,resolve,invoke,builtin,Builtin.copy_,hxv,hv,hu,hlenx,hsz,e0,J];rw[hst];simp
end
def CU (s:BD):A8 Int:=s.data.toList.map fun c=>(c.toNat:Int)
def Ij (s:BD):(CU s).length=s.size:=by unfold CU;rw[Dc,Uo];rfl
section
variable {P:Ce} {o:Oper} {es:A8 Bd} {α:Type}
def a1q :∀(l:A8 Int),flat (l.map Dn)=l.map fun n=>.d (Dn n)
 | []=>rfl
 |n::l=>by rw[JR,Y0,a1q l];rfl
def aZP {w:BU} {t u ty e:CG} {i:TypeInfo} (ht:P.underlying t=some (.slice e)) (hu:P.underlying u=some .string) (hi:P.info? e=some i) (hz:i.zero=some (.int .u8 0)) (j:i.size=1) (Z:i.bytes=1)
 {v:Au} {n:Nat} {xs:A8 Au} (z:oq w e 1 v n xs) (s:BD) (O:n+s.size<=maxLen) (L:n+s.size<=140737488355328):
 ∃v' w',(Builtin.append_ #[t,u] ty #[v,.string s]).run P w=.ok v' w'/\oq w' e 1 v' (n+s.size) (xs++Lib.strCells s)/\w.grownBy w' v.ownBlock/\(∀Y,EK v'=some Y->EK v=some Y\/w.heap.size<=Y):=by
 have M:xs.length=n:=by simpa using z.1
 have hlen:(xs++Lib.strCells s).length=(n+s.size)*1:=by rw[En,M,aIB,aH]
 rcases z.2 with⟨rfl,rfl⟩|⟨g,cap,cur,rfl,_,hg,hnc,U,hcs,I⟩
 ·have hx:xs=[]:=Hg M;subst hx;obtain⟨v',w',q1,q2,q3,q4⟩:=Lib.run_append_own_string (P:=P) w w.heap.size t u ty e i ht hu hi hz j Z _ 0 [] (aEE w w.heap.size e 1) s O L (EZ _);refine⟨v',w',q1,.of q2,q3,fun Y q=>.inr ?_⟩;rcases q2.2 with⟨rfl,_⟩|⟨g2,_,_,rfl,hle,_⟩
  ·simp[EK]at q
  simp[EK]at q;subst q;exact hle
 rw[aH]at hcs I;by_cases J:n+s.size<=cap
 ·have hr:=Lib.run_append_room_string (P:=P) w t u ty e i ht hu hi j g n cap cur hg s J AB;refine⟨_,_,hr,⟨hlen,.inr ⟨g,cap,_,rfl,Ea _,yt w g cur _ e _ hg,J,U,?_,?_⟩⟩,⟨rfl,rfl,rfl,Bh,fun k _ hk=>setRow_other w g k _ (fun e=>hk (by simp[Value.ownBlock,e]))⟩,fun Y q=>.inl q⟩
  ·simp only[kX,En,GK,L6,Uo,aIB];omega
  rw[I,←hlen];exact aCG
 have hr:=Lib.run_append_grow_string (P:=P) w t u ty e i (.int .u8 0) ht hu hi hz ⟨g,0,none⟩ n cap xs (by rw[j];simpa using M) (z.cells (g:=g) rfl) s AB (by unfold maxLen at O;omega) (by rw[Z];exact growslice_fits AB AB);have hge:=grownCap_ge w (n+s.size) cap e;have U:grownCap w (n+s.size) cap e<=maxLen:=grownCap_le_maxLen w (n+s.size) cap e O;refine⟨_,_,hr,⟨hlen,.inr ⟨w.heap.size,_,_,rfl,Ea _,XD w.drew _,hge,U,aV ?_,?_⟩⟩,⟨rfl,rfl,rfl,Bh,fun k hk _=>Kq w.drew _ k hk⟩,fun Y q=>.inr (by simp[EK]at q;omega)⟩
 ·have hz1:(Value.int IntKind.u8 0).cells.size=1:=rfl;simp only[Array.size_append,kX,size_zeroCells,hz1,M,aIB];omega
 simp only[Array.toList_append,Jd];rw[←Jd,←hlen];exact aCG
def akU {s x:CM} {t u e:CG} {k:Nat} {l r:A8 Int} {j:BD} (h:DU 1 l (CU j)=some r) (hE:Hf P t e 1 1) (hz:(P.info? e).bind (·.zero)=some (.int .u8 0)) (hu:P.underlying u=some .string) (hk:es[k]? =some (.arr e 1 (List.map Dn l)))
 (ho:o.op=.call { callee:=.builtin .append,args:= #[s,x],argTypes:= #[t,u] }):CQ P o [(s,.aO k),(x,.d (DV j))] es (.aO es.length) (es.set k .dead++[.arr e 1 (List.map Dn r)]):=
 .eff fun C ok H a w hm hn=>by
  obtain⟨rfl,hlen⟩:=tX h;rw[Ij,aH]at hlen;have hs:=(FI hn).1;have hx:=(FI hn).2.lit;simp only at hs hx;obtain⟨hd,hh,hok⟩:=Hl hm.ent hm.hlen hk;have hsv:=QU hs hh;obtain⟨h1,h2,ys,I,hrs⟩:=hok;obtain⟨i,z',hi,hz',hs1,hby,_⟩:=hE.info;have hz2:i.zero=some (.int .u8 0):=by rw[hi]at hz;simpa using hz
  have L:(l.map Dn).length=l.length:=Bh
  have M:(l.map Dn).length+j.size<=maxLen:=by rw[L];unfold maxLen;omega
  obtain⟨v',w',hr,J,O,U⟩:=aZP (P:=P) (ty:=o.type) hE.und hu hi hz2 hs1 hby I j M (by rw[L];exact hlen)
  obtain⟨h3,h4⟩:=hm.turn (h':=⟨v',1⟩) (e:=.arr e 1 (List.map Dn (l++CU j))) hk rfl hh O.os O.tape O.output O.size (fun c hc hne=>O.block c hc (by rw[aMy I];exact fun e=>hne e.symm)) (fun g Y=>⟨aDV J Y,U g Y⟩) (fun hgr=>by
   refine⟨rfl,fun y hy=>by obtain⟨q,_,rfl⟩:=Fh.1 hy;rfl,ys++Lib.strCells j,?_,?_⟩
   ·have e:(List.map Dn (l++CU j)).length=(l.map Dn).length+j.size:=by simp[Ij]
    rw[e];exact J
   have Z:=hrs.mono hgr (Ho H [⟨v',1⟩]);have hfl:(flat (l.map Dn)).length=l.length:=by rw[a1q];simp
   have hcl:(Lib.strCells j)=(CU j).map (.int .u8):=by unfold Lib.strCells CU;rw[Yx];rfl
   rw[LP,a1h,a1q (CU j),hcl];refine⟨by rw[En,En,Z.1,Dc,Dc],fun i hi=>?_⟩;by_cases z:i<(flat (l.map Dn)).length
   ·have e1:(flat (l.map Dn)++(CU j).map fun n=>Af.d (Dn n)).getD i .junk=(flat (l.map Dn)).getD i .junk:=by simp[List.getD,Hu z]
    have e2:(ys++(CU j).map (Value.int .u8)).getD i undef=ys.getD i undef:=by simp[List.getD,Hu (by rw[Z.1];exact z:i<ys.length)]
    rw[e1,e2];exact Z.2 i z
   have hi3:i-(flat (l.map Dn)).length<(CU j).length:=by rw[En,Dc]at hi;omega
   have e1:(flat (l.map Dn)++(CU j).map fun n=>Af.d (Dn n)).getD i .junk=.d (Dn (CU j)[i-(flat (l.map Dn)).length]):=by simp[List.getD,Kt (VU z),hi3]
   have e2:(ys++(CU j).map (Value.int .u8)).getD i undef=.int .u8 (CU j)[i-(flat (l.map Dn)).length]:=by simp[List.getD,Kt (by rw[Z.1];omega:ys.length<=i),Z.1,hi3]
   rw[e1,e2]
   exact⟨rfl,.d _ _ (.lit _)⟩)
  have hH:(H++[(⟨v',1⟩:CP)])[es.length]? =some ⟨v',1⟩:=PD
  refine⟨v',w',ok,_,.inl ?_,h4,Ho _ _,h3,?_⟩
  ·simp[execOp,ho,resolve,invoke,builtin,hx,hsv,hr]
  rcases J.2 with⟨rfl,_⟩|⟨g',c',_,rfl,_⟩
  ·exact .aO _ _ _ _ 1 hH
  exact .aO _ _ _ _ 1 hH
def adZ {x:CM} {I J e:CG} {s:BD} (hs:P.underlying I=some .string) (hd:P.underlying J=some (.slice e)) (O:P.underlying e=some (.int .u8)) (U:o.op=.convert I J x):CQ P o [(x,.d (DV s))] es (.d (Bo Dn (CU s))) es:=
 .eff fun C ok H a w hm Y=>by
  have M:=(LV Y).lit;simp only at M;have Z:=run_bytes_of_string (P:=P) w I J e s hs hd O;obtain⟨h1,h2⟩:=hm.drew;obtain⟨h3,h4⟩:=h1.fresh (.cells (bytesRow s (grownCap w s.size 0 e)) e ((bytesRow s (grownCap w s.size 0 e)).size,(bytesRow s (grownCap w s.size 0 e)).size+1));refine⟨.slice (some ⟨w.heap.size,0,none⟩) s.size (grownCap w s.size 0 e),_,_,H,.inl ?_,h2.trans h4,.refl _,h3,.d _ _ ?_⟩
  ·simp only[execOp,U,M,G6,Z,GY,Gy]
  have q:((CU s).map Dn).length=s.size:=by simp[Ij]
  have u:∀i,i<s.size->(w.drew.alloc (.cells (bytesRow s (grownCap w s.size 0 e)) e ((bytesRow s (grownCap w s.size 0 e)).size,(bytesRow s (grownCap w s.size 0 e)).size+1))).cell? ⟨w.heap.size,0+(i*1+0),none⟩=some (.int .u8 ((s.data.toList.getD i 0).toNat)):=by
   intro i hi;have hb:(w.drew.alloc (.cells (bytesRow s (grownCap w s.size 0 e)) e ((bytesRow s (grownCap w s.size 0 e)).size,(bytesRow s (grownCap w s.size 0 e)).size+1))).heap[w.heap.size]? =some (.cells (bytesRow s (grownCap w s.size 0 e)) e ((bytesRow s (grownCap w s.size 0 e)).size,(bytesRow s (grownCap w s.size 0 e)).size+1)):=XD w.drew _;rw[Kz,aH,PE];have z:i<s.data.size:=hi
   have hg:(bytesRow s (grownCap w s.size 0 e))[i]? =some (.int .u8 ((s.data.toList.getD i 0).toNat)):=by
    unfold bytesRow;rw[YU N8];simp[nO z,List.getD]
   unfold World.cell?;simp only[hb];simpa using hg
  have hl:∀i,i<s.size->((CU s).map Dn).getD i EO=Dn ((s.data.toList.getD i 0).toNat):=by
   intro i hi;have z:i<s.data.size:=hi;simp[CU,List.getD,nO z]
  have z0:∀j,j<1->j=0:=fun j L=>AB
  have :=ES.sl (ok:=fun b=>ok b\/b=w.drew.heap.size) (w:=w.drew.alloc (.cells (bytesRow s (grownCap w s.size 0 e)) e ((bytesRow s (grownCap w s.size 0 e)).size,(bytesRow s (grownCap w s.size 0 e)).size+1))) ((CU s).map Dn) w.heap.size 0 (grownCap w s.size 0 e) 1 (by rw[q];exact grownCap_ge w s.size 0 e) (fun _ _=>.inr rfl)
   (fun i hi=>by rw[q]at hi;rw[hl i hi];rfl)
   (fun i hi j L=>by rw[q]at hi;rw[z0 j L,hl i hi];rfl)
   (fun i hi j L=>by rw[q]at hi;rw[z0 j L,u i hi];rfl)
   (fun i hi j L=>by rw[q]at hi;rw[z0 j L];unfold cellAt;rw[u i hi,hl i hi];exact .lit _)
  rw[q]at this;exact this
def Eu (op:BinOp) (k:IntKind) (x y:Int):Int:=
 match op with
 | .and=>k.wrap ((BitVec.ofInt k.bits x&&& BitVec.ofInt k.bits y).toNat)
 | .or=>k.wrap ((BitVec.ofInt k.bits x|||BitVec.ofInt k.bits y).toNat)
 | .xor=>k.wrap ((BitVec.ofInt k.bits x^^^BitVec.ofInt k.bits y).toNat)
 |_=>k.wrap ((BitVec.ofInt k.bits x&&& ~~~(BitVec.ofInt k.bits y)).toNat)
def RQ {t t':CG} {x y:CM} {k:IntKind} {u v:Int} (j:o.op=.binOp .and t x y t'):CQ P o [(x,.d (.lit (.int k u))),(y,.d (.lit (.int k v)))] es (.d (.lit (.int k (Eu .and k u v)))) es:=
 GV j (fun w=>aAn) ⟨rfl,rfl⟩
def Wq {t t':CG} {x y:CM} {k:IntKind} {u v:Int} (j:o.op=.binOp .or t x y t'):CQ P o [(x,.d (.lit (.int k u))),(y,.d (.lit (.int k v)))] es (.d (.lit (.int k (Eu .or k u v)))) es:=
 GV j (fun w=>aAn) ⟨rfl,rfl⟩
def aPr {t t':CG} {x y:CM} {k:IntKind} {u v:Int} (j:o.op=.binOp .xor t x y t'):CQ P o [(x,.d (.lit (.int k u))),(y,.d (.lit (.int k v)))] es (.d (.lit (.int k (Eu .xor k u v)))) es:=
 GV j (fun w=>aAn) ⟨rfl,rfl⟩
def ajH {t t':CG} {x y:CM} {k:IntKind} {u v:Int} (j:o.op=.binOp .andNot t x y t'):CQ P o [(x,.d (.lit (.int k u))),(y,.d (.lit (.int k v)))] es (.d (.lit (.int k (Eu .andNot k u v)))) es:=
 GV j (fun w=>aAn) ⟨rfl,rfl⟩
def ZU (k:IntKind) (x:Int):Int:=Eu .xor k (if k.signed then -1 else k.max) x
def aPk {t:CG} {x:CM} {k:IntKind} {u:Int} (j:o.op=.unOp .xor t x):CQ P o [(x,.d (.lit (.int k u)))] es (.d (.lit (.int k (ZU k u)))) es:=
 aLy j (fun w=>by simp[Op.unary,Op.intBits,ZU,Eu])
def PO (op:BinOp) (k:IntKind) (x y:Int):AL Int:=
 if y<0 then none else some (match op with | .shl=>k.wrap (x*2^(min y.toNat k.bits))|_=>x.fdiv (2^(min y.toNat k.bits)))
def Rch {t t':CG} {x y:CM} {k k':IntKind} {u v r:Int} (h:PO .shl k u v=some r) (j:o.op=.binOp .shl t x y t'):CQ P o [(x,.d (.lit (.int k u))),(y,.d (.lit (.int k' v)))] es (.d (.lit (.int k r))) es:=by
 unfold PO at h;split at h
 ·cases h
 rename_i q;obtain rfl:=Dq h;exact GV j (fun w=>by simp[binOp,Op.shift,q]) ⟨rfl,rfl⟩
def aTi {t t':CG} {x y:CM} {k k':IntKind} {u v r:Int} (h:PO .shr k u v=some r) (j:o.op=.binOp .shr t x y t'):CQ P o [(x,.d (.lit (.int k u))),(y,.d (.lit (.int k' v)))] es (.d (.lit (.int k r))) es:=by
 unfold PO at h;split at h
 ·cases h
 rename_i q;obtain rfl:=Dq h;exact GV j (fun w=>by simp[binOp,Op.shift,q]) ⟨rfl,rfl⟩
def uZ (k:IntKind) (a b:Int):AL Int:=if b=0 then none else some (k.wrap (a.tdiv b))
def Xc (a b:Int):AL Int:=if b=0 then none else some (a.tmod b)
def ahn {t t':CG} {x y:CM} {k:IntKind} {u v r:Int} (h:uZ k u v=some r) (j:o.op=.binOp .quo t x y t'):CQ P o [(x,.d (.lit (.int k u))),(y,.d (.lit (.int k v)))] es (.d (.lit (.int k r))) es:=by
 unfold uZ at h;split at h
 ·cases h
 rename_i q;obtain rfl:=Dq h;exact GV j (fun w=>by simp[binOp,Op.intDiv,q]) ⟨rfl,rfl⟩
def aHQ {t t':CG} {x y:CM} {k:IntKind} {u v r:Int} (h:Xc u v=some r) (j:o.op=.binOp .rem t x y t'):CQ P o [(x,.d (.lit (.int k u))),(y,.d (.lit (.int k v)))] es (.d (.lit (.int k r))) es:=by
 unfold Xc at h;split at h
 ·cases h
 rename_i q;obtain rfl:=Dq h;exact GV j (fun w=>by simp[binOp,Op.intDiv,q]) ⟨rfl,rfl⟩
end
section
variable {P:Ce} {o:Oper} {es:A8 Bd} {α:Type}
def aQZ {ok:Nat->Prop} {w:BU} {H:A8 CP} {h:CP} {e size k i off:Nat} {xs:A8 D} {v:Au} (O:H[k]? =some h) (u:FY ok w H h (.arr e size xs)) (hi:i<xs.length) (U:R ok w H (.lq k i off) v):
 ∃g cap cur ys,h.v=.slice (some ⟨g,0,none⟩) xs.length cap/\w.heap[g]? =some (.cells cur e (0,0))/\xs.length<=cap/\cap<=maxLen/\xs.length*size<=cur.size/\cap*size<=cur.size/\cur.toList.take (xs.length*size)=ys/\ys.length=xs.length*size/\Fj ok w H (flat xs) ys/\(∀x∈xs,x.cells.length=size)/\v=.pointer (some ⟨g,i*size+off,none⟩):=by
 obtain⟨J,Y,ys,⟨Z,h4⟩,h5⟩:=u;rcases h4 with⟨q,h7⟩|⟨g,cap,cur,q,h7,h8,L,z,j,I⟩
 ·omega
 refine⟨g,cap,cur,ys,q,h8,L,z,FC (MB _ L) j,j,I,Z,h5,Y,?_⟩;cases U with
 |lq _ _ _ b n c s M=>
  rw[O]at M;obtain rfl:=Dq M;simp only[jl,Mc,Addr.mk.injEq]at q;simp only at J;rw[q.1.1,J]
def aPv {size n i j:Nat} (hi:i<n) (q:j<size):i*size+j<n*size:=
 calc i*size+j<i*size+size:=AB
  _=(i+1)*size:=by rw[Uk]
  _<=n*size:=MB _ hi
def Jm {x:CM} {t:CG} {agg:AZ} {k n i off e size:Nat} {y:D} (enc:α->D) {l:A8 α} {a:α} (hy:y=QI agg (enc a).cells off n) (hk:es[k]? =some (.arr e size (List.map enc l))) (ha:l[i]? =some a) (hT:Em P t agg n) (hn:off+n<=(enc a).cells.length) (h1:agg=false->n=1)
 (ho:o.op=.load t x):CQ P o [(x,.lq k i off)] es (.d y) es:=
 .pure fun ok H ac w M hl Y=>by
  have hx:=LV Y;simp only at hx;subst hy;obtain⟨h,hh,Z⟩:=Hl M hl hk;obtain⟨I,O⟩:=GH.1 ha;have q:i<(List.map enc l).length:=UR
  obtain⟨g,cap,cur,ys,e1,e2,e3,e4,e5,e5',e6,e7,e8,e9,e10⟩:=aQZ hh Z q hx;have J:(List.map enc l).getD i EO=enc a:=by simp[List.getD,I,O]
  have hsz:(enc a).cells.length=size:=by
   refine e9 _ ?_;exact Fh.2 ⟨a,by rw[←O];exact Ew I,rfl⟩
  have hfl:=SY e9
  have u:∀j,j<size->w.cell? ⟨g,i*size+j,none⟩=some (ys.getD (i*size+j) undef):=by
   intro j L;have z:=aPv q L;have hcur:(List.map enc l).length*size<=cur.size:=e5;have h15:i*size+j<cur.size:=AB
   have e11:ys.getD (i*size+j) undef=cur[i*size+j]'(h15):=by
    rw[←e6];have h14:i*size+j<l.length*size:=N8
    simp[List.getD,NC h14,show i*size+j<cur.size by omega]
   rw[e11];simp[World.cell?,e2,show i*size+j<cur.size by omega]
  have U:∀j,j<size->((enc a).cells.getD j EO).leaf=true/\ES ok w ((enc a).cells.getD j EO) (ys.getD (i*size+j) undef):=by
   intro j L;have z:=e8.2 (i*size+j) (by rw[hfl];exact aPv q L);rw[flat_get e9 i j q L,J]at z;refine⟨z.1,?_⟩;cases z.2 with |d _ _ h=>exact h
  obtain⟨v,hr,hD⟩:=aAP (ok:=ok) (w:=w) (b:=g) (p:=i*size) (cs:=(enc a).cells) hT hn h1 (fun j L=>(U j AB).1) (fun j L=>by rw[u j AB];rfl) (fun j L=>by unfold cellAt;rw[u j AB];exact(U j AB).2);exact⟨v,by simp only[execOp,ho,e10,G6,hr,GY,Gy],.d _ _ hD⟩
def fK {t:CG} {x y:CM} {k i off n e size:Nat} (enc:α->D) {l:A8 α} {a a':α} {v:Af} (hk:es[k]? =some (.arr e size (List.map enc l))) (ha:l[i]? =some a) (hl:v.cells.all Af.leaf=true) (hs:∀w,(sizeOf t).run P w=.ok n w) (hn:v.cells.length=n)
 (hle:off+n<=(enc a).cells.length) (hset:(enc a').cells.map Af.d=setAt ((enc a).cells.map Af.d) off v.cells) (hc:∀b,(enc b).cells.length=size) (ho:o.op=.store t x y):
 CQ P o [(x,.lq k i off),(y,v)] es .junk (es.set k (.arr e size (List.map enc (l.set i a')))):=
 .eff fun C ok H I w hm hn'=>by
  have h1:=(FI hn').1;have h2:=(FI hn').2;simp only at h1 h2;obtain⟨h,hh,hok⟩:=Hl hm.ent hm.hlen hk;obtain⟨U,hia⟩:=GH.1 ha;have aG8:i<(List.map enc l).length:=aBj
  have hok1:=hok.1;obtain⟨g,cap,cur,ys,e1,e2,e3,e4,e5,e5',e6,e7,e8,e9,e10⟩:=aQZ hh hok aG8 h1;have z:=h2.akc hl;have hll:(List.map enc l).length=l.length:=Bh
  rw[hll]at e1 e3 e6 e7;have hea:(enc a).cells.length=size:=hc a;have Y:(I.eval y).cells.toList.length=n:=by rw[z.1,hn]
  have hsz:(I.eval y).cells.size=n:=Vj
  have hcur:l.length*size<=cur.size:=by simpa using e5
  have hend:i*size+off+n<=l.length*size:=by
   have :(i+1)*size<=l.length*size:=MB _ U;rw[Uk]at this;omega
  have hst:=aOE (P:=P) g (i*size+off) e (I.eval y).cells.toList 0 cur w e2 (by rw[Y];omega) (fun u hu=>by
   obtain⟨j,J,rfl⟩:=I5 hu;have h5:=z.2 j (by rw[←z.1];exact J);have :=h5.2.leaf h5.1
   rwa [aF6 J]at this)
  simp only[PE]at hst;have M:∀(q:A8 α),∀y∈q.map enc,y.cells.length=size:=fun q y hy=>aFy
  obtain⟨h3,h4⟩:=hm.upd (e:=.arr e size (List.map enc (l.set i a'))) (w':=w.setRow g (cur.toList.take (i*size+off)++(I.eval y).cells.toList++cur.toList.drop (i*size+off+(I.eval y).cells.toList.length)).toArray) hk rfl hh (by rw[e1];rfl) rfl rfl rfl aJf (fun c hc=>aIP _ _ _ _ hc) (fun hg'=>by
   have esz:(setAt cur.toList (i*size+off) (I.eval y).cells.toList).length=cur.toList.length:=TB (by have :=cur.length_toList;omega);refine⟨hok1,M _,setAt ys (i*size+off) (I.eval y).cells.toList,⟨?_,.inr ⟨g,cap,_,by simp;exact e1,Ea _,yt w g cur _ e (0,0) e2,by simpa using e3,e4,?_,?_⟩⟩,?_⟩
   ·rw[TB AB];simpa using e7
   ·have h9:(setAt cur.toList (i*size+off) (I.eval y).cells.toList).toArray.size=cur.size:=by rw[kX,esz];simp
    show _<=(setAt cur.toList (i*size+off) (I.eval y).cells.toList).toArray.size;rw[h9];exact e5'
   ·rw[a0W];show(setAt cur.toList (i*size+off) (I.eval y).cells.toList).take _=_;rw[←e6];have hlen':(List.map enc (l.set i a')).length=l.length:=Bh
    rw[hlen'];apply kN;intro j;have hcl:=cur.length_toList;by_cases J:j<l.length*size
    ·have a1:((setAt cur.toList (i*size+off) (I.eval y).cells.toList).take (l.length*size))[j]? =some ((setAt cur.toList (i*size+off) (I.eval y).cells.toList).getD j undef):=by
      rw[NC J];simp[List.getD,show j<(setAt cur.toList (i*size+off) (I.eval y).cells.toList).length by rw[esz];omega]
     have tl:(cur.toList.take (l.length*size)).length=l.length*size:=EW
     have sl:(setAt (cur.toList.take (l.length*size)) (i*size+off) (I.eval y).cells.toList).length=l.length*size:=by rw[TB AB,tl]
     have a2:(setAt (cur.toList.take (l.length*size)) (i*size+off) (I.eval y).cells.toList)[j]? =some ((setAt (cur.toList.take (l.length*size)) (i*size+off) (I.eval y).cells.toList).getD j undef):=by
      simp[List.getD,show j<(setAt (cur.toList.take (l.length*size)) (i*size+off) (I.eval y).cells.toList).length by omega]
     rw[a1,a2,Yu AB,Yu AB];congr 1;split
     ·rfl
     simp[List.getD,NC J]
    have tl:(cur.toList.take (l.length*size)).length=l.length*size:=EW
    have sl:(setAt (cur.toList.take (l.length*size)) (i*size+off) (I.eval y).cells.toList).length=l.length*size:=by rw[TB AB,tl]
    rw[J5 EW,J5 AB]
   have hb:=e8.mono hg' (aT H);have hcr:=z.mono hg' (aT H);have hfl:=SY (M l);have Z:=SY (M (l.set i a'));refine⟨by rw[TB AB,e7,Z];simp,fun j J=>?_⟩;rw[Z]at J;simp only[Dc,kC]at J
   have hpos:0<size:=by
    rcases XP size with h0|h0
    ·rw[h0,Nat.mul_zero]at J;omega
    exact h0
   have e0:j=j/size*size+j % size:=by rw[Uf];exact(aFX j size).symm
   have hq:j/size<l.length:=yg (by rwa [Uf]at J);have hr:j % size<size:=lQ _ hpos
   have hdiv:j/size=i↔i*size<=j/\j<i*size+size:=by
    rw[Nat.div_eq_iff hpos,Uf];omega
   rw[Y]at hb hcr;generalize j/size=qd at e0 hq hdiv;generalize j % size=L at e0 hr;have hg3:=flat_get (M (l.set i a')) qd L (by simpa using hq) hr;rw[←e0]at hg3;have hg1:=flat_get (M l) qd L (by simpa using hq) hr;rw[←e0]at hg1;rw[hg3,Yu AB,Y];by_cases O:qd=i
   ·have hnew:(List.map enc (l.set i a')).getD (qd) EO=enc a':=by rw[O];simp[List.getD,U]
    have hold:(List.map enc l).getD (qd) EO=enc a:=by rw[O];simp[List.getD,U,hia]
    rw[hnew];have aMN:(enc a').cells.length=size:=hc a'
    have e11:Af.d ((enc a').cells.getD (L) EO)=(setAt ((enc a).cells.map Af.d) off v.cells).getD (L) .junk:=by
     rw[←hset];simp[List.getD,show L<(enc a').cells.length by omega]
    rw[e11,Yu (by rw[Dc,hn];exact hle),hn];have hji:j=i*size+L:=by rw[←O];exact e0
    by_cases hin:off<=L/\L<off+n
    ·rw[Di hin,Di AB];have :j-(i*size+off)=L-off:=AB
     rw[this];exact hcr.2 _ AB
    rw[Dp hin,Dp AB];have e12:((enc a).cells.map Af.d).getD (L) .junk=.d ((enc a).cells.getD (L) EO):=by simp[List.getD,show L<(enc a).cells.length by omega]
    rw[e12,←hold,←hg1];exact hb.2 j (by rw[hfl];simpa using J)
   have hsame:(List.map enc (l.set i a')).getD (qd) EO=(List.map enc l).getD (qd) EO:=by
    simp[List.getD,dZ (Ne.symm O)]
   have hnot:¬(i*size+off<=j/\j<i*size+off+n):=by
    rintro⟨ha1,ha2⟩;exact O (hdiv.2 ⟨AB,AB⟩)
   rw[Dp hnot,hsame,←hg1]
   exact hb.2 j (by rw[hfl];simpa using J))
  refine⟨undef,_,ok,H,.inr ⟨rfl,?_⟩,h4,.refl _,h3,.junk _⟩;simp only[execOp,ho,e10,Instr.storeAt,Instr.sureAddr,storeVar,G6,Gy,GY,hs,hsz,ne_eq,not_true_eq_false,KP,hst]
end
end
end Go.Proofs.YtkkdimcnpacjhaaGreat
