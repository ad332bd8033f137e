/- Part 1 of the laws' proofs (short forms by wip/shrink2.py). -/
import Derived.Test.YtfmoknlmaldmlaaGreatRows
import Derived.WalkSpells
import Derived.WalkLawsBesides
import Derived.Lib.Hide
import Derived.Laws.AppendOwnNone
import Derived.Laws.CopyOwn
import Derived.OrdersIn
import Derived.RangeFuncRecord
import Derived.Lib.OwnBridge
import Derived.Sort.OwnSortedInts
import Derived.ProofKit
import Derived.Shelf.Small.Bits
import Derived.Shelf.Small.Strs
import Derived.Shelf.Strings.Shaped
set_option linter.defProp false
set_option linter.unnecessarySimpa false
set_option linter.unusedSectionVars false
set_option linter.unusedVariables false
set_option linter.unusedSimpArgs false
namespace Go.Proofs.YtfmoknlmaldmlaaGreat
open Go.RowKit Go.Proofs.Tryz
abbrev AA.{u}:=List.{u}
abbrev AB.{u}:=Option.{u}
abbrev AY:=ByteArray
abbrev Af:=Value
abbrev Ai:=World
abbrev Aw.{u}:=Array.{u}
abbrev BD:=Operand
abbrev BU:=Program
abbrev BA:=TypeId
abbrev AO:=Bool
abbrev Ak (n:Nat):Nat×AO:=(n,true)
section
variable {p:Prop}
def Ba (h:p:=by exact fun h=>AU<|CX):p:=h
def El (h:p:=by exact BK.exit<|AU<|CX):p:=h
def YG (h:p:=by exact .nil<|m _ _ _ (Ah 16 449 [Ak 0]) h):p:=h
def bK (h:p:=by exact .nil<|j _ _ (Ah 26 35 []) h):p:=h
def KE (h:p:=by exact BR h Ba fun h=>AU<|CX):p:=h
end
section
variable {p:Prop}
def A8 (h:p:=by kernel_rfl):p:=h
def CX (h:p:=by cases h;exact .ret (QS [])):p:=h
def AL (h:p:=by omega):p:=h
def CJ (h:p:=by cases h;kernel_rfl):p:=h
def BQ (h:p:=by decide):p:=h
def Bf (h:p:=by simp):p:=h
def OU (h:p:=by rw[←IK h];exact⟨[],[Ak 0],trivial,by kernel_rfl,by kernel_rfl,by kernel_rfl⟩):p:=h
def JL (h:p:=by simpa using q):p:=h
def VB (h:p:=by have :=J (k+1) y (by simpa using q);simpa[Ld,SH 1 k]using this):p:=h
def VE (h:p:=by have :=L (k+1) y (by simpa using q);simpa[Ld,SH 1 k]using this):p:=h
def V3 (h:p:=by have :=U (k+1) y (by simpa using q);simpa[Ld,SH 1 k]using this):p:=h
def TL (h:p:=by have :=I (k+1) (by simpa using hk);simpa[Ld,SH 1 k]using this):p:=h
def Gi (h:p:=by decide+kernel):p:=h
def FX (h:p:=by rw[j];rfl):p:=h
def Ed (h:p:=by cases h):p:=h
def FQ (h:p:=by simp at h):p:=h
def Q5 (h:p:=by cases h;exact .ret (QS [Ak 2])):p:=h
def JE (h:p:=by simpa using j):p:=h
def Hy (h:p:=by simp;omega):p:=h
def JU (h:p:=by rw[Dp];omega):p:=h
def sZ (h:p:=by subst e;have h:=i;exact .a 2<|AQ h fun u n h=>.mg 12 3 (Aa u) (.bi n)<|.aW<|by cases h;kernel_rfl):p:=h
def MI (h:p:=by rw[EJ]at h;exact h):p:=h
def MQ (h:p:=by simp[List.getD,j]):p:=h
def Iq (h:p:=by rw[aaT];rfl):p:=h
def V6 (h:p:=by simpa using(I 0 (by simp)).symm):p:=h
def Oe (h:p:=by rw[EJ];exact Qw j):p:=h
def kU (h:p:=by by_cases h:(s.size:Int)>32<;>simp[h]<;>omega):p:=h
def dN (h:p:=by by_cases h:(s.size:Int)<1<;>simp[h]<;>omega):p:=h
def OZ (h:p:=by simpa using r):p:=h
def jM (h:p:=by have :Am=9223372036854775808:=rfl;omega):p:=h
def PS (h:p:=by simpa using m):p:=h
def Pv (h:p:=by simpa using u):p:=h
def Y9 (h:p:=by simpa using J 0 x (by simp)):p:=h
def QG (h:p:=by simpa using h):p:=h
def Xy (h:p:=by simp[binOp,Op.intBits,CY]):p:=h
def iU (h:p:=by rw[L rfl b (by rw[n];rfl)];exact q):p:=h
def oK (h:p:=by subst e;have h:=i;exact CB.aW<|by cases h;kernel_rfl):p:=h
def NG (h:p:=by simp at j):p:=h
def dc (h:p:=by simpa using L 0 σ.ents (by simp)):p:=h
def qo (h:p:=by rw[Dn]at m;rw[N8 _ _ _ m];exact LH q j r (h i m)):p:=h
def gu (h:p:=by simpa using r.lt x (by simp[M])):p:=h
def U4 (h:p:=by simp at u;omega):p:=h
def UM (h:p:=by simp[List.getD,m]):p:=h
def Sv (h:p:=by intro j;cases j):p:=h
def tV (h:p:=by simp only[Yr,dec_lt h,Bq,DV h,AX,Lu,EU,Az]):p:=h
def SG (h:p:=by simpa using s):p:=h
def aiM (h:p:=by simpa using hk):p:=h
def wL (h:p:=by rw[Dn]at j;rw[N8 _ _ _ j];exact(h i j).kF π):p:=h
def vw (h:p:=by cases h;exact .ret (QS [(0,false),Ak 1])):p:=h
def QK (h:p:=by simp[Cj]):p:=h
def qQ (h:p:=by simp[Value.cells,List.getD,Array.getD,z]):p:=h
def Zx (h:p:=by rw[hb1];exact(Ep.1 L).1):p:=h
def ZJ (h:p:=by intro n;cases n):p:=h
def uY (h:p:=by simp[Array.getD,hil]at hf ⊢;exact hf):p:=h
def jf (h:p:=by rw[Ad.E5]at I;exact I):p:=h
def Pg (h:p:=by cases h'):p:=h
def kZ (h:p:=by simp[List.getD,FP e]):p:=h
def X9 (h:p:=by rw[Om];omega):p:=h
def mY (h:p:=by rw[n];rfl):p:=h
def YO (h:p:=by simpa using J):p:=h
def X0 (h:p:=by simpa using n):p:=h
def ig (h:p:=by simp only[Yr,DJ,Az]):p:=h
def YK (h:p:=by rw[EJ];exact h):p:=h
def eA (h:p:=by rw[Dp];simp;omega):p:=h
def eL (h:p:=by intro hh;cases hh):p:=h
def aB (h:p:=by simp[execOp,h];rfl):p:=h
def Qj (h:p:=by simp[u]):p:=h
def jk (h:p:=by simp[List.getD,q]):p:=h
def kE (h:p:=by rw[eP j z];simp):p:=h
end
abbrev ah0:=Value.int .i64
def AX:=@Option.bind_some
def Az:=@cond_false
def CS:=@Bool.and_eq_true
def Dp:=@List.length_append
def D7:=@Go.Proofs.Tryz.underlying3
def Bq:=@cond_true
def Ep:=@List.getElem?_eq_some_iff
def DU:=@Option.some.inj
def FP:=@List.getElem?_append_left
def Dn:=@List.length_map
def Dz:=@List.all_eq_true
def CO:=@congrArg
def ES:=@Go.Result.andThen_ok
def EP:=@Go.Proofs.Tryz.underlying9
def IG:=@List.eq_nil_of_length_eq_zero
def H8:=@List.getElem?_append_right
def IV:=@Array.getD_eq_getD_getElem?
def EU:=@Bool.not_true
def I5:=@Bool.eq_false_or_eq_true
def EN:=@Go.Sem.run_bind
def JD:=@Array.getElem?_eq_some_iff
def Ld:=@Nat.add_assoc
def Ej:=@Go.Sem.run_pure
def F8:=@Bool.true_and
def Gj:=@decide_eq_true_eq
def Ir:=@Nat.le_of_ble_eq_true
def HY:=@List.append_assoc
def SH:=@Nat.add_comm
def JM:=@Nat.mul_le_mul_right
def NU:=@Array.all_eq_true_iff_forall_mem
def FZ:=@Nat.le_trans
def Ns:=@Array.getElem?_setIfInBounds_ne
def GX:=@Bool.and_true
def Iw:=@List.getElem?_map
def Ik:=@Go.Proofs.Tryz.underlying38
def J3:=@Go.Proofs.Tryz.underlying59
def Ic:=@Option.map_some
def JG:=@Option.some.injEq
def Ku:=@List.mem_cons_of_mem
def Hz:=@List.mem_cons
def Gt:=@Nat.le_refl
def Ib:=@Bool.or_false
def OV:=@List.getElem?_take_of_lt
def KT:=@Go.Proofs.Tryz.underlying45
def Kq:=@Go.Proofs.Tryz.underlying69
def MC:=@List.mem_of_getElem?
def EW:=@if_neg
def IY:=@Bool.or_true
def KW:=@List.getElem_mem
def Lu:=@beq_self_eq_true
def EX:=@if_pos
def ML:=@Array.length_toList
def Lm:=@Go.Proofs.Tryz.underlying32
def KJ:=@Go.run_equalIn_int
def LW:=@List.not_mem_nil
def Oh:=@Option.map_eq_some_iff
def NM:=@Go.Proofs.Tryz.underlying34
def LQ:=@List.nodup_cons
def Om:=@List.nil_append
def Rq:=@List.drop_eq_getElem_cons
def OX:=@List.getElem?_drop
def OE:=@List.mem_cons_self
def Ov:=@List.filterMap_cons
def KP:=@Nat.zero_add
def LD:=@Bool.false_or
def NR:=@Nat.le_of_not_lt
def O4:=@List.any_eq_true
def Pn:=@List.mem_filterMap
def QH:=@Go.Proofs.Tryz.underlying396
def TW:=@Classical.byContradiction
def Qm:=@List.getElem?_set_ne
def Md:=@Prod.mk.injEq
def PN:=@List.length_cons
def Ob:=@List.drop_length
def P8:=@Go.Proofs.Tryz.underlying4
def PX:=@List.foldlM_cons
def LG:=@Nat.zero_le
def VO:=@List.take_of_length_le
def QW:=@Go.Proofs.Tryz.underlying407
def RQ:=@Bool.not_eq_true'
def RZ:=@of_decide_eq_true
def RX:=@bne_self_eq_false
def Qe:=@Go.Proofs.Tryz.underlying22
def PU:=@Go.Oper.wpIn_mono
def PO:=@decide_eq_true
def RF:=@Option.getD_some
def WT:=@Option.isSome_iff_exists
def Qc:=@List.length_take
def Ql:=@List.length_drop
def VA:=@List.getElem_of_mem
def Oi:=@List.map_cons
def Uz:=@Nat.lt_of_lt_of_le
def Qx:=@beq_false_of_ne
def RS:=@Go.IntKind.wrap_u8
def Ui:=@Go.Proofs.Tryz.underlying102
def V7:=@Go.Proofs.Tryz.underlying399
def VH:=@Go.Proofs.Tryz.underlying401
def UY:=@Go.Proofs.Tryz.underlying403
def Uc:=@Go.Proofs.Tryz.underlying79
def U6:=@Go.Proofs.Tryz.underlying61
def Pz:=@List.mem_map
def Rt:=@Bool.not_false
def Pq:=@Nat.succ_mul
def QD:=@Nat.mul_comm
def XL:=@Array.toArray_toList
def VL:=@Bool.not_eq_true
def Yp:=@Nat.div_lt_of_lt_mul
def UC:=@Go.IntKind.wrap_u64
def Zb:=@Array.getElem?_append_left
def Kr:=@if_true
def Si:=@List.mem_filter
def ZQ:=@List.getElem?_eq_getElem
def ND:=@or_false
def Ya:=@Go.run_equalIn_string
def Vt:=@Go.Proofs.Tryz.underlying430
def Ue:=@Go.heap_alloc_new
def dV:=@Option.bind_eq_some_iff
def jL:=@decide_eq_false_iff_not
def Y7:=@List.size_toArray
def Vx:=@List.findIdx_cons
def Y6:=@List.flatMap_cons
def WL:=@Go.Proofs.Tryz.underlying27
def XM:=@Go.Proofs.Tryz.underlying82
def oU:=@List.findIdx?_eq_some_iff_getElem
def wB:=@List.set_eq_take_append_cons_drop
def dh:=@List.drop_of_length_le
def WG:=@Go.RowKit.Below.heap_alloc
def O6:=@if_false
def dz:=@List.take_append_drop
def ZT:=@Nat.eq_of_beq_eq_true
def XP:=@List.foldl_cons
def ZK:=@List.map_append
def bg:=@Bool.or_eq_false_iff
def Wu:=@decide_eq_false
def gU:=@List.toList_toArray
def eH:=@Go.Lib.strCells_length
def kX:=@beq_eq_false_iff_ne
def Rs:=@Go.wpIn_mono
def jT:=@Int.natCast_nonneg
def qK:=@Array.toList_setIfInBounds
def qW:=@Int.tmod_eq_emod_of_nonneg
def xC:=@Array.mapM_eq_mapM_toList
def Vh:=@Nat.le_of_eq
def X5:=@Nat.add_zero
def dL:=@List.length_set
def cG:=@Bool.or_eq_true
def ZR:=@Nat.div_add_mod
def eX:=@List.length_nil
def Zj:=@List.append_nil
def YF:=@Nat.mul_one
def iZ:=@List.mem_range
def iF:=@List.take_left
def dB:=@List.drop_drop
section
def addr_add (b o j:Nat):(⟨b,o,none⟩:Addr).add j=⟨b,o+j,none⟩:=by
 unfold Addr.add;split<;>simp_all
section
variable {P:BU} {ops:Aw Oper} {rest:AA Oper} {o:Oper} {a:Act} {w:Ai} {Q:Exit->Act->Ai->Prop}
def afN (w:Ai) (ty:BA) (b off:Nat) (cs:Aw Af) (q:(isAgg ty).run P w=.ok true w) (r:(sizeOf ty).run P w=.ok cs.size w)
 (s:∀j,j<cs.size->w.cell? ⟨b,off+j,none⟩=some (cs.getD j undef)):(loadVar ty ⟨b,off,none⟩).run P w=.ok (.agg cs) w:=by
 have m:(loadCells ⟨b,off,none⟩ cs.toList.length).run P w=.ok cs.toList.toArray w:=
  run_loadCells_list (P:=P) w ⟨b,off,none⟩ cs.toList (fun j v h=>by
   rw[addr_add]
   have n:j<cs.size:=by
    have :=(Ep.1 h).1;simpa using this
   rw[s j n];simp only[Array.getElem?_toList]at h;simp[Array.getD,n]at h ⊢
   exact h)
 simp only[ML,XL]at m;simp only[loadVar,EN,q,r,ES,Kr,m,Ej]
end
inductive D where
 |lit (v:Value)
 |agg (cs:List D)
 |sl (es:List D)
 |ref (cs:List D) (off:Nat)
 |fn (f:Fn) (first cap:List D)
 |Oq (t:TypeId) (x:D)
def D.cells:D->AA D
 | .agg cs=>cs
 |x=>[x]
def D.leaf:D->AO
 | .lit v=>v.oneCell'
 | .agg _=>false
 |_=>true
abbrev CV :D:=.lit undef
abbrev cellAt (w:Ai) (b o:Nat):Af:=(w.cell? ⟨b,o,none⟩).getD undef
inductive D8 (ok:Nat->Prop) (w:World):D->Value->Prop
 |lit (v:Value):D8 ok w (.lit v) v
 |agg (cs:List D) (vs:Array Value) (hl:vs.size=cs.length) (hf:∀i,i<cs.length->(cs.getD i CV).leaf=true)
  (h:∀i,i<cs.length->D8 ok w (cs.getD i CV) (vs.getD i undef)):D8 ok w (.agg cs) (.agg vs)
 |sl0 (ad:Option Addr) (cap:Nat):D8 ok w (.sl []) (.slice ad 0 cap)
 |sl (es:List D) (b off cap size:Nat) (hcap:es.length<=cap) (hok:0<es.length->0<size->ok b) (hs:∀i,i<es.length->(es.getD i CV).cells.length=size)
  (hf:∀i,i<es.length->∀j,j<size->((es.getD i CV).cells.getD j CV).leaf=true)
  (hx:∀i,i<es.length->∀j,j<size->(w.cell? ⟨b,off+(i*size+j),none⟩).isSome=true)
  (hc:∀i,i<es.length->∀j,j<size->D8 ok w ((es.getD i CV).cells.getD j CV) (cellAt w b (off+(i*size+j)))):
  D8 ok w (.sl es) (.slice (some ⟨b,off,none⟩) es.length cap)
 |ref (cs:List D) (off b o:Nat) (hok:0<cs.length->ok b) (hf:∀i,i<cs.length->(cs.getD i CV).leaf=true)
  (hx:∀j,j<cs.length->(w.cell? ⟨b,o+j,none⟩).isSome=true)
  (hc:∀j,j<cs.length->D8 ok w (cs.getD j CV) (cellAt w b (o+j))):D8 ok w (.ref cs off) (.pointer (some ⟨b,o+off,none⟩))
 |fn (f:Fn) (first cap:List D) (vs us:Array Value) (hl:vs.size=first.length) (hm:us.size=cap.length)
  (h:∀i,i<first.length->D8 ok w (first.getD i CV) (vs.getD i undef)) (h':∀i,i<cap.length->D8 ok w (cap.getD i CV) (us.getD i undef)):
  D8 ok w (.fn f first cap) (.func f vs us)
 |Oq (t:TypeId) (x:D) (v:Value) (h:D8 ok w x v):D8 ok w (.Oq t x) (.iface t v)
def E8 (ok:Nat->Prop) (w:Ai) (ok':Nat->Prop) (w':Ai):Prop:=∀b,ok b->ok' b/\w'.heap[b]? =w.heap[b]?
def E8.refl (ok:Nat->Prop) (w:Ai):E8 ok w ok w:=fun _ h=>⟨h,rfl⟩
def E8.trans {ok j m:Nat->Prop} {w q r:Ai} (h:E8 ok w j q) (k:E8 j q m r):E8 ok w m r:=
 fun b n=>⟨(k b (h b n).1).1,((k b (h b n).1).2).trans (h b n).2⟩
def E8.cell {ok ok':Nat->Prop} {w w':Ai} (h:E8 ok w ok' w') {b o:Nat} (j:ok b):w'.cell? ⟨b,o,none⟩=w.cell? ⟨b,o,none⟩:=
 World.cell?_of_block (w:=w) (a:=⟨b,o,none⟩) (h b j).2
def D8.mono {ok ok':Nat->Prop} {w w':Ai} (r:E8 ok w ok' w') {x:D} {v:Af} (h:D8 ok w x v):D8 ok' w' x v:=by
 induction h with
 |lit v=>exact .lit v
 |agg cs vs I u _ q=>exact .agg cs vs I u q
 |sl0 ad cap=>exact .sl0 ad cap
 |sl es b off cap size z m S u J _ q=>
  have O:∀i j,i<es.length->j<size->ok b:=fun i j s n=>m AL AL;refine .sl es b off cap size z (fun L U=>(r b (m L U)).1) S u (fun i s j n=>?_) (fun i s j n=>?_)
  ·rw[r.cell (O i j s n)];exact J i s j n
  unfold cellAt;rw[r.cell (O i j s n)];exact q i s j n
 |ref cs off b o m u J _ q=>
  refine .ref cs off b o (fun L=>(r b (m L)).1) u (fun j n=>?_) (fun j n=>?_)
  ·rw[r.cell (m AL)];exact J j n
  unfold cellAt;rw[r.cell (m AL)];exact q j n
 |fn f first cap vs us I Y _ _ q M=>exact .fn f first cap vs us I Y q M
 |Oq t x v _ q=>exact .Oq t x v q
def D8.shrink {ok ok':Nat->Prop} {w:Ai} (J:∀b o,ok b->(w.cell? ⟨b,o,none⟩).isSome=true->ok' b) {x:D} {v:Af} (h:D8 ok w x v):D8 ok' w x v:=by
 induction h with
 |lit v=>exact .lit v
 |agg cs vs u n _ j=>exact .agg cs vs u n j
 |sl0 ad cap=>exact .sl0 ad cap
 |sl es b off cap size q m z n r _ j=>exact .sl es b off cap size q (fun s L=>J b _ (m s L) (r 0 s 0 L)) z n r j
 |ref cs off b o m n r _ j=>exact .ref cs off b o (fun s=>J b _ (m s) (r 0 s)) n r j
 |fn f first cap vs us u M _ _ j I=>exact .fn f first cap vs us u M j I
 |Oq t x v _ j=>exact .Oq t x v j
def D8.leaf {ok:Nat->Prop} {w:Ai} {x:D} {v:Af} (h:D8 ok w x v) (j:x.leaf=true):v.oneCell'=true:=by
 cases h<;>first|rfl|exact j|(simp[D.leaf]at j)
inductive AP where
 |d (x:D)
 |ptr (k off:Nat)
 |dn (k:Nat)
 |iG (k i off:Nat)
 |fn (f:Fn) (first cap:List AP)
 |mp (k:Nat)
 |clip (xs:List D)
 |nN (k:Nat)
 |gV (vs:List AP)
 |ag (vs:List AP)
 |junk
def AP.leaf:AP->AO
 | .d x=>x.leaf
 | .gV _| .ag _| .junk=>false
 |_=>true
def AP.cells:AP->AA AP
 | .d x=>x.cells.map .d
 | .ag xs=>xs
 |x=>[x]
inductive Ad where
 |dead
 |box (cs:List AP)
 |arr (e:TypeId) (size:Nat) (es:List D)
 |map (es:List (Value×D))
 |FU (es:List (Value×D))
 |iter (es:List (Value×D)) (vis:List Nat)
 |loop (tm:Array Value) (slots:List AP) (rc:Array Tmp×Code×Code) (st:LoopState) (pe:Option Code)
def Ad.live:Ad->AO
 | .dead=>false
 |_=>true
structure BG where
 v:Value
 size:Nat:=0
inductive R (ok:Nat->Prop) (w:World) (H:List BG):AP->Value->Prop
 |d (x:D) (v:Value) (h:D8 ok w x v):R ok w H (.d x) v
 |ptr (k off b s:Nat) (h:H[k]? =some ⟨.pointer (some ⟨b,0,none⟩),s⟩):R ok w H (.ptr k off) (.pointer (some ⟨b,off,none⟩))
 |dn (k:Nat) (ad:Option Addr) (n cap s:Nat) (h:H[k]? =some ⟨.slice ad n cap,s⟩):R ok w H (.dn k) (.slice ad n cap)
 |iG (k i off b n cap s:Nat) (h:H[k]? =some ⟨.slice (some ⟨b,0,none⟩) n cap,s⟩):R ok w H (.iG k i off) (.pointer (some ⟨b,i*s+off,none⟩))
 |fn (f:Fn) (first cap:List AP) (vs us:Array Value) (hl:vs.size=first.length) (hm:us.size=cap.length) (h:∀i,i<first.length->R ok w H (first.getD i .junk) (vs.getD i undef))
  (h':∀i,i<cap.length->R ok w H (cap.getD i .junk) (us.getD i undef)):R ok w H (.fn f first cap) (.func f vs us)
 |mp (k:Nat) (v:Value) (s:Nat) (hl:v.oneCell'=true) (h:H[k]? =some ⟨v,s⟩):R ok w H (.mp k) v
 |clip (xs:List D) (ad:Option Addr) (h:D8 ok w (.sl xs) (.slice ad xs.length xs.length)):R ok w H (.clip xs) (.slice ad xs.length xs.length)
 |nN (k:Nat) (ad:Option Addr) (n cap s:Nat) (h:H[k]? =some ⟨.slice ad n cap,s⟩):R ok w H (.nN k) (.slice ad n n)
 |gV (xs:List AP) (vs:Array Value) (hl:vs.size=xs.length) (h:∀i,i<xs.length->R ok w H (xs.getD i .junk) (vs.getD i undef)):R ok w H (.gV xs) (.tuple vs)
 |ag (xs:List AP) (vs:Array Value) (hl:vs.size=xs.length) (hf:∀i,i<xs.length->(xs.getD i .junk).leaf=true) (h:∀i,i<xs.length->R ok w H (xs.getD i .junk) (vs.getD i undef)):R ok w H (.ag xs) (.agg vs)
 |junk (v:Value):R ok w H .junk v
def Names (H H':AA BG):Prop:=∀(k:Nat) (v:BG),H[k]? =some v->H'[k]? =some v
def Names.refl (H:AA BG):Names H H:=fun _ _ h=>h
def Names.trans {H H1 H2:AA BG} (h:Names H H1) (k:Names H1 H2):Names H H2:=fun i v j=>k i v (h i v j)
def Names.push (H H':AA BG):Names H (H++H'):=fun k v h=>by
 rw[FP (Ep.1 h).1];exact h
def Gf:=@Names.push
def R.mono {ok ok':Nat->Prop} {w w':Ai} {H H':AA BG} (u:E8 ok w ok' w') (m:Names H H') {x:AP} {v:Af} (h:R ok w H x v):R ok' w' H' x v:=by
 induction h with
 |d x v h=>exact .d x v (h.mono u)
 |ptr k off b s h=>exact .ptr k off b s (m _ _ h)
 |dn k ad n cap s h=>exact .dn k ad n cap s (m _ _ h)
 |iG k i off b n cap s h=>exact .iG k i off b n cap s (m _ _ h)
 |fn f first cap vs us j z _ _ q r=>exact .fn f first cap vs us j z q r
 |mp k v s j h=>exact .mp k v s j (m _ _ h)
 |clip xs ad h=>exact .clip xs ad (h.mono u)
 |nN k ad n cap s h=>exact .nN k ad n cap s (m _ _ h)
 |gV xs vs j _ q=>exact .gV xs vs j q
 |ag xs vs j I _ q=>exact .ag xs vs j I q
 |junk v=>exact .junk v
def R.shrink {ok ok':Nat->Prop} {w:Ai} (r:∀b o,ok b->(w.cell? ⟨b,o,none⟩).isSome=true->ok' b) {H:AA BG} {x:AP} {v:Af} (h:R ok w H x v):R ok' w H x v:=by
 induction h with
 |d x v h=>exact .d x v (h.shrink r)
 |ptr k off b s h=>exact .ptr k off b s h
 |dn k ad n cap s h=>exact .dn k ad n cap s h
 |iG k i off b n cap s h=>exact .iG k i off b n cap s h
 |fn f first cap vs us j u _ _ m q=>exact .fn f first cap vs us j u m q
 |mp k v s j h=>exact .mp k v s j h
 |clip xs ad h=>exact .clip xs ad (h.shrink r)
 |nN k ad n cap s h=>exact .nN k ad n cap s h
 |gV xs vs j _ m=>exact .gV xs vs j m
 |ag xs vs j z _ m=>exact .ag xs vs j z m
 |junk v=>exact .junk v
def R.leaf {ok:Nat->Prop} {w:Ai} {H:AA BG} {x:AP} {v:Af} (h:R ok w H x v) (j:x.leaf=true):v.oneCell'=true:=by
 cases h with
 |d x v h=>exact h.leaf j
 |gV=>simp[AP.leaf]at j
 |ag=>simp[AP.leaf]at j
 |junk=>simp[AP.leaf]at j
 |mp k v s j h=>exact j
 |_=>rfl
def Eo (ok:Nat->Prop) (w:Ai) (H:AA BG) (xs:AA AP) (vs:AA Af):Prop:=
 vs.length=xs.length/\∀i,i<xs.length->(xs.getD i .junk).leaf=true/\R ok w H (xs.getD i .junk) (vs.getD i undef)
def Eo.mono {ok ok':Nat->Prop} {w w':Ai} {H H':AA BG} (m:E8 ok w ok' w') (n:Names H H') {xs:AA AP} {vs:AA Af} (h:Eo ok w H xs vs):Eo ok' w' H' xs vs:=
 ⟨h.1,fun i j=>⟨(h.2 i j).1,(h.2 i j).2.mono m n⟩⟩
def Eo.shrink {ok ok':Nat->Prop} {w:Ai} (m:∀b o,ok b->(w.cell? ⟨b,o,none⟩).isSome=true->ok' b) {H:AA BG} {xs:AA AP} {vs:AA Af} (h:Eo ok w H xs vs):Eo ok' w H xs vs:=
 ⟨h.1,fun i j=>⟨(h.2 i j).1,(h.2 i j).2.shrink m⟩⟩
def Cj (es:AA D):AA AP:=es.flatMap fun x=>x.cells.map .d
def KN (w:Ai) (e:BA) (size:Nat) (v:Af) (n:Nat) (xs:AA Af):Prop:=
 xs.length=n*size/\
 ((v=.slice none 0 0/\n=0)\/
  ∃g cap h,v=.slice (some ⟨g,0,none⟩) n cap/\0<=g/\w.heap[g]? =some (.cells h e (0,0))/\n<=cap/\cap<=maxLen/\cap*size<=h.size/\h.toList.take (n*size)=xs)
def KN.of {w:Ai} {base:Nat} {e:BA} {size:Nat} {v:Af} {n:Nat} {xs:AA Af} (h:w.ownsRow base e size v n xs):KN w e size v n xs:=by
 refine⟨h.1,?_⟩;rcases h.2 with j|⟨g,cap,m,j,I,q,r,s,u,z⟩
 ·exact .inl j
 exact .inr ⟨g,cap,m,j,LG _,q,r,s,Vh u.symm,z⟩
def KN.cells {w:Ai} {e:BA} {size:Nat} {v:Af} {n:Nat} {xs:AA Af} (h:KN w e size v n xs) {g:Nat} (s:v.ownBlock=some g):∀j u,xs[j]? =some u->w.cell? ((⟨g,0,none⟩:Addr).add j)=some u:=by
 intro j u r;rcases h.2 with⟨rfl,_⟩|⟨z,cap,I,rfl,_,J,_,_,_,m⟩
 ·simp[Value.ownBlock]at s
 simp[Value.ownBlock]at s;subst s;have q:(⟨z,0,none⟩:Addr).add j=⟨z,j,none⟩:=by unfold Addr.add;split<;>simp_all
 rw[q,cell_of_row w z j I e (0,0) J];rw[←m,List.getElem?_take]at r;split at r
 ·simpa using r
 cases r
structure Zh (ok:Nat->Prop) (w:World) (es:List (Value×D)) (ms:Array MapEntry) (clock:Nat):Prop where
 len:ms.size=es.length
 ent:∀(i:Nat) (e:Value×D) (m:MapEntry),es[i]? =some e->ms[i]? =some m->m.key=e.1/\D8 ok w e.2 m.val/\m.born<clock
 inc:∀(i j:Nat) (m n:MapEntry),i<j->ms[i]? =some m->ms[j]? =some n->m.born<n.born
def dJ (ms:Aw MapEntry) (clock:Nat):Prop:=clock=ms.size/\∀(i:Nat) (e:MapEntry),ms[i]? =some e->e.born=i
def Dc (ok:Nat->Prop) (w:Ai) (H:AA BG) (h:BG):Ad->Prop
 | .dead=>True
 | .box cs=>∃b vs T,h.v=.pointer (some ⟨b,0,none⟩)/\w.heap[b]? =some (.cells vs T (0,0))/\Eo ok w H cs vs.toList
 | .arr e size es=>h.size=size/\(∀x∈es,x.cells.length=size)/\∃xs,KN w e size h.v es.length xs/\Eo ok w H (Cj es) xs
 | .map es=>∃b ms clock,h.v=.map (some b)/\w.heap[b]? =some (.map ms clock)/\Zh ok w es ms clock
 | .FU es=>∃b ms clock,h.v=.map (some b)/\w.heap[b]? =some (.map ms clock)/\Zh ok w es ms clock/\dJ ms clock
 | .iter es m=>∃bi n ms clock seen,h.v=.pointer (some ⟨bi,0,none⟩)/\w.heap[bi]? =some (.mapIter (some n) clock seen clock)/\ok n/\w.heap[n]? =some (.map ms clock)/\Zh ok w es ms clock/\
  seen.size=m.length/\∀(j i:Nat),m[j]? =some i->∃e,ms[i]? =some e/\seen[j]? =some e.born
 | .loop q slots r st s=>∃l fn D,h.v=.func (.yield l) #[] #[]/\w.heap[l]? =some (.loop { state:=st,pending:=s,fn,tmps:=q,params:=r.1,assign:=r.2.1,body:=r.2.2,defers:=D })/\q.size=slots.length/\∀t,t<slots.length->R ok w H (slots.getD t .junk) (q.getD t undef)
def D5 :Af->AB Nat
 | .pointer (some a)=>some a.block
 | .slice (some a) _ _=>some a.block
 | .map (some b)=>some b
 | .func (.yield l) _ _=>some l
 |_=>none
structure UZ (w0:World) (X:List Nat) (w:World):Prop where
 os:w.os=w0.os
 tape:w.tape=w0.tape
 output:w.output=w0.output
 size:w0.heap.size<=w.heap.size
 block:∀k,k<w0.heap.size->k∉X->w.heap[k]? =w0.heap[k]?
def UZ.refl (w:Ai) (X:AA Nat):UZ w X w:=⟨rfl,rfl,rfl,Gt _,fun _ _ _=>rfl⟩
def UZ.below {w0 w:Ai} (h:UZ w0 [] w):Below w0.heap.size w0 w:=⟨h.os,h.tape,h.output,h.size,fun k j=>h.block k j Bf⟩
structure DZ where
 w0:World
 ok0:Nat->Prop
 X:List Nat
 H0:List BG
structure Cm (C:DZ) (ok:Nat->Prop) (H:List BG) (es:List Ad) (w:World):Prop where
 fr:UZ C.w0 C.X w
 vF:∀b,C.ok0 b->ok b
 vG:∀b,ok b->C.ok0 b\/C.w0.heap.size<=b\/b∈C.X
 oP:∀b,ok b->b<w.heap.size
 names:Names C.H0 H
 hlen:H.length=es.length
 ent:∀(k:Nat) (e:Ad) (h:BG),es[k]? =some e->H[k]? =some h->Dc ok w H h e
 blk:∀(k:Nat) (e:Ad) (h:BG) (b:Nat),es[k]? =some e->e.live=true->H[k]? =some h->D5 h.v=some b->¬ok b/\b<w.heap.size/\(C.w0.heap.size<=b\/b∈C.X)
 Bz:∀(k k':Nat) (e e':Ad) (h h':BG) (b:Nat),es[k]? =some e->es[k']? =some e'->e.live=true->e'.live=true->H[k]? =some h->H[k']? =some h'->D5 h.v=some b->D5 h'.v=some b->k=k'
def Dc.mono {ok ok':Nat->Prop} {w w':Ai} {H H':AA BG} {h:BG} {e:Ad} (I:E8 ok w ok' w') (S:Names H H') (L:e.live=true->∀b,D5 h.v=some b->w'.heap[b]? =w.heap[b]?) (M:Dc ok w H h e):Dc ok' w' H' h e:=by
 cases e with
 |dead=>trivial
 |box cs=>
  obtain⟨b,vs,T,n,q,j⟩:=M;exact⟨b,vs,T,n,iU,j.mono I S⟩
 |arr e s es=>
  obtain⟨n,q,xs,⟨j,z⟩,J⟩:=M;refine⟨n,q,xs,⟨j,?_⟩,J.mono I S⟩;rcases z with z|⟨g,cap,U,O,Y,h8,h9⟩
  ·exact .inl z
  exact .inr ⟨g,cap,U,O,Y,by rw[L rfl g (by rw[O];rfl)];exact h8,h9⟩
 |map es=>
  obtain⟨b,ms,clock,n,q,j⟩:=M;exact⟨b,ms,clock,n,iU,j.len,fun i e m r u=>⟨(j.ent i e m r u).1,(j.ent i e m r u).2.1.mono I,(j.ent i e m r u).2.2⟩,j.inc⟩
 |FU es=>
  obtain⟨b,ms,clock,n,q,j,z⟩:=M;exact⟨b,ms,clock,n,iU,⟨j.len,fun i e m r u=>⟨(j.ent i e m r u).1,(j.ent i e m r u).2.1.mono I,(j.ent i e m r u).2.2⟩,j.inc⟩,z⟩
 |iter es vis=>
  obtain⟨bi,Z,ms,clock,seen,n,q,j,z,J,O,Y⟩:=M;exact⟨bi,Z,ms,clock,seen,n,by rw[L rfl bi mY];exact q,(I Z j).1,by rw[(I Z j).2];exact z,⟨J.len,fun i e m r u=>⟨(J.ent i e m r u).1,(J.ent i e m r u).2.1.mono I,(J.ent i e m r u).2.2⟩,J.inc⟩,O,Y⟩
 |loop tm slots rc st pe=>
  obtain⟨l,fn,D,n,q,j,z⟩:=M;exact⟨l,fn,D,n,by rw[L rfl l mY];exact q,j,fun t ht=>(z t ht).mono I S⟩
def Dc.shrink {ok ok':Nat->Prop} {w:Ai} (I:∀b o,ok b->(w.cell? ⟨b,o,none⟩).isSome=true->ok' b) (M:∀(b:Nat) (ms:Aw MapEntry) (c:Nat),ok b->w.heap[b]? =some (.map ms c)->ok' b) {H:AA BG} {h:BG} {e:Ad} (J:Dc ok w H h e):Dc ok' w H h e:=by
 cases e with
 |dead=>trivial
 |box cs=>
  obtain⟨b,vs,T,n,q,j⟩:=J;exact⟨b,vs,T,n,q,j.shrink I⟩
 |arr e s es=>
  obtain⟨n,q,xs,j,z⟩:=J;exact⟨n,q,xs,j,z.shrink I⟩
 |map es=>
  obtain⟨b,ms,clock,n,q,j⟩:=J;exact⟨b,ms,clock,n,q,j.len,fun i e m r u=>⟨(j.ent i e m r u).1,(j.ent i e m r u).2.1.shrink I,(j.ent i e m r u).2.2⟩,j.inc⟩
 |FU es=>
  obtain⟨b,ms,clock,n,q,j,L⟩:=J;exact⟨b,ms,clock,n,q,⟨j.len,fun i e m r u=>⟨(j.ent i e m r u).1,(j.ent i e m r u).2.1.shrink I,(j.ent i e m r u).2.2⟩,j.inc⟩,L⟩
 |iter es S=>
  obtain⟨bi,O,ms,clock,seen,n,q,j,L,z,U,Y⟩:=J;exact⟨bi,O,ms,clock,seen,n,q,M O ms clock j L,L,⟨z.len,fun i e m r u=>⟨(z.ent i e m r u).1,(z.ent i e m r u).2.1.shrink I,(z.ent i e m r u).2.2⟩,z.inc⟩,U,Y⟩
 |loop tm slots rc st pe=>
  obtain⟨l,fn,D,n,q,j,L⟩:=J;exact⟨l,fn,D,n,q,j,fun t Z=>(L t Z).shrink I⟩
def Dc.drew {ok:Nat->Prop} {w:Ai} {H:AA BG} {h:BG} {e:Ad} {n:Nat} (j:Dc ok w H h e):Dc ok { w with drawn:=n } H h e:=
 Dc.mono (w:=w) (ok:=ok) (fun _ m=>⟨m,rfl⟩) (.refl _) (fun _ _ _=>rfl) j
def BJ (P:BU) (o:Oper) (ns:AA (BD×AP)) (es:AA Ad) (x:AP) (es':AA Ad):Prop:=
 ∀(C:DZ) (ok:Nat->Prop) (H:AA BG) (a:Act) (w:Ai) (Q:Exit->Act->Ai->Prop),
  Cm C ok H es w->(∀n∈ns,R ok w H n.2 (a.eval n.1))->
  o.wp P a w (fun h w'=>∃v ok' H',h=a.put o.dst v/\E8 ok w ok' w'/\Names H H'/\Cm C ok' H' es' w'/\R ok' w' H' x v) Q
def BJ.pure {P:BU} {o:Oper} {ns:AA (BD×AP)} {es:AA Ad} {x:AP}
 (h:∀(ok:Nat->Prop) (H:AA BG) (a:Act) (w:Ai),(∀(k:Nat) (e:Ad) (h:BG),es[k]? =some e->H[k]? =some h->Dc ok w H h e)->H.length=es.length->(∀n∈ns,R ok w H n.2 (a.eval n.1))->∃v,(execOp a.eval o).run P w=.ok (.value v) w/\R ok w H x v):BJ P o ns es x es:=by
 intro C ok H a w Q j m;obtain⟨v,q,r⟩:=h ok H a w j.ent j.hlen m;unfold Oper.wp;rw[q];exact⟨v,ok,H,rfl,.refl _ _,.refl _,j,r⟩
structure Ac where
 slots:List AP
 ents:List Ad
 base:Nat:=0
def Ac.get (σ:Ac):BD->AP
 | .tmp t=>σ.slots.getD t .junk
 | .const v=>.d (.lit v)
 | .global g=>.d (.lit (.pointer (some ⟨g,0,none⟩)))
 | .func f=>.d (.fn (.func f) [] [])
def Ac.put (σ:Ac) (d:AB Tmp) (x:AP) (es:AA Ad):Ac:=
 ⟨match d with |some t=>σ.slots.set t x|none=>σ.slots,es,σ.base⟩
def Ac.kW (σ:Ac) (d:AB Tmp) (x:AP):Ac:=
 ⟨match d with |some t=>σ.slots.set t x|none=>σ.slots,σ.ents,σ.base⟩
def Ac.Nr (σ:Ac) (d:AB Tmp) (x:AP):σ.kW d x=σ.put d x σ.ents:=rfl
def Marks (C:DZ) (ok:Nat->Prop) (w:Ai) (h:AA Deferred):Prop:=
 ∃Ds:AA Nat,h=Ds.map (fun D=>{ target:=.collected D,args:= #[] })/\Ds.Nodup/\∀D∈Ds,ok D/\C.w0.heap.size<=D/\w.heap[D]? =some (.deferred (some []))
def Marks.nil (C:DZ) (ok:Nat->Prop) (w:Ai):Marks C ok w []:=⟨[],rfl,List.nodup_nil,fun _ h=>Ed⟩
def Marks.mono {C:DZ} {ok ok':Nat->Prop} {w w':Ai} {n:AA Deferred} (h:Marks C ok w n) (q:E8 ok w ok' w'):Marks C ok' w' n:=by
 obtain⟨Ds,r,s,j⟩:=h;exact⟨Ds,r,s,fun D m=>⟨(q D (j D m).1).1,(j D m).2.1,((q D (j D m).1).2).trans (j D m).2.2⟩⟩
structure Holds (C:DZ) (ok:Nat->Prop) (H:List BG) (σ:Ac) (a:Act) (w:World):Prop where
 mem:Cm C ok H σ.ents w
 size:a.tmps.size=σ.slots.length
 defers:Marks C ok w a.defers
 base:C.H0.length=σ.base
 slot:∀t,t<σ.slots.length->R ok w H (σ.slots.getD t .junk) (a.tmps.getD t undef)
def YC {l:AA AP} {t:Nat} (h:¬t<l.length):l.getD t .junk=.junk:=by
 simp[List.getD,List.getElem?_eq_none (NR h)]
def Holds.get {C:DZ} {ok:Nat->Prop} {H:AA BG} {σ:Ac} {a:Act} {w:Ai} (h:Holds C ok H σ a w) (x:BD):R ok w H (σ.get x) (a.eval x):=by
 cases x with
 |tmp t=>
  show R ok w H (σ.slots.getD t .junk) (a.tmps.getD t undef);by_cases m:t<σ.slots.length
  ·exact h.slot t m
  rw[YC m];exact .junk _
 |const v=>exact .d _ _ (.lit v)
 |global g=>exact .d _ _ (.lit _)
 |func f=>exact .d _ _ (.fn (.func f) [] [] #[] #[] rfl rfl (fun i j=>NG) (fun i j=>NG))
def Holds.put {C:DZ} {ok ok':Nat->Prop} {H H':AA BG} {σ:Ac} {a:Act} {w w':Ai} (h:Holds C ok H σ a w) (d:AB Tmp) {x:AP} {v:Af} {es':AA Ad}
 (m:E8 ok w ok' w') (r:Names H H') (s:Cm C ok' H' es' w') (u:R ok' w' H' x v):Holds C ok' H' (σ.put d x es') (a.put d v) w':=by
 cases d with
 |none=>exact⟨s,h.size,h.defers.mono m,h.base,fun t j=>(h.slot t j).mono m r⟩
 |some d=>
  refine⟨s,by simp[Ac.put,Act.put,h.size],h.defers.mono m,h.base,fun t j=>?_⟩;simp only[Ac.put,dL]at j;simp only[Ac.put,Act.put];by_cases e:d=t
  ·subst e;have n:(σ.slots.set d x).getD d .junk=x:=MQ
   have q:(a.tmps.setIfInBounds d v).getD d undef=v:=by simp[Array.getD,h.size,j]
   rw[n,q];exact u
  have n:(σ.slots.set d x).getD t .junk=σ.slots.getD t .junk:=by simp[List.getD,Qm e]
  have q:(a.tmps.setIfInBounds d v).getD t undef=a.tmps.getD t undef:=by simp[IV,Ns e]
  rw[n,q];exact(h.slot t j).mono m r
def AP.kF (π:AA (Nat×AO)):AP->AP
 | .d x=>.d x
 | .ptr k off=>match π.idxOf? (k,true)with |some j=>.ptr j off|none=>.junk
 | .dn k=>match π.idxOf? (k,true)with |some j=>.dn j|none=>.junk
 | .iG k i off=>match π.idxOf? (k,true)with |some j=>.iG j i off|none=>.junk
 | .mp k=>match π.idxOf? (k,true)with |some j=>.mp j|none=>.junk
 | .nN k=>match π.idxOf? (k,true)with |some j=>.nN j|none=>.junk
 | .clip xs=>.clip xs
 |_=>.junk
def AP.back (π:AA (Nat×AO)):AP->AP
 | .fn f first cap=>.fn f (first.map (AP.kF π)) (cap.map (AP.kF π))
 | .gV vs=>.gV (vs.map (AP.kF π))
 |x=>x.kF π
def Ad.back (π:AA (Nat×AO)):Ad->Ad
 | .dead=>.dead
 | .box cs=>.box (cs.map (AP.kF π))
 | .arr e s es=>.arr e s es
 | .map es=>.map es
 | .FU es=>.FU es
 | .iter es h=>.iter es h
 | .loop j slots m st n=>.loop j (slots.map (AP.back π)) m st n
def Tf {π:AA (Nat×AO)} {H:AA BG} {k j:Nat} {h:BG} (n:π.idxOf? (k,true)=some j) (q:H[k]? =some h):(π.map fun p=>H.getD p.1 ⟨undef,0⟩)[j]? =some h:=by
 rw[List.idxOf?,oU]at n;obtain⟨m,r, -⟩:=n;have e:π[j]=(k,true):=OZ
 simp[m,e,List.getD,q]
def R.kF {ok:Nat->Prop} {w:Ai} {H:AA BG} (π:AA (Nat×AO)) {x:AP} {v:Af} (h:R ok w H x v):R ok w (π.map fun p=>H.getD p.1 ⟨undef,0⟩) (x.kF π) v:=by
 cases h with
 |d x v h=>exact .d x v h
 |ptr k off b s h=>
  simp only[AP.kF];split<;>rename_i j m
  ·exact .ptr _ off b s (Tf m h)
  exact .junk _
 |dn k ad n cap s h=>
  simp only[AP.kF];split<;>rename_i j m
  ·exact .dn _ ad n cap s (Tf m h)
  exact .junk _
 |iG k i off b n cap s h=>
  simp only[AP.kF];split<;>rename_i j m
  ·exact .iG _ i off b n cap s (Tf m h)
  exact .junk _
 |mp k v s q h=>
  simp only[AP.kF];split<;>rename_i j m
  ·exact .mp _ v s q (Tf m h)
  exact .junk _
 |clip xs ad h=>exact .clip xs ad h
 |nN k ad n cap s h=>
  simp only[AP.kF];split<;>rename_i j m
  ·exact .nN _ ad n cap s (Tf m h)
  exact .junk _
 |fn f first cap vs us q r h h'=>exact .junk _
 |gV xs vs q h=>exact .junk _
 |ag xs vs q u h=>exact .junk _
 |junk v=>exact .junk _
def N8 (f:AP->AP) (l:AA AP) (i:Nat) (h:i<l.length):(l.map f).getD i .junk=f (l.getD i .junk):=by
 simp[List.getD,h]
def R.back {ok:Nat->Prop} {w:Ai} {H:AA BG} (π:AA (Nat×AO)) {x:AP} {v:Af} (h:R ok w H x v):R ok w (π.map fun p=>H.getD p.1 ⟨undef,0⟩) (x.back π) v:=by
 cases h with
 |fn f first cap vs us m q h h'=>
  exact .fn f _ _ vs us (by simp[m]) (by simp[q]) (fun i j=>wL) (fun i j=>by rw[Dn]at j;rw[N8 _ _ _ j];exact(h' i j).kF π)
 |gV xs vs m h=>exact .gV _ vs (by simp[m]) (fun i j=>wL)
 |ag xs vs m r h=>exact .junk _
 |d x v h=>exact(R.d x v h).kF π
 |ptr k off b s h=>exact(R.ptr k off b s h).kF π
 |dn k ad n cap s h=>exact(R.dn k ad n cap s h).kF π
 |iG k i off b n cap s h=>exact(R.iG k i off b n cap s h).kF π
 |mp k v s m h=>exact(R.mp k v s m h).kF π
 |clip xs ad h=>exact(R.clip xs ad h).kF π
 |nN k ad n cap s h=>exact(R.nN k ad n cap s h).kF π
 |junk v=>exact .junk _
def Ad.backOk (π:AA (Nat×AO)):Ad->AO
 | .box cs=>cs.all fun x=>(x.kF π).leaf
 |_=>true
def Lj (base:Nat) (es:AA Ad) (π:AA (Nat×AO)):AO:=
 π.all (fun p=>p.1<es.length)&&decide ((π.filterMap fun p=>if p.2 then some p.1 else none).Nodup)&&((π.take base).map (·.1)==List.range base)&&π.all fun p=>(es.getD p.1 .dead).backOk π
def Ju (es:AA Ad) (π:AA (Nat×AO)):AA Ad:=π.map fun p=>if p.2 then(es.getD p.1 .dead).back π else .dead
def uz :∀{π:AA (Nat×AO)},(π.filterMap fun p=>if p.2 then some p.1 else none).Nodup->∀(i j k:Nat),π[i]? =some (k,true)->π[j]? =some (k,true)->i=j
 | [],_,i,j,k,h,_=>FQ
 |p::π,m,i,j,k,r,s=>by
  have q:∀(n:Nat),π[n]? =some (k,true)->k∈π.filterMap fun p=>if p.2 then some p.1 else none:=fun n h=>by
   rw[Pn];exact⟨_,MC h,rfl⟩
  have u:(π.filterMap fun p=>if p.2 then some p.1 else none).Nodup:=by
   rw[Ov]at m;split at m
   ·exact m
   exact(LQ.1 m).2
  match i,j with
  |0,0=>rfl
  |0,j+1=>
   simp at r s;subst r;simp only[Ov,Kr]at m;exact absurd (q j s) (LQ.1 m).1
  |i+1,0=>
   simp at r s;subst s;simp only[Ov,Kr]at m;exact absurd (q i r) (LQ.1 m).1
  |i+1,j+1=>rw[uz u i j k OZ SG]
def Dc.back {ok:Nat->Prop} {w:Ai} {H:AA BG} {h:BG} {e:Ad} (π:AA (Nat×AO)) (L:e.backOk π=true) (m:Dc ok w H h e):Dc ok w (π.map fun p=>H.getD p.1 ⟨undef,0⟩) h (e.back π):=by
 cases e with
 |dead=>trivial
 |box cs=>
  obtain⟨b,vs,T,n,q,r,u⟩:=m;refine⟨b,vs,T,n,q,OZ,fun i j=>?_⟩;rw[Dn]at j;rw[N8 _ _ _ j];refine⟨?_,(u i j).2.kF π⟩;simp only[Ad.backOk,Dz]at L;exact L _ MQ
 |arr e s es=>
  obtain⟨n,q,xs,r,u,M⟩:=m;refine⟨n,q,xs,r,u,fun i j=>⟨(M i j).1,?_⟩⟩;have z:=(M i j).2;have I:(Cj es).getD i .junk∈Cj es:=MQ
  unfold Cj at I ⊢;simp only[List.mem_flatMap,Pz]at I;obtain⟨x,_,y,_,O⟩:=I;unfold Cj at z;rw[←O]at z ⊢;cases z with |d _ _ h=>exact .d _ _ h
 |map es=>exact m
 |FU es=>exact m
 |iter es S=>exact m
 |loop U slots Y st Z=>
  obtain⟨l,fn,D,n,q,r,u⟩:=m;refine⟨l,fn,D,n,q,OZ,fun t J=>?_⟩;rw[Dn]at J;rw[N8 _ _ _ J];exact(u t J).back π
def mP {π:AA (Nat×AO)} {e:Ad}:(e.back π).live=e.live:=by cases e<;>rfl
def Cm.norm {C:DZ} {ok:Nat->Prop} {H:AA BG} {es:AA Ad} {w:Ai} (I:Cm C ok H es w) (π:AA (Nat×AO)) (M:Lj C.H0.length es π=true):
 Cm C ok (π.map fun p=>H.getD p.1 ⟨undef,0⟩) (Ju es π) w:=by
 unfold Lj at M;simp only[CS,Gj,beq_iff_eq,Dz]at M;obtain⟨⟨⟨hlt,hnd⟩,Y⟩,hbk⟩:=M
 have q:∀(j:Nat) (h:BG),(π.map fun p=>H.getD p.1 ⟨undef,0⟩)[j]? =some h->∃p,π[j]? =some p/\p.1<es.length/\H[p.1]? =some h:=by
  intro j h m;rw[Iw]at m;cases n:π[j]? with
  |none=>rw[n]at m;simp at m
  |some p=>
   rw[n]at m;have r:p.1<es.length:=hlt p (MC n);refine⟨p,rfl,r,?_⟩;have hkH:p.1<H.length:=by rw[I.hlen];exact r
   simp[List.getD,hkH]at m ⊢;exact m
 have s:∀(j:Nat) (p:Nat×AO) (e:Ad),(Ju es π)[j]? =some e->π[j]? =some p->p.1<es.length->(p.2=false/\e=.dead)\/(p.2=true/\∃J,es[p.1]? =some J/\e=J.back π/\p∈π):=by
  intro j p e m n r;unfold Ju at m;rw[Iw,n]at m;cases U:p.2 with
  |false=>simp[U]at m;exact .inl ⟨rfl,m.symm⟩
  |true=>
   simp[U,List.getD,r]at m;exact .inr ⟨rfl,es[p.1],by simp[r],m.symm,MC n⟩
 refine⟨I.fr,I.vF,I.vG,I.oP,?_,by simp[Ju],?_,?_,?_⟩
 ·intro k v hv;have r:k<C.H0.length:=(Ep.1 hv).1;have Z:((π.take C.H0.length).map (·.1))[k]? =some k:=by rw[Y];simp[r]
  rw[Iw,OV r]at Z;have h2:=I.names k v hv;cases n:π[k]? with
  |none=>rw[n]at Z;simp at Z
  |some p=>
   rw[n]at Z;have hpk:p.1=k:=by simpa using Z
   rw[Iw,n];simp[List.getD,hpk,h2]
 ·intro j e h m hh;obtain⟨p,n,r,hH⟩:=q j h hh;rcases s j p e m n r with⟨_,rfl⟩|⟨_,J,u,rfl,z⟩
  ·trivial
  refine(I.ent p.1 J h u hH).back π ?_;have :=hbk p z;simpa[List.getD,u]using this
 ·intro j e h b m O hh U;obtain⟨p,n,r,hH⟩:=q j h hh;rcases s j p e m n r with⟨_,rfl⟩|⟨_,J,u,rfl,z⟩
  ·cases O
  rw[mP]at O;exact I.blk p.1 J h b u O hH U
 intro j j' e e' h h' b m hj' O S hh hh' U hb';obtain⟨p,n,r,hH⟩:=q j h hh;obtain⟨p',hp',hk',hH'⟩:=q j' h' hh';rcases s j p e m n r with⟨_,rfl⟩|⟨hpt,J,u,rfl,z⟩
 ·cases O
 rcases s j' p' e' hj' hp' hk' with⟨_,rfl⟩|⟨L,e0',aa4,rfl,hmem'⟩
 ·cases S
 rw[mP]at O S;have hkk:=I.Bz p.1 p'.1 J e0' h h' b u aa4 O S hH hH' U hb';obtain⟨k,bb⟩:=p;obtain⟨k',bb'⟩:=p';simp only at hkk hpt L;subst hkk;subst hpt;subst L;exact uz hnd j j' k n hp'
def Fv (π:AA (Nat×AO)):AA AO->AA AP->AA AP
 |_,[]=>[]
 |true::m,x::xs=>x.back π::Fv π m xs
 |false::m,_::xs=>.junk::Fv π m xs
 | [],_::xs=>.junk::Fv π [] xs
def Yt (π:AA (Nat×AO)):∀(m:AA AO) (l:AA AP),(Fv π m l).length=l.length
 |_,[]=>by unfold Fv;rfl
 |true::m,x::xs=>by simp[Fv,Yt π m xs]
 |false::m,x::xs=>by simp[Fv,Yt π m xs]
 | [],x::xs=>by simp[Fv,Yt π [] xs]
def YX (π:AA (Nat×AO)):∀(m:AA AO) (l:AA AP) (t:Nat),(Fv π m l).getD t .junk=(l.getD t .junk).back π\/(Fv π m l).getD t .junk=.junk
 |_,[],t=>by unfold Fv;right;simp
 |true::m,x::xs,0=>by left;simp[Fv]
 |false::m,x::xs,0=>by right;simp[Fv]
 | [],x::xs,0=>by right;simp[Fv]
 |true::m,x::xs,t+1=>by simpa[Fv]using YX π m xs t
 |false::m,x::xs,t+1=>by simpa[Fv]using YX π m xs t
 | [],x::xs,t+1=>by simpa[Fv]using YX π [] xs t
def YR (σ S:Ac):Prop:=∃(m:AA AO) (π:AA (Nat×AO)),Lj σ.base σ.ents π=true/\S=⟨Fv π m σ.slots,Ju σ.ents π,σ.base⟩
def Holds.aa5 {C:DZ} {ok:Nat->Prop} {H:AA BG} {σ S:Ac} {a:Act} {w:Ai} (h:Holds C ok H σ a w) (n:YR σ S):∃H',Holds C ok H' S a w:=by
 obtain⟨m,π,j,rfl⟩:=n;refine⟨π.map fun p=>H.getD p.1 ⟨undef,0⟩,h.mem.norm π (h.base▸j),by simp[Yt,h.size],h.defers,h.base,fun t q=>?_⟩;rcases YX π m σ.slots t with e|e
 ·simp only[e];exact(h.get (.tmp t)).back π
 simp only[e];exact .junk _
def DI (σ S:Ac):Prop:=∀(C:DZ) (ok:Nat->Prop) (H:AA BG) (a:Act) (w:Ai),Holds C ok H σ a w->∃ok' H',Holds C ok' H' S a w
def YR.sub {σ S:Ac} (h:YR σ S):DI σ S:=fun _ ok _ _ _ j=>let⟨H',h'⟩:=j.aa5 h;⟨ok,H',h'⟩
section
variable {P:BU} {ops:Aw Oper} {Q:Exit->Act->Ai->Prop}
def toCome (h:Aw AO):Nat:=(h.toList.filter (!·)).length
def toCome_set {j:Aw AO} {i:Nat} (m:i<j.size) (h:j.getD i true=false):toCome (j.setIfInBounds i true)+1=toCome j:=by
 unfold toCome;have n:j.toList[i]' PS=false:=by simpa[Array.getD,m]using h
 have e:j.toList=j.toList.take i++false::j.toList.drop (i+1):=by
  rw[←n,List.getElem_cons_drop,dz]
 have q:(j.setIfInBounds i true).toList=j.toList.take i++true::j.toList.drop (i+1):=by
  rw[qK,wB,EX PS]
 rw[q]
 conv=>rhs;rw[e]
 simp[List.filter_append];omega
def written (ops:Aw Oper):AA Tmp:=ops.toList.filterMap (·.dst)
def Ve (ops:Aw Oper):AO:=(List.range ops.size).all fun i=>(List.range ops.size).all fun j=>i==j||match(ops[i]?).bind (·.dst),(ops[j]?).bind (·.dst)with
 |some d,some h=>d != h
 |_,_=>true
def YA (ops:Aw Oper) (n:Nat):AO:=(written ops).all fun d=>d<n
def aeI (h:Ve ops=true):∀(i j:Nat) (o m:Oper) (d:Tmp),ops[i]? =some o->ops[j]? =some m->o.dst=some d->m.dst=some d->i=j:=by
 intro i j o m d n q r s;unfold Ve at h;rw[Dz]at h;have u:i<ops.size:=(JD.1 n).1;have z:j<ops.size:=(JD.1 q).1;have :=h i Pv;rw[Dz]at this;have :=this j (by simpa using z);rw[n,q]at this;simp[r,s]at this;exact this
def zJ {i:Nat} {o:Oper} {d:Tmp} (h:ops[i]? =some o) (hd:o.dst=some d):d∈written ops:=by
 unfold written;rw[Pn]
 exact⟨o,by
  have⟨j,m⟩:=JD.1 h
  rw[←m];exact Array.getElem_mem_toList j,hd⟩
def afP {a:Act} {d:Tmp} {v:Af} (h:d<a.tmps.size):(a.put (some d) v).tmps.getD d undef=v:=by
 simp[Act.put,Array.getD,h]
def afw {a:Act} {d t:Tmp} {v:Af} (h:d≠t):(a.put (some d) v).tmps.getD t undef=a.tmps.getD t undef:=by
 simp[Act.put,IV,Ns h]
def size_put {a:Act} {d:AB Tmp} {v:Af}:(a.put d v).tmps.size=a.tmps.size:=by cases d<;>simp[Act.put]
def agN {a:Act} {d:AB Tmp} {v:Af}:(a.put d v).defers=a.defers:=by cases d<;>rfl
end
def N7 (ops:Aw Oper) (σ:Ac) (g:AB (Nat×AO)):Prop:=g=none\/
 ∃j h d b,g=some (j,h)/\(ops[j]?).bind (·.dst)=some d/\σ.slots.getD d .junk=.d (.lit (.bool b))/\b=h
def OB (ops:Aw Oper) (σ:Ac) (g:AB (Nat×AO)):Prop:=
 ∃j h d v,g=some (j,h)/\(ops[j]?).bind (·.dst)=some d/\σ.slots.getD d .junk=.d (.lit v)/\(v=.bool (!h)\/v=undef)
def afq {ops:Aw Oper} {σ:Ac} {g:AB (Nat×AO)} (j:Nat) (h:AO) (d:Nat) (b:AO) (m:g=some (j,h)) (hd:(ops[j]?).bind (·.dst)=some d) (n:σ.slots.getD d .junk=.d (.lit (.bool b))) (q:b= !h):OB ops σ g:=⟨j,h,d,_,m,hd,n,.inl (by rw[q])⟩
def yF {ops:Aw Oper} {σ:Ac} {g:AB (Nat×AO)} (j:Nat) (h:AO) (d:Nat) (m:g=some (j,h)) (hd:(ops[j]?).bind (·.dst)=some d) (n:σ.slots.getD d .junk=.d (.lit undef)):OB ops σ g:=⟨j,h,d,_,m,hd,n,.inr rfl⟩
def R.bool {ok:Nat->Prop} {w:Ai} {H:AA BG} {u v:Af} (h:R ok w H (.d (.lit u)) v):v=u:=by
 cases h with |d _ _ h=>cases h;rfl
def acM {C:DZ} {ok:Nat->Prop} {H:AA BG} {σ:Ac} {a:Act} {w:Ai} (h:Holds C ok H σ a w) {ops:Aw Oper} {j d:Nat} {v:Af}
 (q:(ops[j]?).bind (·.dst)=some d) (m:σ.slots.getD d .junk=.d (.lit v)):yielded ops a.tmps j=(match v with | .bool b=>some b|_=>none):=by
 have hd:d<σ.slots.length:=by
  apply TW;intro r;rw[YC r]at m;cases m
 have n:=(m▸h.slot d hd).bool
 have s:a.tmps[d]? =some v:=by
  have :d<a.tmps.size:=by rw[h.size];exact hd
  simp[Array.getD,this]at n;simp[this,n]
 unfold yielded;rw[q];simp only[AX,s];cases v<;>rfl
def ag2 {C:DZ} {ok:Nat->Prop} {H:AA BG} {σ:Ac} {a:Act} {w:Ai} (h:Holds C ok H σ a w) {ops:Aw Oper} {j d:Nat} {b:AO}
 (q:(ops[j]?).bind (·.dst)=some d) (m:σ.slots.getD d .junk=.d (.lit (.bool b))):yielded ops a.tmps j=some b:=by
 have hd:d<σ.slots.length:=by
  apply TW;intro r;rw[YC r]at m;cases m
 have n:=(m▸h.slot d hd).bool
 have s:a.tmps[d]? =some (.bool b):=by
  have :d<a.tmps.size:=by rw[h.size];exact hd
  simp[Array.getD,this]at n;simp[this,n]
 unfold yielded;rw[q];simp only[AX,s]
def RH {C:DZ} {ok:Nat->Prop} {H:AA BG} {σ:Ac} {a:Act} {w:Ai} (h:Holds C ok H σ a w) {ops:Aw Oper} {o:Oper} (m:N7 ops σ o.guard):Region.wanted o (yielded ops a.tmps)=true:=by
 unfold Region.wanted;rcases m with m|⟨j,n,d,b,m,q,r,rfl⟩
 ·rw[m]
 rw[m];show(yielded ops a.tmps j==some b)=true;rw[ag2 h q r];simp
def eP {C:DZ} {ok:Nat->Prop} {H:AA BG} {σ:Ac} {a:Act} {w:Ai} (h:Holds C ok H σ a w) {ops:Aw Oper} {o:Oper} (n:OB ops σ o.guard):Region.wanted o (yielded ops a.tmps)=false:=by
 unfold Region.wanted;obtain⟨j,m,d,v,n,q,r,s⟩:=n;rw[n];show(yielded ops a.tmps j==some m)=false;rw[acM h q r];rcases s with rfl|rfl
 ·simp
 rfl
def needs (σ:Ac):AA (BD×AP)->Prop
 | []=>True
 |n::ns=>σ.get n.1=n.2/\needs σ ns
def OC {σ:Ac}:∀{ns:AA (BD×AP)},needs σ ns->∀n∈ns,σ.get n.1=n.2
 | [],_,n,h=>FQ
 |m::ns,j,n,h=>by
  rcases Hz.1 h with rfl|h
  ·exact j.1
  exact OC j.2 n h
def tmpsOf (o:Oper):AA Tmp:=o.op.operands.toList.filterMap fun | .tmp t=>some t|_=>none
def Hg (ns:AA (BD×AP)):AA Tmp:=ns.filterMap fun n=>match n.1 with | .tmp t=>some t|_=>none
def KO (P:BU) (ops:Aw Oper) (σ:Ac) (x:AP) (E:AA Ad) (bar:AO) (o:Oper):Prop:=
 ((∃ns,BJ P o ns σ.ents x E/\needs σ ns/\(Hg ns).all (tmpsOf o).contains=true/\N7 ops σ o.guard)\/(x=.d (.lit undef)/\E=σ.ents/\OB ops σ o.guard))/\(bar=false->E=σ.ents)
def rW {P:BU} {ops:Aw Oper} {σ:Ac} {x:AP} {o:Oper} {ns:AA (BD×AP)} (h:BJ P o ns σ.ents x σ.ents) (j:needs σ ns) (m:N7 ops σ o.guard) (n:(Hg ns).all (tmpsOf o).contains=true):KO P ops σ x σ.ents false o:=
 ⟨.inl ⟨ns,h,j,n,m⟩,fun _=>rfl⟩
def IJ (ro:AB Nat):Fence:={ fn:=fun _=>True,depth:=none,alive:=false,round:=ro }
def ZO {ro:AB Nat} {n:Nat} {P:BU} {f:FuncId} {args:Aw Af} {w:Ai} {R:Ending->Ai->Prop}:CallsIn (IJ ro) n P f args w R↔Calls P f args w R:=
 callsIn_wide (n:=n)
def agJ {ro:AB Nat} {n:Nat} {P:BU} {j:String} {args:Aw Af} {w:Ai} {R:Af->Ai->Prop} (h:Rows P j args w R):RowsIn (IJ ro) n P j args w R:=
 fun c cs _=>let⟨v,w',r,s⟩:=h c cs;⟨v,w',r,(stepsIn_wide (P:=P)).2 s⟩
def BJ.XW {P:BU} {o:Oper} {ns:AA (BD×AP)} {es es':AA Ad} {x:AP} (h:BJ P o ns es x es') {C:DZ} {ok:Nat->Prop} {H:AA BG} {a:Act} {w:Ai} (q:Cm C ok H es w) (r:∀n∈ns,R ok w H n.2 (a.eval n.1)):∀c,o.op≠ .defer c:=by
 intro c s;have j:=h C ok H a w (fun _ _ _=>False) q r;unfold Oper.wp execOp at j;rw[s]at j;simp only[EN]at j;cases m:(resolve a.eval c o.type).run P w with
 |ok d w'=>
  rw[m]at j;simp only[Result.andThen]at j;obtain⟨v,_,_,u,_⟩:=j;have :=CO (fun a=>a.defers.length) u;cases z:o.dst<;>simp[Act.put,z]at this
 |halt x w'=>
  rw[m]at j;cases x<;>exact j
def BJ.P7 {P:BU} {o:Oper} {ns:AA (BD×AP)} {es es':AA Ad} {x:AP} (h:BJ P o ns es x es') (ro:AB Nat) (C:DZ) (ok:Nat->Prop) (H:AA BG) (a:Act) (w:Ai) (Q:Exit->Act->Ai->Prop)
 (m:Cm C ok H es w) (q:∀n∈ns,R ok w H n.2 (a.eval n.1)):
 o.wpIn (IJ ro) 0 P a w (fun s w'=>∃v ok' H',s=a.put o.dst v/\E8 ok w ok' w'/\Names H H'/\Cm C ok' H' es' w'/\R ok' w' H' x v) Q:=by
 have j:=h C ok H a w Q m q;refine⟨fun _ _=>trivial,?_⟩;rw[Oper.semAt_eq _ _ _ (h.XW m q)];unfold Oper.wp at j;generalize(execOp a.eval o).run P w=r at j;cases r with
 |ok n w'=>
  cases n<;>first
   |exact j
   |exact j.elim
   |exact⟨fun h=>Ed,ZO.2 j⟩
   |exact⟨fun h=>Ed,agJ j⟩
 |halt x w'=>cases x<;>exact j
inductive Chain (P:Program) (ops:Array Oper):List Oper->Ac->Ac->Prop
 |nil (σ:Ac):Chain P ops [] σ σ
 |op {o:Oper} {rest:List Oper} {σ σ':Ac} {ns:List (Operand×AP)} {x:AP} (d:Option Tmp) (h:BJ P o ns σ.ents x σ.ents) (hn:needs σ ns) (hg:N7 ops σ o.guard) (hd:o.dst=d)
  (k:Chain P ops rest (σ.kW d x) σ'):Chain P ops (o::rest) σ σ'
 |oe {o:Oper} {rest:List Oper} {σ σ':Ac} {ns:List (Operand×AP)} {x:AP} {es':List Ad} (d:Option Tmp) (E:List Ad) (h:BJ P o ns σ.ents x es') (he:es'=E) (hn:needs σ ns) (hg:N7 ops σ o.guard) (hd:o.dst=d)
  (k:Chain P ops rest (σ.put d x E) σ'):Chain P ops (o::rest) σ σ'
 |skip {o:Oper} {rest:List Oper} {σ σ':Ac} (d:Option Tmp) (hg:OB ops σ o.guard) (hd:o.dst=d) (k:Chain P ops rest (σ.kW d (.d (.lit undef))) σ'):Chain P ops (o::rest) σ σ'
 |any {o:Oper} {rest:List Oper} {σ σ':Ac} {x:AP} (d:Option Tmp) (h:KO P ops σ x σ.ents false o) (hd:o.dst=d) (k:Chain P ops rest (σ.kW d x) σ'):Chain P ops (o::rest) σ σ'
 |J8 {o:Oper} {rest:List Oper} {σ σ':Ac} {x:AP} {E:List Ad} {bar:Bool} (d:Option Tmp) (h:KO P ops σ x E bar o) (hd:o.dst=d) (k:Chain P ops rest (σ.put d x E) σ'):Chain P ops (o::rest) σ σ'
 |conv {rest:List Oper} {σ σ':Ac} (σ2:Ac) (h:∀C ok H a w,Holds C ok H σ a w->∃ok',Holds C ok' H σ2 a w) (k:Chain P ops rest σ2 σ'):Chain P ops rest σ σ'
def Chain.sound {P:BU} {ops:Aw Oper} {l:AA Oper} {σ σ':Ac} (h:Chain P ops l σ σ') {ro:AB Nat} {C:DZ} {H0:AA BG} {Q:Exit->Act->Ai->Prop}:
 ∀{ok:Nat->Prop} {H:AA BG} {a:Act} {w:Ai},Holds C ok H σ a w->Names H0 H->(∀ok' H' S w',Holds C ok' H' σ' S w'->Names H0 H'->Q .normal S w')->wpListIn (IJ ro) 0 P ops Q l a w:=by
 induction h with
 |nil σ=>intro ok H a w j J r;exact r ok H a w j J
 | @op o rest σ σ' ns x d L J z hd k I=>
   intro ok H a w j m r;subst hd;unfold wpListIn;rw[EX (RH j z)];refine PU ?_ (L.P7 ro C ok H a w Q j.mem (fun n s=>OC J n s▸j.get n.1));rintro S w' ⟨v,ok',H',rfl,u,q,M,O⟩;exact I (j.put o.dst u q M O) (m.trans q) r
 | @oe o rest σ σ' ns x es' d E L Z J z hd k I=>
   intro ok H a w j m r;subst hd;subst Z;unfold wpListIn;rw[EX (RH j z)];refine PU ?_ (L.P7 ro C ok H a w Q j.mem (fun n s=>OC J n s▸j.get n.1));rintro S w' ⟨v,ok',H',rfl,u,q,M,O⟩;exact I (j.put o.dst u q M O) (m.trans q) r
 | @skip o rest σ σ' d z hd k I=>
   intro ok H a w j m r;subst hd;unfold wpListIn;rw[EW kE];exact⟨fun _ _=>trivial,I (j.put o.dst (.refl _ _) (.refl _) j.mem (.d _ _ (.lit _))) m r⟩
 | @any o rest σ σ' x d U hd k I=>
   intro ok H a w j m r;subst hd;unfold wpListIn;rcases U.1 with⟨ns,L,J,_,z⟩|⟨rfl,_,z⟩
   ·rw[EX (RH j z)];refine PU ?_ (L.P7 ro C ok H a w Q j.mem (fun n s=>OC J n s▸j.get n.1));rintro S w' ⟨v,ok',H',rfl,u,q,M,O⟩;exact I (j.put o.dst u q M O) (m.trans q) r
   rw[EW kE];exact⟨fun _ _=>trivial,I (j.put o.dst (.refl _ _) (.refl _) j.mem (.d _ _ (.lit _))) m r⟩
 | @J8 o rest σ σ' x E bar d U hd k I=>
   intro ok H a w j m r;subst hd;unfold wpListIn;rcases U.1 with⟨ns,L,J,_,z⟩|⟨rfl,rfl,z⟩
   ·rw[EX (RH j z)];refine PU ?_ (L.P7 ro C ok H a w Q j.mem (fun n s=>OC J n s▸j.get n.1));rintro S w' ⟨v,ok',H',rfl,u,q,M,O⟩;exact I (j.put o.dst u q M O) (m.trans q) r
   rw[EW kE];exact⟨fun _ _=>trivial,I (j.put o.dst (.refl _ _) (.refl _) j.mem (.d _ _ (.lit _))) m r⟩
 |conv σ2 hc k I=>
  intro ok H a w j m r;obtain⟨ok',Y⟩:=hc C ok H a w j;exact I Y m r
def KI :Code->AO
 | .seq a b=>KI a&&KI b
 | .cond _ a b=>KI a&&KI b
 | .block _ a=>KI a
 | .loop a=>KI a
 | .scope a=>KI a
 | .rangeFunc .. =>false
 |_=>true
def U8 (ro:AB Nat) (c:Code):Prop:=ro=none\/KI c=true
def U8.two {ro:AB Nat} {c x y:Code} (h:U8 ro c) (e:KI c=(KI x&&KI y)):U8 ro x/\U8 ro y:=by
 rcases h with h|h
 ·exact⟨.inl h,.inl h⟩
 rw[e,CS]at h;exact⟨.inr h.1,.inr h.2⟩
def abr (P:BU) (c:Code) (σ:Ac) (Q:Exit->Ac->Prop):Prop:=
 ∀(ro:AB Nat),U8 ro c->∀(C:DZ) (ok:Nat->Prop) (H:AA BG) (a:Act) (w:Ai),Holds C ok H σ a w->c.wpIn (IJ ro) 0 P (fun e h w'=>∃ok' H' σ',Holds C ok' H' σ' h w'/\Q e σ') a w
structure BK (P:Program) (c:Code) (σ:Ac) (Q:Exit->Ac->Prop):Prop where
 run:abr P c σ Q
section
variable {P:BU} {σ σ':Ac} {Q:Exit->Ac->Prop}
def BK.mono {c:Code} {Q':Exit->Ac->Prop} (h:BK P c σ Q) (j:∀e σ,Q e σ->Q' e σ):BK P c σ Q':=
 ⟨fun ro m C ok H a w n=>Rs (h.run ro m C ok H a w n) fun _ _ _ ⟨ok',H',σ',q,r⟩=>⟨ok',H',σ',q,j _ _ r⟩⟩
def BK.region {id:Nat} {ops:Aw Oper} (h:Chain P ops ops.toList σ σ') (j:Q .normal σ'):BK P (.region id ops false) σ Q:=⟨fun ro _ C ok H a w m=>
 wpIn_region_list (h.sound m (.refl H) fun ok' H' q w' n _=>⟨ok',H',σ',n,j⟩)⟩
def BK.skip (h:Q .normal σ):BK P .skip σ Q:=⟨fun _ _ _ ok H a w j=>wpIn_skip ⟨ok,H,σ,j,h⟩⟩
def BK.exit {i:Nat} (h:Q (.exit i) σ):BK P (.exit i) σ Q:=⟨fun _ _ _ ok H a w j=>wpIn_exit ⟨ok,H,σ,j,h⟩⟩
def FB:=@BK.exit
def BK.ret (h:Q .ret σ):BK P .ret σ Q:=⟨fun _ _ _ ok H a w j=>wpIn_ret ⟨ok,H,σ,j,h⟩⟩
def J4:=@BK.ret
def Gv (K:Ac->Prop) (Q:Exit->Ac->Prop):Exit->Ac->Prop
 | .normal,σ=>K σ
 |e,σ=>Q e σ
def BK.seq {x y:Code} (K:Ac->Prop) (n:BK P x σ (Gv K Q)) (q:∀σ',K σ'->BK P y σ' Q):BK P (.seq x y) σ Q:=⟨fun ro h C ok H a w r=>
 wpIn_seq (Rs (n.run ro (h.two rfl).1 C ok H a w r) (by
  rintro e s w' ⟨ok',H',σ',j,m⟩;cases e with
  |normal=>exact(q σ' m).run ro (h.two rfl).2 C ok' H' s w' j
  |_=>exact⟨ok',H',σ',j,m⟩))⟩
def BK.seq1 {x y:Code} (h:Ac) (j:BK P x σ (Gv (fun σ'=>σ'=h) Q)) (m:BK P y h Q):BK P (.seq x y) σ Q:=BK.seq _ j (fun _ e=>e▸m)
def BK.cond {c:BD} {x y:Code} (b:AO) (n:σ.get c=.d (.lit (.bool b))) (q:b=true->BK P x σ Q) (r:b=false->BK P y σ Q):BK P (.cond c x y) σ Q:=by
 refine⟨fun ro m C ok H a w j=>?_⟩;have e:=(n▸j.get c).bool;exact wpIn_cond_split e (fun h=>(q h).run ro (m.two rfl).1 C ok H a w j) (fun h=>(r h).run ro (m.two rfl).2 C ok H a w j)
def qU (i:Nat) (Q:Exit->Ac->Prop):Exit->Ac->Prop
 | .exit j,σ=>if j=i then Q .normal σ else Q (.exit j) σ
 |e,σ=>Q e σ
def BK.block {i:Nat} {c:Code} (h:BK P c σ (qU i Q)):BK P (.block i c) σ Q:=⟨fun ro r C ok H a w s=>
 wpIn_block (Rs (h.run ro r C ok H a w s) (by
  rintro e u w' ⟨ok',H',σ',n,m⟩;cases e with
  |exit j=>
   show if j=i then _ else _
   simp only[qU]at m;split<;>rename_i q
   ·rw[EX q]at m;exact⟨ok',H',σ',n,m⟩
   rw[EW q]at m;exact⟨ok',H',σ',n,m⟩
  |_=>exact⟨ok',H',σ',n,m⟩))⟩
def BP:=@BK.block
def afa {ro:AB Nat} {P:BU} {Q:Exit->Act->Ai->Prop} {c:Code} (I:Nat->Act->Ai->Prop)
 (round:∀n a w,I n a w->c.wpIn (IJ ro) 0 P (Exit.then (fun q w'=>∃m,m<n/\I m q w') Q) a w):∀n a w,I n a w->(Code.loop c).wpIn (IJ ro) 0 P Q a w:=by
 intro n a w S b k cs u z J
 have key:∀n a w,I n a w->∃e q w',Q e q w'/\ArrivesIn (Machine.fenced P (IJ ro)) P (lone (b.atR a (.code c::.inLoop c::k)) cs w) b k cs e q w':=by
  intro n
  induction n using Nat.strongRecOn with
  |_ n U=>
   intro a w Y;obtain⟨e,r,s,h,harr⟩:=round n a w Y b (.inLoop c::k) cs u z J;cases e with
   |normal=>
    obtain⟨m,L,M⟩:=h;obtain⟨Z,a₂,w₂,O,j⟩:=U m L r s M;exact⟨Z,a₂,w₂,O,.of_steps (StepsIn.trans harr (.one (fenced_calm z J rfl) stepR_inLoop)) j⟩
   |exit id=>exact⟨_,r,s,h,.pass (x:=.inLoop c) rfl (fun _ _=>.inl Bf) harr⟩
   |goto l=>exact⟨_,r,s,h,.pass (x:=.inLoop c) rfl (fun _ _=>.inl Bf) harr⟩
   |ret=>exact⟨_,r,s,h,.pass (x:=.inLoop c) rfl (fun _ _=>.inl Bf) harr⟩
   |panic ch=>exact⟨_,r,s,h,.pass (x:=.inLoop c) rfl (fun _ _=>.inl Bf) harr⟩
   |outgrown=>exact⟨_,r,s,h,.pass (x:=.inLoop c) rfl (fun _ _=>.inl Bf) harr⟩
 obtain⟨e,q,w',h,harr⟩:=key n a w S;exact⟨e,q,w',h,.of_steps (.one (fenced_calm z J rfl) stepR_loop) harr⟩
def BK.loop {c:Code} (I:Nat->Ac->Prop) (n:Nat) (h:I n σ) (round:∀n σ,I n σ->BK P c σ (Gv (fun σ'=>∃m,m<n/\I m σ') Q)):BK P (.loop c) σ Q:=by
 refine⟨fun ro u C ok H a w j=>?_⟩;refine afa (fun n a w=>∃ok H σ,Holds C ok H σ a w/\I n σ) ?_ n a w ⟨ok,H,σ,j,h⟩;rintro n a w ⟨ok,H,σ,j,z⟩;refine Rs ((round n σ z).run ro u C ok H a w j) ?_;rintro e L w' ⟨ok',H',σ',r,s⟩;cases e with
 |normal=>obtain⟨m,J,q⟩:=s;exact⟨m,J,ok',H',σ',r,q⟩
 |_=>exact⟨ok',H',σ',r,s⟩
end
def BK.sub {P:BU} {σ S:Ac} {Q:Exit->Ac->Prop} {c:Code} (j:DI σ S) (h:BK P c S Q):BK P c σ Q:=⟨fun ro m C ok H a w n=>by
 obtain⟨ok',H',h'⟩:=j C ok H a w n
 exact h.run ro m C ok' H' a w h'⟩
def Dk:=@BK.sub
section
variable {P:BU} {ops:Aw Oper} {Q:Exit->Act->Ai->Prop}
def mW {F:Fence} {n:Nat} (I:Aw AO->Act->Ai->Prop) (j:∀l a w,I l a w->l.size=ops.size)
 (r:∀l a w,I l a w->∀i,i∈Region.ready .any ops l->wpOpIn F n P ops Q i (fun L w'=>I (l.setIfInBounds i true) L w') a w)
 (q:∀l a w,I l a w->Region.ready .any ops l=[]->Q .normal a w):
 ∀(Am:Nat) l a w,toCome l<=Am->I l a w->wpAnyIn F n P .any ops Q Am l a w:=by
 intro Am
 induction Am with
 |zero=>
  intro l a w M u
  have O:Region.ready .any ops l=[]:=by
   unfold Region.ready;rw[List.filter_eq_nil_iff];intro i z;have s:i<l.size:=by rw[j l a w u];simpa using z
   have S:l.toList.filter (!·)=[]:=IG (by unfold toCome at M;omega);rw[List.filter_eq_nil_iff]at S;have :=S (l[i]) Bf;have J:l[i]=true:=by simpa using this
   simp[Array.getD,s,J]
  exact⟨O,q l a w u O⟩
 |succ Am U=>
  intro l a w M u;refine⟨q l a w u,fun i z=>?_⟩;have m:=z;unfold Region.ready at m;rw[Si]at m;have s:i<l.size:=by rw[j l a w u];simpa using m.1
  have Y:l.getD i true=false:=by
   have :=m.2;simp only[CS,RQ]at this;exact this.1
  have Z:=toCome_set s Y;exact wpOpIn_mono (fun L w' h=>U _ L w' AL h) (r l a w u i z)
end
def G8 (o:Oper) (j:Nat):AO:=o.after.toList.any fun e=>e.on=j&&Region.binds .any e
def U7 (ops:Aw Oper):AO:=(List.range ops.size).all fun i=>match ops[i]? with
 |some o=>((List.range ops.size).all fun j=>match(ops[j]?).bind (·.dst)with
  |some d=> !(tmpsOf o).contains d||G8 o j||(match ops[j]? with |some h=>G8 h i|none=>false)
  |none=>true)&&(match o.guard with |some (j,_)=>G8 o j|none=>true)
 |none=>true
inductive DL (P:Program) (ops:Array Oper):List Oper->Ac->List AP->List (List Ad)->List Bool->Ac->Prop
 |nil (σ:Ac):DL P ops [] σ [] [] [] σ
 |op {o:Oper} {rest:List Oper} {σ σ':Ac} {ns:List (Operand×AP)} {x:AP} {rs:List AP} {ess:List (List Ad)} {bs:List Bool} (d:Option Tmp) (h:BJ P o ns σ.ents x σ.ents) (hn:needs σ ns)
  (hg:N7 ops σ o.guard) (hd:o.dst=d) (ht:(Hg ns).all (tmpsOf o).contains=true) (k:DL P ops rest (σ.kW d x) rs ess bs σ'):DL P ops (o::rest) σ (x::rs) (σ.ents::ess) (false::bs) σ'
 |oe {o:Oper} {rest:List Oper} {σ σ':Ac} {ns:List (Operand×AP)} {x:AP} {es':List Ad} {rs:List AP} {ess:List (List Ad)} {bs:List Bool} (d:Option Tmp) (E:List Ad) (h:BJ P o ns σ.ents x es') (he:es'=E) (hn:needs σ ns)
  (hg:N7 ops σ o.guard) (hd:o.dst=d) (ht:(Hg ns).all (tmpsOf o).contains=true) (k:DL P ops rest (σ.put d x E) rs ess bs σ'):DL P ops (o::rest) σ (x::rs) (E::ess) (true::bs) σ'
 |any {o:Oper} {rest:List Oper} {σ σ':Ac} {x:AP} {rs:List AP} {ess:List (List Ad)} {bs:List Bool} (d:Option Tmp) (h:KO P ops σ x σ.ents false o) (hd:o.dst=d) (k:DL P ops rest (σ.kW d x) rs ess bs σ'):DL P ops (o::rest) σ (x::rs) (σ.ents::ess) (false::bs) σ'
 |J8 {o:Oper} {rest:List Oper} {σ σ':Ac} {x:AP} {E:List Ad} {bar:Bool} {rs:List AP} {ess:List (List Ad)} {bs:List Bool} (d:Option Tmp) (h:KO P ops σ x E bar o) (hd:o.dst=d) (k:DL P ops rest (σ.put d x E) rs ess bs σ'):DL P ops (o::rest) σ (x::rs) (E::ess) (bar::bs) σ'
 |skip {o:Oper} {rest:List Oper} {σ σ':Ac} {rs:List AP} {ess:List (List Ad)} {bs:List Bool} (d:Option Tmp) (hg:OB ops σ o.guard) (hd:o.dst=d) (k:DL P ops rest (σ.kW d (.d (.lit undef))) rs ess bs σ'):DL P ops (o::rest) σ (.d (.lit undef)::rs) (σ.ents::ess) (false::bs) σ'
section
variable {P:BU} {ops:Aw Oper} {es:AA Ad}
def Du (ops:Aw Oper) (σ0:Ac) (r:Nat->AP) (ev:Nat->AA Ad):Nat->Ac
 |0=>σ0
 |i+1=>match ops[i]? with
  |some o=>(Du ops σ0 r ev i).put o.dst (r i) (ev i)
  |none=>Du ops σ0 r ev i
def DL.Ze (N:Nat) {l:AA Oper} {σ σ':Ac} {rs:AA AP} {ess:AA (AA Ad)} {bs:AA AO} (h:DL P ops l σ rs ess bs σ') (σ0:Ac) (r:Nat->AP) (ev:Nat->AA Ad) (bar:Nat->AO):∀i,(∀k:Nat,k<l.length->l[k]? =ops[i+k]?)->i+l.length=N->σ=Du ops σ0 r ev i->
 (∀(k:Nat) y,rs[k]? =some y->r (i+k)=y)->(∀(k:Nat) y,ess[k]? =some y->ev (i+k)=y)->(∀(k:Nat) y,bs[k]? =some y->bar (i+k)=y)->
 (∀j (o:Oper),i<=j->j<N->ops[j]? =some o->KO P ops (Du ops σ0 r ev j) (r j) (ev j) (bar j) o)/\σ'=Du ops σ0 r ev N:=by
 induction h with
 |nil σ=>
  intro i I u s J _ _;have :i=N:=Pv
  subst this;exact⟨fun j o S z ho=>AL,s⟩
 | @op o rest σ σ' ns x rs ess bs d ho hn hg hd ht k Y=>
   intro i I u s J L U;subst hd;have M:ops[i]? =some o:=V6
   have O:r i=x:=Y9
   have n:ev i=σ.ents:=dc
   obtain⟨Z,h2⟩:=Y (i+1) (fun k hk=>TL) U4 (by
    rw[Ac.Nr];simp only[Du,M,O,n];rw[←s]) (fun k y q=>VB)
    (fun k y q=>VE) (fun k y q=>V3)
   refine⟨fun j o' S z m=>?_,h2⟩;by_cases e:i=j
   ·subst e;rw[M]at m;obtain rfl:=DU m;exact⟨.inl ⟨ns,by rw[O,n,←s];exact ho,s▸hn,ht,s▸hg⟩,fun _=>by rw[n,←s]⟩
   exact Z j o' AL z m
 | @oe o rest σ σ' ns x es' rs ess bs d E ho hE hn hg hd ht k Y=>
   intro i I u s J L U;subst hd;subst hE;have M:ops[i]? =some o:=V6
   have O:r i=x:=Y9
   have n:ev i=es':=by simpa using L 0 es' Bf
   have hbr:bar i=true:=by simpa using U 0 true Bf
   obtain⟨Z,h2⟩:=Y (i+1) (fun k hk=>TL) U4 (by
    simp only[Du,M,O,n];rw[←s]) (fun k y q=>VB)
    (fun k y q=>VE) (fun k y q=>V3)
   refine⟨fun j o' S z m=>?_,h2⟩;by_cases e:i=j
   ·subst e;rw[M]at m;obtain rfl:=DU m;exact⟨.inl ⟨ns,by rw[O,n,←s];exact ho,s▸hn,ht,s▸hg⟩,fun hf=>by rw[hbr]at hf;cases hf⟩
   exact Z j o' AL z m
 | @any o rest σ σ' x rs ess bs d hs hd k Y=>
   intro i I u s J L U;subst hd;have M:ops[i]? =some o:=V6
   have O:r i=x:=Y9
   have n:ev i=σ.ents:=dc
   obtain⟨Z,h2⟩:=Y (i+1) (fun k hk=>TL) U4 (by
    rw[Ac.Nr];simp only[Du,M,O,n];rw[←s]) (fun k y q=>VB)
    (fun k y q=>VE) (fun k y q=>V3)
   refine⟨fun j o' S z m=>?_,h2⟩;by_cases e:i=j
   ·subst e;rw[M]at m;obtain rfl:=DU m;refine⟨?_,fun _=>by rw[n,←s]⟩;rw[O,n,←s];exact hs.1
   exact Z j o' AL z m
 | @J8 o rest σ σ' x E br rs ess bs d hs hd k Y=>
   intro i I u s J L U;subst hd;have M:ops[i]? =some o:=V6
   have O:r i=x:=Y9
   have n:ev i=E:=by simpa using L 0 E Bf
   have hbr:bar i=br:=by simpa using U 0 br Bf
   obtain⟨Z,h2⟩:=Y (i+1) (fun k hk=>TL) U4 (by
    simp only[Du,M,O,n];rw[←s]) (fun k y q=>VB)
    (fun k y q=>VE) (fun k y q=>V3)
   refine⟨fun j o' S z m=>?_,h2⟩;by_cases e:i=j
   ·subst e;rw[M]at m;obtain rfl:=DU m;rw[O,n,hbr,←s];exact hs
   exact Z j o' AL z m
 | @skip o rest σ σ' rs ess bs d hg hd k Y=>
   intro i I u s J L U;subst hd;have M:ops[i]? =some o:=V6
   have O:r i=.d (.lit undef):=by simpa using J 0 (.d (.lit undef)) Bf
   have n:ev i=σ.ents:=dc
   obtain⟨Z,h2⟩:=Y (i+1) (fun k hk=>TL) U4 (by
    rw[Ac.Nr];simp only[Du,M,O,n];rw[←s]) (fun k y q=>VB)
    (fun k y q=>VE) (fun k y q=>V3)
   refine⟨fun j o' S z m=>?_,h2⟩;by_cases e:i=j
   ·subst e;rw[M]at m;obtain rfl:=DU m;exact⟨.inr ⟨O,by rw[n,←s],s▸hg⟩,fun _=>by rw[n,←s]⟩
   exact Z j o' AL z m
def DL.facts {l:AA Oper} {σ σ':Ac} {rs:AA AP} {ess:AA (AA Ad)} {bs:AA AO} (h:DL P ops l σ rs ess bs σ') (σ0:Ac) (r:Nat->AP) (ev:Nat->AA Ad) (bar:Nat->AO):∀i,(∀k:Nat,l[k]? =ops[i+k]?)->i+l.length=ops.size->σ=Du ops σ0 r ev i->
 (∀(k:Nat) y,rs[k]? =some y->r (i+k)=y)->(∀(k:Nat) y,ess[k]? =some y->ev (i+k)=y)->(∀(k:Nat) y,bs[k]? =some y->bar (i+k)=y)->
 (∀j (o:Oper),i<=j->ops[j]? =some o->KO P ops (Du ops σ0 r ev j) (r j) (ev j) (bar j) o)/\σ'=Du ops σ0 r ev ops.size:=by
 intro i s m u z I J;obtain⟨L,M⟩:=h.Ze ops.size σ0 r ev bar i (fun k _=>s k) m u z I J;exact⟨fun j o n q=>L j o n (JD.1 q).1 q,M⟩
def X7 {σ0:Ac} {r:Nat->AP} {ev:Nat->AA Ad} {t:Nat}:∀i,(∀j (o:Oper),j<i->ops[j]? =some o->o.dst≠some t)->(Du ops σ0 r ev i).slots.getD t .junk=σ0.slots.getD t .junk
 |0,_=>rfl
 |i+1,h=>by
  have m:=X7 (σ0:=σ0) (r:=r) (ev:=ev) i (fun j o u n=>h j o AL n);simp only[Du];split
  ·rename_i o n;have q:=h i o AL n;cases hd:o.dst with
   |none=>exact m
   |some d=>
    have s:d≠t:=fun e=>q (by rw[hd,e]);show((Du ops σ0 r ev i).slots.set d (r i)).getD t .junk=_;rw[←m];simp[List.getD,Qm s]
  exact m
def Qo {σ0:Ac} {r:Nat->AP} {ev:Nat->AA Ad}:∀i,(Du ops σ0 r ev i).slots.length=σ0.slots.length
 |0=>rfl
 |i+1=>by
  simp only[Du];split
  ·rename_i o h;cases hd:o.dst with
   |none=>exact Qo i
   |some d=>show((Du ops σ0 r ev i).slots.set d (r i)).length=_;rw[dL];exact Qo i
  exact Qo i
def Vw {σ0:Ac} {r:Nat->AP} {ev:Nat->AA Ad}:∀i,(Du ops σ0 r ev i).base=σ0.base
 |0=>rfl
 |i+1=>by
  simp only[Du];split
  ·exact Vw i
  exact Vw i
def WS {σ0:Ac} {r:Nat->AP} {ev:Nat->AA Ad} (m:∀(i j:Nat) (o n:Oper) (d:Tmp),ops[i]? =some o->ops[j]? =some n->o.dst=some d->n.dst=some d->i=j) {t j:Nat} {o:Oper} (q:ops[j]? =some o) (hd:o.dst=some t) (J:t<σ0.slots.length):
 ∀i,j<i->(Du ops σ0 r ev i).slots.getD t .junk=r j
 |0,h=>AL
 |i+1,h=>by
  by_cases e:j=i
  ·subst e;simp only[Du,q,hd];have L:t<(Du ops σ0 r ev j).slots.length:=by rw[Qo];exact J
   show((Du ops σ0 r ev j).slots.set t (r j)).getD t .junk=_;simp[List.getD,L]
  have s:=WS (r:=r) (ev:=ev) m q hd J i AL;simp only[Du];split
  ·rename_i n u;cases z:n.dst with
   |none=>exact s
   |some d=>
    have I:d≠t:=fun e'=>e (m j i o n t q u hd (by rw[z,e']));show((Du ops σ0 r ev i).slots.set d (r i)).getD t .junk=_;rw[←s];simp[List.getD,Qm I]
  exact s
def acQ (h:U7 ops=true):∀(i:Nat) (o:Oper),ops[i]? =some o->(∀(j:Nat) (q:Oper) (d:Tmp),ops[j]? =some q->q.dst=some d->d∈tmpsOf o->G8 o j=true\/G8 q i=true)/\(∀j b,o.guard=some (j,b)->G8 o j=true):=by
 intro i o s;unfold U7 at h;rw[Dz]at h;have u:i<ops.size:=(JD.1 s).1;have r:=h i Pv;rw[s]at r;simp only[CS,Dz]at r;refine⟨fun j q d n hd z=>?_,fun j b I=>?_⟩
 ·have J:j<ops.size:=(JD.1 n).1;have m:=r.1 j YO;rw[n]at m;simp only[AX,hd,cG,RQ]at m;rcases m with(m|m)|m
  ·have :(tmpsOf o).contains d=true:=by simpa using z
   rw[this]at m;cases m
  ·exact .inl m
  exact .inr m
 have m:=r.2;rw[I]at m;exact m
def Yi (ops:Aw Oper) (bs:AA AO):AO:=(List.range ops.size).all fun i=> !(bs.getD i false)||
 (((List.range i).all fun j=>(List.range (i+1)).any fun m=>j<m&&(match ops[m]? with |some o=>G8 o j|none=>false))&&
  ((List.range ops.size).all fun k=> !decide (i<k)||(List.range k).any fun m=>i<=m&&(match ops[k]? with |some o=>G8 o m|none=>false)))
def Ty (ops:Aw Oper):AO:=(List.range ops.size).all fun i=>match ops[i]? with
 |some o=>o.after.toList.all fun(e:Edge)=> !Region.binds .any e||(e.on<i)
 |none=>true
def aed (h:Ty ops=true):∀(i:Nat) (o:Oper),ops[i]? =some o->∀e∈o.after.toList,Region.binds .any e=true->e.on<i:=by
 intro i o j e m n;unfold Ty at h;rw[Dz]at h;have q:i<ops.size:=(JD.1 j).1;have :=h i JL;rw[j]at this;rw[Dz]at this;have :=this e m;simpa[n]using this
def MP (ops:Aw Oper) (bs:AA AO) (sl:AA Nat):AO:=(List.range ops.size).all fun i=> !(bs.getD i false)||(!sl.contains i&&
 ((List.range i).all fun j=>sl.contains j||(List.range (i+1)).any fun m=>(decide (j<m)&& !sl.contains m)&&(match ops[m]? with |some o=>G8 o j|none=>false))&&
  ((List.range ops.size).all fun k=> !decide (i<k)||(List.range k).any fun m=>i<=m&&(match ops[k]? with |some o=>G8 o m|none=>false)))
def kV {bs:AA AO} {sl:AA Nat} (h:MP ops bs sl=true) {i:Nat} (O:i<ops.size) (S:bs.getD i false=true) {D:Nat->Prop} (hd:∀(j:Nat) (o:Oper),ops[j]? =some o->D j->∀m,G8 o m=true->D m)
 (U:∀(o:Oper),ops[i]? =some o->∀m,G8 o m=true->D m):∀j,j<i->sl.contains j=false->D j:=by
 unfold MP at h;rw[Dz]at h;have I:=h i (by simpa using O);simp only[S,EU,LD,CS,Dz]at I
 have key:∀n j,i-j<=n->j<i->sl.contains j=false->D j:=by
  intro n
  induction n with
  |zero=>intro j Y J _;omega
  |succ n Z=>
   intro j Y J q;have L:=I.1.2 j YO;rw[q,LD,O4]at L;obtain⟨m,hm,M⟩:=L;simp only[iZ]at hm;simp only[CS,Gj,RQ]at M;obtain⟨⟨h6,r⟩,s⟩:=M;have u:m<ops.size:=AL
   have z:ops[m]? =some ops[m]:=Qj
   rw[z]at s;by_cases e:m=i
   ·subst e;exact U _ z j s
   exact hd m _ z (Z m AL AL r) j s
 exact fun j hj hs=>key (i-j) j (Gt _) hj hs
def aaR {bs:AA AO} {sl:AA Nat} (h:MP ops bs sl=true) {i:Nat} (O:i<ops.size) (S:bs.getD i false=true) {D:Nat->Prop} (hd:∀(j:Nat) (o:Oper),ops[j]? =some o->D j->∀m,G8 o m=true->D m):
 ∀k,i<k->∀(o:Oper),ops[k]? =some o->(∀m,G8 o m=true->D m)->D i:=by
 unfold MP at h;rw[Dz]at h;have z:=h i (by simpa using O);simp only[S,EU,LD,CS,Dz]at z;intro k
 induction k using Nat.strongRecOn with
 |_ k U=>
  intro s o I n;have Y:k<ops.size:=(JD.1 I).1;have J:=z.2 k (by simpa using Y);simp only[s,decide_true,EU,LD,O4]at J;obtain⟨m,L,M⟩:=J;simp only[iZ]at L;simp only[CS,Gj,I]at M;obtain⟨h6,Z⟩:=M;have q:=n m Z;by_cases e:m=i
  ·subst e;exact q
  have u:m<ops.size:=AL
  have r:ops[m]? =some ops[m]:=Qj
  exact U m L AL _ r (hd m _ r q)
def xg {bs:AA AO} {sl:AA Nat} (h:MP ops bs sl=true) {i:Nat} (m:i<ops.size) (n:bs.getD i false=true):sl.contains i=false:=by
 unfold MP at h;rw[Dz]at h;have j:=h i PS;simp only[n,EU,LD,CS,RQ]at j;exact j.1.1
def BK.aar {id:Nat} {σ σ':Ac} {Q:Exit->Ac->Prop} {rs:AA AP} {ess:AA (AA Ad)} {bs:AA AO} (hm:P.follows .mixedOrders=true) (L:(Ty ops&&Ve ops&&YA ops σ.slots.length&&U7 ops)=true) (sl:AA Nat) (M:MP ops bs sl=true)
 (h:DL P ops ops.toList σ rs ess bs σ')
 (hsl:∀i,i∈sl->bs.getD i false=false/\∀m,i<=m->m<=ops.size->∀o,ops[i]? =some o->KO P ops ⟨(Du ops σ (fun i=>rs.getD i .junk) (fun i=>ess.getD i []) i).slots,(Du ops σ (fun i=>rs.getD i .junk) (fun i=>ess.getD i []) m).ents,σ.base⟩ (rs.getD i .junk) (Du ops σ (fun i=>rs.getD i .junk) (fun i=>ess.getD i []) m).ents false o) (hQ:Q .normal σ'):BK P (.region id ops true) σ Q:=by
 refine⟨fun ro _ C ok H a w hh=>?_⟩;simp only[CS]at L;obtain⟨⟨⟨he,hd⟩,hs⟩,hc⟩:=L;have TN:=aed he;have hinj:=aeI hd;have L:=acQ hc
 have PE:∀(i:Nat) (o:Oper) (d:Tmp),ops[i]? =some o->o.dst=some d->d<σ.slots.length:=by
  intro i o d h1 h2;unfold YA at hs;rw[Dz]at hs;simpa using hs d (zJ h1 h2)
 let r:Nat->AP:=fun i=>rs.getD i .junk
 let ev:Nat->AA Ad:=fun i=>ess.getD i []
 let bar:Nat->AO:=fun i=>bs.getD i false
 obtain⟨P9,hend⟩:=h.facts σ r ev bar 0 (fun k=>Bf) Bf rfl (fun k y hy=>by simp[r,List.getD,hy]) (fun k y hy=>by simp[ev,List.getD,hy]) (fun k y hy=>by simp[bar,List.getD,hy])
 let U:Nat->Ac:=Du ops σ r ev
 have hU:∀i,i<ops.size->(U (i+1)).ents=ev i:=by
  intro i hi;have J:ops[i]? =some ops[i]:=by simp[hi]
  show(Du ops σ r ev (i+1)).ents=_;simp only[Du,J];rfl
 have hconst:∀n lo,(∀b,lo<=b->b<lo+n->bar b=false)->lo+n<=ops.size->(U (lo+n)).ents=(U lo).ents:=by
  intro n
  induction n with
  |zero=>intro lo _ _;rfl
  |succ n ih=>
   intro lo u hle;have h1:=ih lo (fun b h1 h2=>u b h1 AL) AL;have hi:lo+n<ops.size:=AL
   have J:ops[lo+n]? =some ops[lo+n]:=by simp[hi]
   have h2:=(P9 (lo+n) _ AL J).2 (u (lo+n) AL AL);rw[←Ld,hU _ hi,h2];exact h1
 have O:∀lo hi,lo<=hi->hi<=ops.size->(∀b,lo<=b->b<hi->bar b=false)->(U hi).ents=(U lo).ents:=by
  intro lo hi h1 h2 h3;obtain⟨n,rfl⟩:=Nat.exists_eq_add_of_le h1;exact hconst n lo h3 h2
 refine wpIn_region_any hm ?_
 let I:Aw AO->Act->Ai->Prop:=fun l a w=>l.size=ops.size/\∃ok H m,m<=ops.size/\(∀b,bar b=true->b<ops.size->(l.getD b false=true↔b<m))/\Cm C ok H (U m).ents w/\a.tmps.size=σ.slots.length/\Marks C ok w a.defers/\
  (∀t,t<σ.slots.length->(∀(j:Nat) (o:Oper),ops[j]? =some o->o.dst=some t->l.getD j false=false)->R ok w H (σ.slots.getD t .junk) (a.tmps.getD t undef))/\
  (∀(i:Nat) (o:Oper) (d:Tmp),ops[i]? =some o->o.dst=some d->l.getD i false=true->R ok w H (r i) (a.tmps.getD d undef))/\
  (∀(j:Nat) (o:Oper),ops[j]? =some o->l.getD j false=true->∀i,G8 o i=true->l.getD i false=true)
 refine mW I (fun l a w h=>h.1) ?_ ?_ ops.size _ _ _ ?_ ?_
 ·rintro l a w ⟨h1,ok,H,m,Qa,z,hmem0,hsz,hdf,h5,h6,h7⟩ i hi;unfold Region.ready at hi;rw[Si]at hi;obtain⟨hi1,hi2⟩:=hi;have hi':i<ops.size:=by simpa using hi1
  have J:ops[i]? =some ops[i]:=by simp[hi']
  simp only[CS]at hi2;have TP:=hi2.2;rw[J]at TP;simp only[Ic,RF]at TP;have Zf:=fun e he=>(NU.1 TP) e he
  have S:∀j,G8 ops[i] j=true->l.getD j false=true/\j<i:=by
   intro j s;unfold G8 at s;rw[O4]at s;obtain⟨e,hee,s⟩:=s;simp only[CS,Gj]at s;have :=Zf e (by simpa using hee);simp only[s.2,EU,LD]at this;rw[s.1]at this;exact⟨this,s.1▸TN i _ J e hee s.2⟩
  have Y:l.getD i false=false:=by
   have h8:=hi2.1;have hil:i<l.size:=AL
   simp[Array.getD,hil]at h8 ⊢;exact h8
  have Nu:∀(j:Nat) (o:Oper),ops[j]? =some o->l.getD j false=true->∀m,G8 o m=true->l.getD m false=true:=fun j o s hl m hm=>h7 j o s hl m hm
  have hEi:(i<=m->sl.contains i=false)->(U i).ents=(U m).ents:=fun hns=>by
   by_cases him:i<=m
   ·refine(O i m him Qa (fun b h2 h3=>?_)).symm;rw[←VL];intro u;have hbl:=(z b u AL).2 h3;by_cases e:b=i
    ·subst e;rw[Y]at hbl;cases hbl
    have :=kV M (show b<ops.size by omega) u (D:=fun j=>l.getD j false=true) Nu (fun o J m hm=>Nu b o J hbl m hm) i AL (hns him);rw[Y]at this;cases this
   refine O m i AL AL (fun b h2 h3=>?_);rw[←VL];intro u;have :=aaR M (show b<ops.size by omega) u (D:=fun j=>l.getD j false=true) Nu i h3 _ J (fun m hm=>(S m hm).1);exact absurd ((z b u AL).1 this) AL
  obtain⟨E0,E1,Z,hfact,hE1,hE2⟩:∃E0 E1,Cm C ok H E0 w/\KO P ops ⟨(U i).slots,E0,σ.base⟩ (r i) E1 (bar i) ops[i]/\(bar i=false->E1=(U m).ents)/\(bar i=true->E1=ev i):=by
   by_cases hs:i<=m/\i∈sl
   ·have h9:=hsl i hs.2;refine⟨(U m).ents,(U m).ents,hmem0,?_,fun _=>rfl,fun u=>?_⟩
    ·rw[show bar i=false from h9.1];exact h9.2 m hs.1 Qa _ J
    rw[show bar i=false from h9.1]at u;cases u
   have hE:=hEi (fun him=>by
    rw[←VL]
    intro hc;exact hs ⟨him,by simpa using hc⟩)
   refine⟨(U i).ents,ev i,by rw[hE];exact hmem0,?_,fun u=>?_,fun _=>rfl⟩
   ·have hf:=P9 i ops[i] AL J;have hbase:(U i).base=σ.base:=Vw i;have :U i=⟨(U i).slots,(U i).ents,σ.base⟩:=by rw[←hbase]
    exact this▸hf
   rw[(P9 i _ AL J).2 u];exact hE
  have hread:∀t,t∈tmpsOf ops[i]->R ok w H ((Du ops σ r ev i).slots.getD t .junk) (a.tmps.getD t undef):=by
   intro t ht;by_cases hw:∃(j:Nat) (o:Oper),ops[j]? =some o/\o.dst=some t
   ·obtain⟨j,o,s,q⟩:=hw;rcases(L i _ J).1 j o t s q ht with hce|hce
    ·obtain⟨hdj,hji⟩:=S j hce;rw[WS hinj s q (PE j o t s q) i hji];exact h6 j o t s q hdj
    have hij:i<j:=by
     unfold G8 at hce;rw[O4]at hce;obtain⟨e,hee,hce⟩:=hce;simp only[CS,Gj]at hce;exact hce.1▸TN j _ s e hee hce.2
    rw[X7 i (fun j' o' hj' ho' hd'=>by have :=hinj j j' o o' t s ho' q hd';omega)];refine h5 t (PE j o t s q) (fun j' o' ho' hd'=>?_);have hjj:=hinj j j' o o' t s ho' q hd';subst hjj;rw[←VL];intro hd;rw[h7 j o s hd i hce]at Y;cases Y
   have hw':∀(j:Nat) (o:Oper),ops[j]? =some o->o.dst≠some t:=fun j o h1 h2=>hw ⟨j,o,h1,h2⟩;rw[X7 i (fun j o _ s=>hw' j o s)];by_cases htn:t<σ.slots.length
   ·exact h5 t htn (fun j o s q=>absurd q (hw' j o s))
   rw[YC htn];exact .junk _
  have U5:∀j d v,G8 ops[i] j=true->(ops[j]?).bind (·.dst)=some d->(Du ops σ r ev i).slots.getD d .junk=.d (.lit v)->yielded ops a.tmps j=(match v with | .bool b=>some b|_=>none):=by
   intro j d v s q u;cases hoj:ops[j]? with
   |none=>rw[hoj]at q;simp at q
   |some oj=>
    rw[hoj]at q;simp only[AX]at q;obtain⟨hdj,hji⟩:=S j s;have hdn:=PE j oj d hoj q;rw[WS hinj hoj q hdn i hji]at u;have hv:=(u▸h6 j oj d hoj q hdj).bool
    have hs:a.tmps[d]? =some v:=by
     have :d<a.tmps.size:=by rw[hsz];exact hdn
     simp[Array.getD,this]at hv;simp[this,hv]
    unfold yielded;rw[hoj];simp only[AX,q,hs];cases v<;>rfl
  have hput:∀(x:AP) (v:Af) (ok':Nat->Prop) (H':AA BG) (w':Ai),x=r i->E8 ok w ok' w'->Names H H'->Cm C ok' H' E1 w'->R ok' w' H' x v->I (l.setIfInBounds i true) (a.put ops[i].dst v) w':=by
   intro x v ok' H' w' hx hgr hnm hmem' hR;subst hx
   have hother:∀(d t:Nat),ops[i].dst=some d->d≠t->(a.put ops[i].dst v).tmps.getD t undef=a.tmps.getD t undef:=by
    intro d t hd hne;rw[hd];exact afw hne
   obtain⟨m',aas,XY,aat⟩:∃m',m'<=ops.size/\(∀b,bar b=true->b<ops.size->((l.setIfInBounds i true).getD b false=true↔b<m'))/\Cm C ok' H' (U m').ents w':=by
    have hget:∀b,b≠i->(l.setIfInBounds i true).getD b false=l.getD b false:=fun b u=>by
     simp only[IV,Ns (Ne.symm u)]
    have aau:(l.setIfInBounds i true).getD i false=true:=by simp[Array.getD,h1,hi']
    cases hbi:bar i with
    |false=>
     refine⟨m,Qa,fun b u hbs=>?_,?_⟩
     ·have hne:b≠i:=fun e=>by subst e;rw[hbi]at u;cases u
      rw[hget b hne];exact z b u hbs
     rw[←hE1 hbi];exact hmem'
    |true=>
     refine⟨i+1,AL,fun b u hbs=>?_,by rw[hU i hi',←hE2 hbi];exact hmem'⟩;by_cases e:b=i
     ·subst e;rw[aau];simp
     rw[hget b e];constructor
     ·intro hbl;apply TW;intro hn;have :=kV M hbs u (D:=fun j=>l.getD j false=true) Nu (fun o J m hm=>Nu b o J hbl m hm) i AL (xg M hi' hbi);rw[Y]at this;cases this
     intro hlt;exact kV M hi' hbi (D:=fun j=>l.getD j false=true) Nu (fun o ho' m hm=>by rw[J]at ho';obtain rfl:=DU ho';exact(S m hm).1) b AL (xg M hbs u)
   refine⟨by simp[h1],ok',H',m',aas,XY,aat,by rw[size_put];exact hsz,by rw[agN];exact hdf.mono hgr,?_,?_,?_⟩
   ·intro t ht hno
    have hne:ops[i].dst≠some t:=by
     intro e;have :=hno i _ J e;simp[Array.getD,h1,hi']at this
    have hold:(a.put ops[i].dst v).tmps.getD t undef=a.tmps.getD t undef:=by
     cases hdi:ops[i].dst with
     |none=>rfl
     |some d=>exact hdi▸hother d t hdi (fun e=>hne (by rw[hdi,e]))
    rw[hold];refine(h5 t ht (fun j o s q=>?_)).mono hgr hnm;have hij:i≠j:=fun e=>by subst e;rw[J]at s;obtain rfl:=DU s;exact hne q
    have :=hno j o s q;simpa only[IV,Ns hij]using this
   ·intro k o d hk hkd hl;by_cases hik:i=k
    ·subst hik;rw[J]at hk;obtain rfl:=DU hk;rw[hkd,afP (by rw[hsz];exact PE i _ d J hkd)];exact hR
    have hl':l.getD k false=true:=by
     simp only[IV,Ns hik]at hl ⊢;exact hl
    have :=(h6 k o d hk hkd hl').mono hgr hnm;cases hdst:ops[i].dst with
    |none=>exact this
    |some d'=>
     have hne:d'≠d:=fun e=>hik (hinj i k _ _ d' J hk hdst (e▸hkd));rw[←hdst,hother d' d hdst hne];exact this
   intro j o s hl k hk;have hil:i<l.size:=AL
   by_cases hik:i=k
   ·subst hik;simp[Array.getD,hil]
   have hkk:l.getD k false=true:=by
    by_cases hij:i=j
    ·subst hij;rw[J]at s;obtain rfl:=DU s;exact(S k hk).1
    have hl':l.getD j false=true:=by
     simp only[IV,Ns hij]at hl ⊢;exact hl
    exact h7 j o s hl' k hk
   simp only[IV,Ns hik]at hkk ⊢;exact hkk
  unfold wpOpIn;rw[J];show if Region.wanted ops[i] (yielded ops a.tmps)=true then _ else _
  rcases hfact.1 with⟨ns,hop,TQ,hnt,hg⟩|⟨hx,hev,hg⟩
  ·have hwant:Region.wanted ops[i] (yielded ops a.tmps)=true:=by
    unfold Region.wanted;rcases hg with hg|⟨j,want,d,b,hg,s,u,rfl⟩
    ·rw[hg]
    rw[hg];show(yielded ops a.tmps j==some b)=true;rw[U5 j d _ ((L i _ J).2 j b hg) s u];simp
   rw[EX hwant];refine PU ?_ (hop.P7 ro C ok H a w _ Z (fun n hn=>?_))
   ·rintro a' w' ⟨v,ok',H',rfl,hgr,hnn,hm',hx⟩;exact hput _ v ok' H' w' rfl hgr hnn hm' hx
   have hnv:=OC TQ n hn;obtain⟨x,y⟩:=n;simp only at hnv ⊢;subst hnv;cases x with
   |tmp t=>
    refine hread t ?_;rw[Dz]at hnt
    have :t∈Hg ns:=by
     unfold Hg;rw[Pn];exact⟨_,hn,rfl⟩
    simpa using hnt t this
   |const v=>exact .d _ _ (.lit v)
   |global g=>exact .d _ _ (.lit _)
   |func f=>exact .d _ _ (.fn (.func f) [] [] #[] #[] rfl rfl (fun i hi=>by simp at hi) (fun i hi=>by simp at hi))
  have hwant:Region.wanted ops[i] (yielded ops a.tmps)=false:=by
   unfold Region.wanted;obtain⟨j,want,d,v,hg,s,u,hv⟩:=hg;rw[hg];show(yielded ops a.tmps j==some want)=false;rw[U5 j d _ ((L i _ J).2 j want hg) s u];rcases hv with rfl|rfl
   ·simp
   rfl
  rw[EW (by rw[hwant];simp)];exact⟨fun _ _=>trivial,hput _ _ ok H w hx.symm (.refl _ _) (.refl _) (by rw[hev];exact Z) (.d _ _ (.lit _))⟩
 ·rintro l a w ⟨h1,ok,H,m,Qa,z,Z,hsz,hdf,h5,h6,h7⟩ hr
  have hall:∀n i,i<n->i<ops.size->l.getD i false=true:=by
   intro n
   induction n with
   |zero=>intro i hi;omega
   |succ n ih=>
    intro i hi hi2;by_cases hn:i<n
    ·exact ih i hn hi2
    have hin:i=n:=AL
    subst hin;rw[←Bool.not_eq_false];intro hf;have J:ops[i]? =some ops[i]:=by simp[hi2]
    have Z:i∈Region.ready .any ops l:=by
     unfold Region.ready;rw[Si];refine⟨by simpa using hi2,?_⟩;have hil:i<l.size:=AL
     have hf':l.getD i true=false:=uY
     rw[hf',J];simp only[Rt,F8,Ic,RF];rw[NU];intro e he;cases hbe:Region.binds .any e with
     |false=>simp
     |true=>
      have hlt:=TN i _ J e (by simpa using he) hbe;rw[ih e.on AL AL];simp
    rw[hr]at Z;simp at Z
  refine⟨ok,H,σ',?_,hQ⟩;subst hend
  have hE:(U ops.size).ents=(U m).ents:=O m ops.size Qa (Gt _) (fun b h2 h3=>by
   rw[←VL];intro u
   exact absurd ((z b u h3).1 (hall (b+1) b AL h3)) AL)
  refine⟨by show Cm C ok H (U ops.size).ents w;rw[hE];exact Z,by rw[Qo];exact hsz,hdf,by rw[Vw];exact hh.base,fun t ht=>?_⟩;rw[Qo]at ht;by_cases hw:∃(j:Nat) (o:Oper),ops[j]? =some o/\o.dst=some t
  ·obtain⟨j,o,s,q⟩:=hw;have hjn:j<ops.size:=(JD.1 s).1;rw[WS hinj s q ht ops.size hjn];exact h6 j o t s q (hall (j+1) j AL hjn)
  have hw':∀(j:Nat) (o:Oper),ops[j]? =some o->o.dst≠some t:=fun j o h1 h2=>hw ⟨j,o,h1,h2⟩;rw[X7 ops.size (fun j o _ s=>hw' j o s)];exact h5 t ht (fun j o s q=>absurd q (hw' j o s))
 ·unfold toCome;simp
 refine⟨Bf,ok,H,0,LG _,fun b u _=>by simp[Array.getD],?_,hh.size,hh.defers.mono (fun b u=>⟨u,rfl⟩),fun t ht _=>?_,fun i o d _ _ hl=>?_,fun j o _ hl=>?_⟩
 ·exact⟨⟨hh.mem.fr.os,hh.mem.fr.tape,hh.mem.fr.output,hh.mem.fr.size,hh.mem.fr.block⟩,hh.mem.vF,hh.mem.vG,hh.mem.oP,hh.mem.names,hh.mem.hlen,fun k e h h1 h2=>(hh.mem.ent k e h h1 h2).drew,hh.mem.blk,hh.mem.Bz⟩
 ·exact R.mono (w:=w) (ok:=ok) (w':={ w with drawn:=w.drawn+1 }) (fun b u=>⟨u,rfl⟩) (.refl _) (hh.slot t ht)
 ·simp[Array.getD]at hl
 simp[Array.getD]at hl
def ag1 {bs:AA AO} (h:Yi ops bs=true):MP ops bs []=true:=by
 unfold MP;unfold Yi at h;simpa using h
def BK.draw {id:Nat} {σ σ':Ac} {Q:Exit->Ac->Prop} {rs:AA AP} {ess:AA (AA Ad)} {bs:AA AO} (n:P.follows .mixedOrders=true) (j:(Ty ops&&Ve ops&&YA ops σ.slots.length&&U7 ops)=true) (m:Yi ops bs=true)
 (h:DL P ops ops.toList σ rs ess bs σ') (q:Q .normal σ'):BK P (.region id ops true) σ Q:=
 BK.aar n j [] (ag1 m) h (fun _ r=>absurd r LW) q
def Fr:=@BK.draw
end
def DN (P:BU) (f:FuncId) (args:AA AP) (E:AA Ad) (j:AP) (E':AA Ad):Prop:=
 ∀(ok:Nat->Prop) (X:AA Nat) (H:AA BG) (w:Ai) (h:Aw Af),Cm ⟨w,ok,X,H⟩ ok H E w->h.size=args.length->(∀i,i<args.length->R ok w H (args.getD i .junk) (h.getD i undef))->
  Calls P f h w fun e w'=>∃v ok' H',e=.returned v/\Cm ⟨w,ok,X,H⟩ ok' H' E' w'/\R ok' w' H' j v
def Holds.SQ {C:DZ} {ok:Nat->Prop} {H:AA BG} {σ:Ac} {a:Act} {w:Ai} (h:Holds C ok H σ a w) (t:Nat):R ok w H (σ.slots.getD t .junk) (a.tmps.getD t undef):=h.get (.tmp t)
def Ac.enter (args:AA AP) (n:Nat) (E:AA Ad):Ac:=⟨args++List.replicate (n-args.length) .junk,E,E.length⟩
def R.lit {ok:Nat->Prop} {w:Ai} {H:AA BG} {u v:Af} (h:R ok w H (.d (.lit u)) v):v=u:=by
 cases h with |d _ _ h=>cases h;rfl
structure DF (P:Program) (t:TypeId) (agg:Bool) (size:Nat):Prop where
 agg:∀w,(isAgg t).run P w=.ok agg w
 size:∀w,(sizeOf t).run P w=.ok size w
def fZ (P:BU) (t:BA) (agg:AO) (size:Nat):AO:=
 (match P.underlying t with |some (.struct _)|some (.array _ _)=>agg|some _=> !agg|none=>false)&&(match P.info? t with |some i=>i.size=size|none=>false)
def ED {P:BU} {t:BA} {agg:AO} {size:Nat} (h:fZ P t agg size=true):DF P t agg size:=by
 unfold fZ at h;simp only[CS]at h;refine⟨fun w=>?_,fun w=>?_⟩
 ·have m:=h.1;cases n:P.underlying t with
  |none=>rw[n]at m;cases m
  |some d=>
   rw[n]at m;have e:(underlying t).run P w=.ok d w:=by simp[underlying,n]
   simp only[isAgg,EN,e,ES];cases d<;>cases agg<;>simp_all
 have j:=h.2;cases q:P.info? t with
 |none=>rw[q]at j;cases j
 |some i=>
  rw[q]at j;have :i.size=size:=JE
  simp[sizeOf,typeInfo,q,this]
section
variable {P:BU} {o:Oper} {es:AA Ad}
def H9 {α:Type} {p:α->Prop} {a:α} (h:∀n∈[a],p n):p a:=h a Bf
def F7 {α:Type} {p:α->Prop} {a b:α} (h:∀n∈[a,b],p n):p a/\p b:=⟨h a Bf,h b Bf⟩
def aeh {x:BD} {v:AP} (h:o.op=.move x):BJ P o [(x,v)] es v es:=
 .pure fun _ _ a _ _ _ j=>⟨a.eval x,by simp[execOp,h],j (x,v) Bf⟩
def aaC {x:BD} {v:AP} (h:o.op=.assign x):BJ P o [(x,v)] es v es:=
 .pure fun _ _ a _ _ _ j=>⟨a.eval x,by simp[execOp,h],j (x,v) Bf⟩
def ac5 {c x y:BD} {v:AP} (b:AO) (j:b=true) (m:o.op=.pick c x y):BJ P o [(c,.d (.lit (.bool b))),(x,v)] es v es:=
 .pure fun _ _ a _ _ _ h=>⟨a.eval x,by
  have :=(F7 h).1.lit;simp only at this
  simp[execOp,m,this,asBool,j],(F7 h).2⟩
def acX {c x y:BD} {v:AP} (b:AO) (j:b=false) (m:o.op=.pick c x y):BJ P o [(c,.d (.lit (.bool b))),(y,v)] es v es:=
 .pure fun _ _ a _ _ _ h=>⟨a.eval y,by
  have :=(F7 h).1.lit;simp only at this
  simp[execOp,m,this,asBool,j],(F7 h).2⟩
def rQ {op:BinOp} {t q:BA} {x y:BD} {u v r:Af} (s:o.op=.binOp op t x y q) (h:∀w,(binOp op t u v).run P w=.ok r w) (z:u.oneCell'=true/\u matches .int _ _| .string _| .bool _):
 BJ P o [(x,.d (.lit u)),(y,.d (.lit v))] es (.d (.lit r)) es:=
 .pure fun _ _ a w _ _ j=>⟨r,by
  have m:=(F7 j).1.lit;have n:=(F7 j).2.lit;simp only at m n
  have I:(eqGuard op t x y u v).run P w=.ok () w:=by
   unfold eqGuard;cases u<;>simp at z<;>(cases op<;>simp[pure,Sem.run_pure'])
  simp only[execOp,s,m,n,EN,I,h w,ES,Ej],.d _ _ (.lit _)⟩
def aU {op:UnOp} {t:BA} {x:BD} {u r:Af} (m:o.op=.unOp op t x) (h:∀w,(Op.unary op u).run P w=.ok r w):BJ P o [(x,.d (.lit u))] es (.d (.lit r)) es:=
 .pure fun _ _ a w _ _ n=>⟨r,by
  have j:=(H9 n).lit;simp only at j
  simp only[execOp,m,j,EN,h w,ES,Ej],.d _ _ (.lit _)⟩
def vI {s t:BA} {x:BD} {u r:Af} (m:o.op=.convert s t x) (h:∀w,(convert s t u).run P w=.ok r w):BJ P o [(x,.d (.lit u))] es (.d (.lit r)) es:=
 .pure fun _ _ a w _ _ n=>⟨r,by
  have j:=(H9 n).lit;simp only at j
  simp only[execOp,m,j,EN,h w,ES,Ej],.d _ _ (.lit _)⟩
def aeU {x:BD} {i:Nat} {xs:AA AP} {v:AP} (s:o.op=.extract x i) (z:xs[i]? =some v):BJ P o [(x,.gV xs)] es v es:=
 .pure fun ok H a w _ _ I=>by
  have m:=H9 I;simp only at m;generalize J:a.eval x=u at m;cases m with
  |gV _ vs O h=>
   obtain⟨q,n⟩:=Ep.1 z;have r:=h i q;have L:xs.getD i .junk=v:=by simp[List.getD,q,n]
   have j:i<vs.size:=AL
   have M:vs.getD i undef=vs[i]:=by simp[Array.getD,j]
   rw[L,M]at r;exact⟨vs[i],by simp[execOp,s,J,Instr.extract,j],r⟩
def yC {x:BD} {t e:BA} {xs:AA D} (r:P.underlying t=some (.slice e)) (m:o.op=.call { callee:=.builtin .len,args:= #[x],argTypes:= #[t] }):
 BJ P o [(x,.d (.sl xs))] es (.d (.lit (.int .i64 xs.length))) es:=
 .pure fun ok H a w _ _ s=>by
  have j:=H9 s;simp only at j;generalize n:a.eval x=u at j;have q:(underlying t).run P w=.ok (.slice e) w:=by simp[underlying,r]
  refine⟨_,?_,.d _ _ (.lit _)⟩;cases j with
  |d _ _ h=>
   cases h with
   |sl0 ad cap=>simp[execOp,m,resolve,invoke,builtin,Builtin.len_,n,q,goInt]
   |sl _ b off cap size=>simp[execOp,m,resolve,invoke,builtin,Builtin.len_,n,q,goInt]
def zW {x:BD} {t:BA} {s:AY} (j:P.underlying t=some .string) (m:o.op=.call { callee:=.builtin .len,args:= #[x],argTypes:= #[t] }):
 BJ P o [(x,.d (.lit (.string s)))] es (.d (.lit (.int .i64 s.size))) es:=
 .pure fun ok H a w _ _ n=>by
  have h:=(H9 n).lit;simp only at h;have q:(underlying t).run P w=.ok .string w:=by simp[underlying,j]
  exact⟨_,by simp[execOp,m,resolve,invoke,builtin,Builtin.len_,h,q,goInt],.d _ _ (.lit _)⟩
def NW {es:AA Ad} {H:AA BG} {ok:Nat->Prop} {w:Ai} (n:∀(k:Nat) (e:Ad) (h:BG),es[k]? =some e->H[k]? =some h->Dc ok w H h e) (q:H.length=es.length) {k:Nat} {e:Ad} (m:es[k]? =some e):
 ∃h,H[k]? =some h/\Dc ok w H h e:=by
 have j:k<H.length:=by rw[q];exact(Ep.1 m).1
 exact⟨H[k],by simp[j],n k e _ m (by simp[j])⟩
structure CQ (P:Program) (t:TypeId) (f off:Nat):Prop where
 run:∀(b o:Nat) w,(Instr.fieldAt t (.pointer (some ⟨b,o,none⟩)) f).run P w=.ok (.pointer (some ⟨b,o+off,none⟩)) w
def oW (P:BU) (t:BA) (f off:Nat):AO:=
 match P.underlying t with
 |some (.struct j)=>match j[f]? with
  |some h=>h.offset=off&&(match P.info? h.type with |some i=>i.size≠0|none=>false)
  |none=>false
 |_=>false
def CW {P:BU} {t:BA} {f off:Nat} (h:oW P t f off=true):CQ P t f off:=by
 unfold oW at h;refine⟨fun b o w=>?_⟩;split at h
 ·rename_i n q;split at h
  ·rename_i r s;simp only[CS,Gj]at h;obtain⟨u,j⟩:=h;split at j
   ·rename_i i z;have I:(sizeOf r.type).run P w=.ok i.size w:=by simp[sizeOf,typeInfo,z]
    have J:i.size≠0:=JE
    have m:(underlying t).run P w=.ok (.struct n) w:=by simp[underlying,q]
    simp[Instr.fieldAt,m,s,Instr.sureAddr,fieldPlace,I,J,addr_add,u]
   cases j
  cases h
 cases h
def afJ {x:BD} {t:BA} {f off j:Nat} {cs:AA D} (r:CQ P t f off) (s:o.op=.fieldAddr t x f):BJ P o [(x,.d (.ref cs j))] es (.d (.ref cs (j+off))) es:=
 .pure fun ok H a w _ _ z=>by
  have m:=H9 z;simp only at m;generalize I:a.eval x=u at m;cases m with
  |d _ _ h=>
   cases h with
   |ref _ _ b p n q J L=>
    refine⟨.pointer (some ⟨b,p+(j+off),none⟩),?_,.d _ _ (.ref cs (j+off) b p n q J L)⟩;simp only[execOp,s,I,EN,r.run,ES,Ej,Ld]
def abU {x:BD} {t:BA} {f off k j:Nat} (n:CQ P t f off) (q:o.op=.fieldAddr t x f):BJ P o [(x,.ptr k j)] es (.ptr k (j+off)) es:=
 .pure fun ok H a w _ _ r=>by
  have m:=H9 r;simp only at m;generalize z:a.eval x=u at m;cases m with
  |ptr _ _ b s h=>
   refine⟨.pointer (some ⟨b,j+off,none⟩),?_,.ptr _ _ b s h⟩;simp only[execOp,q,z,EN,n.run,ES,Ej]
def adl {x:BD} {t:BA} {f off k i j:Nat} (q:CQ P t f off) (r:o.op=.fieldAddr t x f):BJ P o [(x,.iG k i j)] es (.iG k i (j+off)) es:=
 .pure fun ok H a w _ _ z=>by
  have m:=H9 z;simp only at m;generalize I:a.eval x=u at m;cases m with
  |iG _ _ _ b n cap s h=>
   refine⟨.pointer (some ⟨b,i*s+(j+off),none⟩),?_,.iG _ _ _ b n cap s h⟩;simp only[execOp,r,I,EN,q.run,ES,Ej,Ld]
def agR {x y:BD} {t e:BA} {k:IntKind} {i:Int} {xs:AA D} {r:D} {agg:AO} {size:Nat} (Y:P.underlying t=some (.slice e)) (Z:DF P e agg size) (h0:0<=i) (hi:xs[i.toNat]? =some r) (s:r.cells.length=size)
 (ho:o.op=.indexAddr t x y):BJ P o [(x,.d (.sl xs)),(y,.d (.lit (.int k i)))] es (.d (.ref r.cells 0)) es:=
 .pure fun ok H a w _ _ O=>by
  have z:=(F7 O).1;have S:=(F7 O).2.lit;simp only at z S;generalize he:a.eval x=u at z;have hu:(underlying t).run P w=.ok (.slice e) w:=by simp[underlying,Y]
  obtain⟨n,I⟩:=Ep.1 hi;cases z with
  |d _ _ h=>
   cases h with
   |sl0 ad cap=>simp at n
   |sl _ b off cap m U J L hf hx hc=>
    have hd:xs.getD i.toNat CV=r:=by simp[List.getD,n,I]
    have M:m=size:=by rw[←L _ n,hd,s]
    subst M;refine⟨.pointer (some ⟨b,off+i.toNat*m+0,none⟩),?_,.d _ _ (.ref r.cells 0 b (off+i.toNat*m) (fun h=>J AL (by rw[s]at h;exact h)) ?_ ?_ ?_)⟩
    ·have hlen:0<=i/\i<(xs.length:Int):=⟨h0,AL⟩
     simp only[execOp,ho,he,S,Instr.indexAt,asIntOf,EN,Ej,hu,ES,Sem.run_ite,hlen,and_self,Kr,Z.size,addr_add,X5]
    ·intro j q;rw[s]at q;rw[←hd];exact hf _ n j q
    ·intro j q;rw[s]at q;rw[Ld];exact hx _ n j q
    intro j q;rw[s]at q;rw[Ld,←hd];exact hc _ n j q
def aag {x y:BD} {t:BA} {k:IntKind} {i:Int} {s:AY} {c:UInt8} (n:P.underlying t=some .string) (q:0<=i) (r:s[i.toNat]? =some c) (u:o.op=.index t x y):
 BJ P o [(x,.d (.lit (.string s))),(y,.d (.lit (.int k i)))] es (.d (.lit (.int .u8 c.toNat))) es:=
 .pure fun ok H a w _ _ h=>by
  have j:=(F7 h).1.lit;have m:=(F7 h).2.lit;simp only at j m;have z:(underlying t).run P w=.ok .string w:=by simp[underlying,n]
  exact⟨_,by simp only[execOp,u,j,m,Instr.index,asIntOf,EN,Ej,z,ES,q,Kr,r],.d _ _ (.lit _)⟩
def FN (l:AA AP):AA D:=l.map fun | .d x=>x|_=>CV
def AP.oZ:AP->AO
 | .d _=>true
 |_=>false
def R.toD {ok:Nat->Prop} {w:Ai} {H:AA BG} {x:AP} {v:Af} (h:R ok w H x v) (hd:x.oZ=true):D8 ok w ((fun | .d x=>x|_=>CV) x) v:=by
 cases h with
 |d _ _ h=>exact h
 |_=>simp[AP.oZ]at hd
def J9 (agg:AO) (cs:AA D) (off n:Nat):D:=if agg then .agg ((cs.drop off).take n)else cs.getD off CV
def Zu {P:BU} {ok:Nat->Prop} {w:Ai} {t:BA} {agg:AO} {n b p off:Nat} {cs:AA D} (J:DF P t agg n) (Y:off+n<=cs.length) (M:agg=false->n=1)
 (O:∀i,i<cs.length->(cs.getD i CV).leaf=true) (S:∀j,j<cs.length->(w.cell? ⟨b,p+j,none⟩).isSome=true) (L:∀j,j<cs.length->D8 ok w (cs.getD j CV) (cellAt w b (p+j))):
 ∃v,(Instr.loadAt t (.pointer (some ⟨b,p+off,none⟩))).run P w=.ok v w/\D8 ok w (J9 agg cs off n) v:=by
 have m:∀j,j<cs.length->w.cell? ⟨b,p+j,none⟩=some (cellAt w b (p+j)):=by
  intro j s;have :=S j s;obtain⟨u,U⟩:=WT.1 this;simp[cellAt,U]
 cases agg with
 |false=>
  have :=M rfl;subst this;refine⟨cellAt w b (p+off),?_,L off AL⟩;have I:=m off AL;simp[Instr.loadAt,Instr.sureAddr,loadVar,J.agg,I]
 |true=>
  let vs:Aw Af:=((List.range n).map fun j=>cellAt w b (p+(off+j))).toArray
  have r:vs.size=n:=by simp[vs]
  have z:∀j,j<n->vs.getD j undef=cellAt w b (p+(off+j)):=by
   intro j s;simp[vs,Array.getD,s]
  refine⟨.agg vs,?_,?_⟩
  ·simp only[Instr.loadAt,Instr.sureAddr,EN,Ej,ES]
   have h:=afN (P:=P) w t b (p+off) vs (J.agg w) (by rw[r];exact J.size w) (fun j s=>by
    rw[r]at s;rw[z j s,Ld]
    exact m (off+j) AL)
   exact h
  simp only[J9,Kr];have hlen:((cs.drop off).take n).length=n:=Hy
  have I:∀i,i<n->((cs.drop off).take n).getD i CV=cs.getD (off+i) CV:=by
   intro i q;simp[List.getD,OV q,OX]
  refine .agg _ vs (by rw[hlen,r]) (fun i q=>?_) (fun i q=>?_)
  ·rw[hlen]at q;rw[I i q];exact O _ AL
  rw[hlen]at q;rw[I i q,z i q];exact L _ AL
def zs {x:BD} {t:BA} {agg:AO} {n off:Nat} {cs:AA D} (q:DF P t agg n) (r:off+n<=cs.length) (s:agg=false->n=1) (z:o.op=.load t x):
 BJ P o [(x,.d (.ref cs off))] es (.d (J9 agg cs off n)) es:=
 .pure fun ok H a w _ _ m=>by
  have j:=H9 m;simp only at j;generalize I:a.eval x=u at j;cases j with
  |d _ _ h=>
   cases h with
   |ref _ _ b p J L M O=>
    obtain⟨v,S,hd⟩:=Zu q r s L M O;exact⟨v,by simp only[execOp,z,I,EN,S,ES,Ej],.d _ _ hd⟩
def UA (l:AA AP):(FN l).length=l.length:=by simp[FN]
def uo {l:AA AP} {i:Nat} (h:i<l.length):(FN l).getD i CV=(fun | .d x=>x|_=>CV) (l.getD i .junk):=by
 simp[FN,List.getD,h]
def xZ {ok:Nat->Prop} {w:Ai} {H:AA BG} {h:BG} {cs:AA AP} (J:Dc ok w H h (.box cs)) (hd:cs.all AP.oZ=true):
 ∃b,h.v=.pointer (some ⟨b,0,none⟩)/\(∀i,i<(FN cs).length->((FN cs).getD i CV).leaf=true)/\(∀j,j<(FN cs).length->(w.cell? ⟨b,0+j,none⟩).isSome=true)/\(∀j,j<(FN cs).length->D8 ok w ((FN cs).getD j CV) (cellAt w b (0+j))):=by
 obtain⟨b,vs,T,L,M,O,s⟩:=J;rw[Dz]at hd
 have m:∀j,j<cs.length->w.cell? ⟨b,0+j,none⟩=some (vs.toList.getD j undef):=by
  intro j n;rw[KP];have r:j<vs.size:=by simpa using(by omega:j<vs.toList.length)
  simp[World.cell?,M,r,List.getD]
 refine⟨b,L,fun i q=>?_,fun j n=>?_,fun j n=>?_⟩
 ·rw[UA]at q;rw[uo q];have u:=(s i q).1;have z:=hd (cs.getD i .junk) jk;cases I:cs.getD i .junk with
  |d x=>rw[I]at u;exact u
  |_=>rw[I]at z;simp[AP.oZ]at z
 ·rw[UA]at n;rw[m j n];rfl
 rw[UA]at n;rw[uo n];unfold cellAt;rw[m j n];exact(s j n).2.toD (hd (cs.getD j .junk) (by simp[List.getD,n]))
def aaf {x:BD} {t:BA} {agg:AO} {k n off:Nat} {cs:AA AP} (L:es[k]? =some (.box cs)) (hd:cs.all AP.oZ=true) (M:DF P t agg n) (O:off+n<=cs.length) (S:agg=false->n=1) (U:o.op=.load t x):
 BJ P o [(x,.ptr k off)] es (.d (J9 agg (FN cs) off n)) es:=
 .pure fun ok H a w m Y q=>by
  have j:=H9 q;simp only at j;generalize Z:a.eval x=u at j;obtain⟨h,hh,r⟩:=NW m Y L;obtain⟨b,z,hf,hx,hc⟩:=xZ r hd;cases j with
  |ptr _ _ b' s I=>
   rw[hh]at I;obtain rfl:=DU I;simp at z;subst z;obtain⟨v,J,hD⟩:=Zu M (by rw[UA];exact O) S hf hx hc;rw[KP]at J;exact⟨v,by simp only[execOp,U,Z,EN,J,ES,Ej],.d _ _ hD⟩
def zx {x:BD} {t:BA} {k off:Nat} {cs:AA AP} {v:AP} (M:es[k]? =some (.box cs)) (O:cs[off]? =some v) (S:DF P t false 1) (U:o.op=.load t x):BJ P o [(x,.ptr k off)] es v es:=
 .pure fun ok H a w n Y r=>by
  have m:=H9 r;simp only at m;generalize Z:a.eval x=u at m;obtain⟨h,hh,b,vs,T,I,h2,h3,h4⟩:=NW n Y M;cases m with
  |ptr _ _ b' s J=>
   rw[hh]at J;obtain rfl:=DU J;simp at I;subst I;obtain⟨q,z⟩:=Ep.1 O;have L:=(h4 off q).2;have e1:cs.getD off .junk=v:=by simp[List.getD,q,z]
   have j:off<vs.size:=by simpa using(by omega:off<vs.toList.length)
   have e2:vs.toList.getD off undef=vs[off]:=MQ
   rw[e1,e2]at L;refine⟨vs[off],?_,L⟩;have hc:w.cell? ⟨b',off,none⟩=some vs[off]:=by simp[World.cell?,h2,j]
   simp[execOp,U,Z,Instr.loadAt,Instr.sureAddr,loadVar,S.agg,hc]
end
def Cm.change {C:DZ} {ok ok':Nat->Prop} {H H':AA BG} {es es':AA Ad} {w w':Ai} (m:Cm C ok H es w) (B:Nat->Prop)
 (hos:w'.os=w.os) (L:w'.tape=w.tape) (hout:w'.output=w.output) (n:w.heap.size<=w'.heap.size)
 (z:∀b,b<w.heap.size->¬B b->w'.heap[b]? =w.heap[b]?) (hB:∀b,B b->b<w.heap.size->¬ok b/\(C.w0.heap.size<=b\/b∈C.X))
 (hok:∀b,ok b->ok' b) (I:∀b,ok' b->ok b\/(w.heap.size<=b/\b<w'.heap.size)) (r:Names H H') (hlen:H'.length=es'.length)
 (s:∀(k:Nat) (e:Ad) (h:BG),es'[k]? =some e->H'[k]? =some h->
  (es[k]? =some e/\H[k]? =some h/\(e.live=true->∀b,D5 h.v=some b->¬B b))\/
  (Dc ok' w' H' h e/\(e.live=true->∀b,D5 h.v=some b->¬ok' b/\b<w'.heap.size/\(C.w0.heap.size<=b\/b∈C.X)/\
   ∀(k':Nat) (e':Ad) (h':BG),k'≠k->es'[k']? =some e'->e'.live=true->H'[k']? =some h'->D5 h'.v≠some b))):
 Cm C ok' H' es' w'/\E8 ok w ok' w':=by
 have hg:E8 ok w ok' w':=fun b j=>⟨hok b j,z b (m.oP b j) (fun q=>(hB b q (m.oP b j)).1 j)⟩
 refine⟨⟨⟨hos.trans m.fr.os,L.trans m.fr.tape,hout.trans m.fr.output,FZ m.fr.size n,fun k hk hx=>?_⟩,fun b j=>hok b (m.vF b j),?_,?_,m.names.trans r,hlen,?_,?_,?_⟩,hg⟩
 ·have hkw:k<w.heap.size:=Uz hk m.fr.size;rw[z k hkw (fun j=>(hB k j hkw).2.elim (fun h=>AL) hx)];exact m.fr.block k hk hx
 ·intro b j;rcases I b j with h|⟨h,_⟩
  ·exact m.vG b h
  exact .inr (.inl (FZ m.fr.size h))
 ·intro b j;rcases I b j with h|⟨_,h⟩
  ·exact Uz (m.oP b h) n
  exact h
 ·intro k e h U Y;rcases s k e h U Y with⟨u,Z,h3⟩|⟨u,_⟩
  ·exact(m.ent k e h u Z).mono hg r (fun J b j=>z b (m.blk k e h b u J Z j).2.1 (h3 J b j))
  exact u
 ·intro k e h b U J Y j;rcases s k e h U Y with⟨u,Z,h3⟩|⟨_,u⟩
  ·have :=m.blk k e h b u J Z j;refine⟨fun q=>?_,Uz this.2.1 n,this.2.2⟩;rcases I b q with h4|⟨h4,_⟩
   ·exact this.1 h4
   omega
  exact⟨(u J b j).1,(u J b j).2.1,(u J b j).2.2.1⟩
 intro k k' e e' h h' b U he' J M Y hh' j q;apply TW;intro O;rcases s k e h U Y with⟨u,Z,h3⟩|⟨_,u⟩
 ·rcases s k' e' h' he' hh' with⟨S,h2',h3'⟩|⟨_,S⟩
  ·exact O (m.Bz k k' e e' h h' b u S J M Z h2' j q)
  exact(S M b q).2.2.2 k e h O U J Y j
 exact(u J b j).2.2.2 k' e' h' (fun e=>O e.symm) he' M hh' q
def jJ {α:Type} {l:AA α} {i:Nat} {z:α} (h:i<l.length):l.getD i z=l[i]:=by simp[List.getD,h]
def Tj {α:Type} {l:AA α} {a x:α} {k:Nat} (h:(l++[a])[k]? =some x):l[k]? =some x\/(k=l.length/\x=a):=by
 by_cases m:k<l.length
 ·rw[FP m]at h;exact .inl h
 have j:=(Ep.1 h).1;simp at j;have :k=l.length:=AL
 subst this;simp at h;exact .inr ⟨rfl,h.symm⟩
def Cm.push {C:DZ} {ok:Nat->Prop} {H:AA BG} {es:AA Ad} {w:Ai} (j:Cm C ok H es w) (o:Obj) (h:BG) (e:Ad) (u:∀b,D5 h.v=some b->b=w.heap.size)
 (Y:Dc ok (w.alloc o) (H++[h]) h e):Cm C ok (H++[h]) (es++[e]) (w.alloc o)/\E8 ok w ok (w.alloc o):=by
 refine j.change (fun _=>False) rfl rfl rfl Bf (fun b u _=>WG _ _ _ u) (fun _ h=>h.elim) (fun _ h=>h) (fun _ h=>.inl h) (Gf _ _) (by simp[j.hlen]) ?_;intro k e' h' z n;rcases Tj z with s|⟨s,Z⟩
 ·left;refine⟨s,?_,fun _ _ _ h=>h⟩;have I:k<H.length:=by rw[j.hlen];exact(Ep.1 s).1
  rwa [FP I]at n
 subst Z;have I:k=H.length:=by rw[j.hlen];exact s
 subst I;simp at n;subst n;refine .inr ⟨Y,fun _ b J=>?_⟩;obtain rfl:=u b J;refine⟨fun q=>absurd (j.oP _ q) AL,Bf,.inl j.fr.size,fun k' L M O S hl m r=>?_⟩;rcases Tj S with q|⟨q,_⟩
 ·have U:k'<H.length:=by rw[j.hlen];exact(Ep.1 q).1
  rw[FP U]at m;exact absurd (j.blk k' L M _ q hl m r).2.1 AL
 rw[←j.hlen]at q;exact O q
def Cm.fresh {C:DZ} {ok:Nat->Prop} {H:AA BG} {es:AA Ad} {w:Ai} (j:Cm C ok H es w) (o:Obj):
 Cm C (fun b=>ok b\/b=w.heap.size) H es (w.alloc o)/\E8 ok w (fun b=>ok b\/b=w.heap.size) (w.alloc o):=by
 refine j.change (fun _=>False) rfl rfl rfl Bf (fun b m _=>WG _ _ _ m) (fun _ h=>h.elim) (fun _ h=>.inl h) (fun b h=>?_) (.refl _) j.hlen ?_
 ·rcases h with h|rfl
  ·exact .inl h
  exact .inr ⟨Gt _,Bf⟩
 intro k e h n q;exact .inl ⟨n,q,fun _ _ _ h=>h⟩
def Dc.dead {ok:Nat->Prop} {w:Ai} {H:AA BG} {h:BG}:Dc ok w H h .dead:=trivial
def R.Nv {ok:Nat->Prop} {w:Ai} {H:AA BG} {x:AP} {v:Af} (h:R ok w H x v) (u:x.cells.all AP.leaf=true):Eo ok w H x.cells v.cells.toList:=by
 rw[Dz]at u;cases h with
 |d x v h=>
  cases h with
  |agg cs vs O L S=>
   refine⟨by simp[AP.cells,D.cells,Value.cells,O],fun i m=>?_⟩;simp only[AP.cells,D.cells,Dn]at m;have U:(AP.cells (.d (.agg cs))).getD i .junk=.d (cs.getD i CV):=by simp[AP.cells,D.cells,List.getD,m]
   have z:i<vs.size:=AL
   have M:(Value.cells (.agg vs)).toList.getD i undef=vs.getD i undef:=qQ
   rw[U,M];exact⟨L i m,.d _ _ (S i m)⟩
  |lit v=>
   have q:=u (.d (.lit v)) (by simp[AP.cells,D.cells]);have e:v.cells= #[v]:=by cases v<;>first|rfl|(simp[AP.leaf,D.leaf,Value.oneCell']at q)
   refine⟨by simp[AP.cells,D.cells,e],fun i m=>?_⟩;simp[AP.cells,D.cells]at m;subst m;rw[e];exact⟨q,.d _ _ (.lit v)⟩
  |sl0 ad cap=>
   refine⟨rfl,fun i m=>?_⟩;simp[AP.cells,D.cells]at m;subst m;exact⟨rfl,.d _ _ (.sl0 ad cap)⟩
  |sl es b off cap size q r I J Y Z=>
   refine⟨rfl,fun i m=>?_⟩;simp[AP.cells,D.cells]at m;subst m;exact⟨rfl,.d _ _ (.sl es b off cap size q r I J Y Z)⟩
  |ref cs off b o q r I J=>
   refine⟨rfl,fun i m=>?_⟩;simp[AP.cells,D.cells]at m;subst m;exact⟨rfl,.d _ _ (.ref cs off b o q r I J)⟩
  |fn f first cap vs us q r I J=>
   refine⟨rfl,fun i m=>?_⟩;simp[AP.cells,D.cells]at m;subst m;exact⟨rfl,.d _ _ (.fn f first cap vs us q r I J)⟩
  |Oq t x v q=>
   refine⟨rfl,fun i m=>?_⟩;simp[AP.cells,D.cells]at m;subst m;exact⟨rfl,.d _ _ (.Oq t x v q)⟩
 |ptr k off b s h=>
  exact⟨rfl,fun i m=>by simp[AP.cells]at m;subst m;exact⟨rfl,.ptr k off b s h⟩⟩
 |dn k ad n cap s h=>
  exact⟨rfl,fun i m=>by simp[AP.cells]at m;subst m;exact⟨rfl,.dn k ad n cap s h⟩⟩
 |iG k i off b n cap s h=>
  exact⟨rfl,fun j m=>by simp[AP.cells]at m;subst m;exact⟨rfl,.iG k i off b n cap s h⟩⟩
 |fn f first cap vs us q r I J=>
  exact⟨rfl,fun i m=>by simp[AP.cells]at m;subst m;exact⟨rfl,.fn f first cap vs us q r I J⟩⟩
 |mp k v s u h=>
  have e:v.cells= #[v]:=by cases v<;>first|rfl|(simp[Value.oneCell']at u)
  exact⟨by simp[AP.cells,e],fun j m=>by simp[AP.cells]at m;subst m;rw[e];exact⟨rfl,.mp k v s u h⟩⟩
 |clip xs ad h=>exact⟨rfl,fun i m=>by simp[AP.cells]at m;subst m;exact⟨rfl,.clip xs ad h⟩⟩
 |nN k ad n cap s h=>exact⟨rfl,fun i m=>by simp[AP.cells]at m;subst m;exact⟨rfl,.nN k ad n cap s h⟩⟩
 |gV xs vs q r=>have :=u (.gV xs) (by simp[AP.cells]);simp[AP.leaf]at this
 |ag xs vs q L r=>
  refine⟨by simp[AP.cells,Value.cells,q],fun i m=>?_⟩;have z:i<vs.size:=by rw[q];exact m
  have M:(Value.cells (.agg vs)).toList.getD i undef=vs.getD i undef:=qQ
  rw[M];exact⟨L i m,r i m⟩
 |junk v=>have :=u .junk (by simp[AP.cells]);simp[AP.leaf]at this
section
variable {P:BU} {o:Oper} {es:AA Ad}
def uX (w:Ai):∀b,D5 (BG.v ⟨.pointer (some ⟨w.heap.size,0,none⟩),0⟩)=some b->b=w.heap.size:=fun b h=>by simpa[D5]using h.symm
def BJ.eff {ns:AA (BD×AP)} {x:AP} {es':AA Ad}
 (h:∀(C:DZ) (ok:Nat->Prop) (H:AA BG) (a:Act) (w:Ai),Cm C ok H es w->(∀n∈ns,R ok w H n.2 (a.eval n.1))->
  ∃v w' ok' H',((execOp a.eval o).run P w=.ok (.value v) w'\/(v=undef/\(execOp a.eval o).run P w=.ok .skip w'))/\E8 ok w ok' w'/\Names H H'/\Cm C ok' H' es' w'/\R ok' w' H' x v):BJ P o ns es x es':=by
 intro C ok H a w Q u z;obtain⟨v,w',ok',H',j,m,q,r,s⟩:=h C ok H a w u z;unfold Oper.wp;rcases j with j|⟨rfl,j⟩
 ·rw[j];exact⟨v,ok',H',rfl,m,q,r,s⟩
 rw[j];exact⟨undef,ok',H',rfl,m,q,r,s⟩
def ab3 {t:BA} {x:BD} {v:AP} (n:v.cells.all AP.leaf=true) (q:o.op=.box t x):BJ P o [(x,v)] es (.ptr es.length 0) (es++[.box v.cells]):=
 .eff fun C ok H a w j r=>by
  have m:=H9 r;simp only at m
  have h:Dc ok (w.alloc (.cells (a.eval x).cells t)) (H++[⟨.pointer (some ⟨w.heap.size,0,none⟩),0⟩]) ⟨.pointer (some ⟨w.heap.size,0,none⟩),0⟩ (.box v.cells):=
   ⟨w.heap.size,(a.eval x).cells,t,rfl,Ue w _,(m.Nv n).mono (fun b h=>⟨h,WG _ _ _ (j.oP b h)⟩) (Gf _ _)⟩
  obtain⟨s,u⟩:=j.push (.cells (a.eval x).cells t) ⟨.pointer (some ⟨w.heap.size,0,none⟩),0⟩ _ (uX w) h;refine⟨_,_,ok,_,.inl ?_,u,Gf _ _,s,.ptr _ _ w.heap.size 0 (by rw[←j.hlen];simp)⟩;simp[execOp,q,Instr.box,newVar,newRow]
def MF :Af->D
 | .slice none 0 0=>.sl []
 |v=>.lit v
def X4 {ok:Nat->Prop} {w:Ai} (v:Af):D8 ok w (MF v) v:=by
 unfold MF;split
 ·exact .sl0 none 0
 exact .lit v
def Z8 {v:Af} (h:v.oneCell'=true):(MF v).leaf=true:=by
 unfold MF;split
 ·rfl
 exact h
def DY (z:Af):AA AP:=z.cells.toList.map fun v=>.d (MF v)
def acC {t:BA} {z:Af} (n:(P.info? t).bind (·.zero)=some z) (q:z.cells.all (·.oneCell')=true) (r:o.op=.alloc t):BJ P o [] es (.ptr es.length 0) (es++[.box (DY z)]):=
 .eff fun C ok H a w m M=>by
  have s:Dc ok (w.alloc (.cells z.cells t)) (H++[⟨.pointer (some ⟨w.heap.size,0,none⟩),0⟩]) ⟨.pointer (some ⟨w.heap.size,0,none⟩),0⟩ (.box (DY z)):=by
   refine⟨w.heap.size,z.cells,t,rfl,Ue w _,by simp[DY],fun i h=>?_⟩;simp only[DY,Dn,ML]at h;have u:(DY z).getD i .junk=.d (MF z.cells[i]):=by simp[DY,List.getD,h]
   have I:z.cells.toList.getD i undef=z.cells[i]:=by simp[List.getD,h]
   rw[u,I];exact⟨Z8 ((NU.1 q) _ Bf),.d _ _ (X4 _)⟩
  obtain⟨J,L⟩:=m.push (.cells z.cells t) ⟨.pointer (some ⟨w.heap.size,0,none⟩),0⟩ _ (uX w) s;refine⟨_,_,ok,_,.inl ?_,L,Gf _ _,J,.ptr _ _ w.heap.size 0 (by rw[←m.hlen];simp)⟩;obtain⟨i,h,j⟩:=dV.1 n;simp[execOp,r,Instr.alloc,zeroValue,typeInfo,h,j,newVar,newRow]
def OG {l:AA Ad} {k j:Nat} {a x:Ad} (m:k<l.length) (h:(l.set k a)[j]? =some x):(j=k/\x=a)\/(j≠k/\l[j]? =some x):=by
 by_cases e:k=j
 ·subst e;simp[m]at h;exact .inl ⟨rfl,h.symm⟩
 rw[Qm e]at h;exact .inr ⟨fun h'=>e h'.symm,h⟩
def Cm.upd {C:DZ} {ok:Nat->Prop} {H:AA BG} {w w':Ai} (z:Cm C ok H es w) {k:Nat} {I e:Ad} {h:BG} {b:Nat} (Z:es[k]? =some I) (r:I.live=true) (hh:H[k]? =some h) (hb:D5 h.v=some b)
 (hos:w'.os=w.os) (s:w'.tape=w.tape) (J:w'.output=w.output) (hsize:w'.heap.size=w.heap.size)
 (q:∀c,c≠b->w'.heap[c]? =w.heap[c]?) (he:E8 ok w ok w'->Dc ok w' H h e):Cm C ok H (es.set k e) w'/\E8 ok w ok w':=by
 have L:=z.blk k I h b Z r hh hb;have hg:E8 ok w ok w':=fun c m=>⟨m,q c (fun e=>L.1 (e▸m))⟩
 refine z.change (fun c=>c=b) hos s J AL (fun c _ m=>q c m) (fun c m _=>by subst m;exact⟨L.1,L.2.2⟩) (fun _ h=>h) (fun _ h=>.inl h) (.refl _) (by simp[z.hlen]) ?_;intro j e' h' hj n;have M:k<es.length:=(Ep.1 Z).1;rcases OG M hj with⟨rfl,rfl⟩|⟨u,O⟩
 ·rw[hh]at n;obtain rfl:=DU n;refine .inr ⟨he hg,fun _ c m=>?_⟩;rw[hb]at m;obtain rfl:=DU m;refine⟨L.1,AL,L.2.2,fun k' e'' h'' u hk' hl' S U=>u ?_⟩;rcases OG M hk' with⟨rfl,_⟩|⟨_,Y⟩
  ·rfl
  exact z.Bz k' j e'' I h'' h b Y Z hl' r S hh U hb
 refine .inl ⟨O,n,fun hl c m hcb=>u ?_⟩;subst hcb;exact z.Bz j k e' I h' h c O Z hl r n hh m hb
def oV (w:Ai) (g:Nat) (cs:Aw Af) (k:Nat) (h:k≠g):(w.setRow g cs).heap[k]? =w.heap[k]? :=setRow_other w g k cs h
def setAt {α:Type} (cs:AA α) (off:Nat) (ys:AA α):AA α:=cs.take off++ys++cs.drop (off+ys.length)
def Oz {α:Type} {cs ys:AA α} {off:Nat} (h:off+ys.length<=cs.length):(setAt cs off ys).length=cs.length:=by simp[setAt];omega
def YS {α:Type} {cs ys:AA α} {off:Nat} (h:off+ys.length<=cs.length) (i:Nat) (z:α):(setAt cs off ys).getD i z=if off<=i/\i<off+ys.length then ys.getD (i-off) z else cs.getD i z:=by
 unfold setAt;have j:(cs.take off).length=off:=Hy
 by_cases m:i<off
 ·rw[EW AL];simp only[List.getD];rw[HY,FP AL,OV m]
 by_cases n:i<off+ys.length
 ·rw[EX AL];simp only[List.getD];rw[HY,H8 AL,j,FP AL]
 rw[EW AL];simp only[List.getD];rw[H8 Hy,OX];congr 2;simp;omega
def rG {t:BA} {x y:BD} {k off n:Nat} {cs:AA AP} {v:AP} (hk:es[k]? =some (.box cs)) (hl:v.cells.all AP.leaf=true) (hs:∀w,(sizeOf t).run P w=.ok n w) (hn:v.cells.length=n) (hle:off+n<=cs.length) (ho:o.op=.store t x y):
 BJ P o [(x,.ptr k off),(y,v)] es .junk (es.set k (.box (setAt cs off v.cells))):=
 .eff fun C ok H a w O z=>by
  have S:=(F7 z).1;have h2:=(F7 z).2;simp only at S h2;generalize he:a.eval x=u at S;obtain⟨h,hh,U⟩:=NW O.ent O.hlen hk;obtain⟨b,vs,T,hb,m,I,J⟩:=U;have j:=h2.Nv hl;cases S with
  |ptr _ _ L s hH=>
   rw[hh]at hH;obtain rfl:=DU hH;simp at hb;subst hb;have q:(a.eval y).cells.toList.length=n:=by rw[j.1,hn]
   have adK:vs.size=cs.length:=by simpa using I
   have Y:(a.eval y).cells.size=n:=JL
   have hst:=run_storeCells_at (P:=P) L off T (a.eval y).cells.toList 0 vs w m (by rw[q];omega) (fun u hu=>by
    obtain⟨i,r,rfl⟩:=VA hu;have M:=j.2 i (by rw[←j.1];exact r);have :=M.2.leaf M.1
    rwa [jJ r]at this)
   simp only[X5]at hst;have hlt:L<w.heap.size:=(JD.1 m).1
   obtain⟨h3,h4⟩:=O.upd (e:=.box (setAt cs off v.cells)) (w':=w.setRow L (vs.toList.take off++(a.eval y).cells.toList++vs.toList.drop (off+(a.eval y).cells.toList.length)).toArray) hk rfl hh rfl rfl rfl rfl (by simp[World.setRow]) (fun c hc=>oV _ _ _ _ hc) (fun hg=>by
    refine⟨L,_,T,rfl,setRow_heap w L vs _ T (0,0) m,?_,fun i r=>?_⟩
    ·have Z:(vs.toList.take off++(a.eval y).cells.toList++vs.toList.drop (off+(a.eval y).cells.toList.length))=setAt vs.toList off (a.eval y).cells.toList:=rfl;rw[Z,gU,Oz (by have :=vs.length_toList;omega),Oz AL];simpa using I
    have Z:(vs.toList.take off++(a.eval y).cells.toList++vs.toList.drop (off+(a.eval y).cells.toList.length))=setAt vs.toList off (a.eval y).cells.toList:=rfl;rw[Oz AL]at r;rw[Z,gU,YS (by have :=vs.length_toList;omega),YS AL,q,hn];split
    ·have M:=j.2 (i-off) AL;exact⟨M.1,M.2.mono hg (.refl _)⟩
    exact⟨(J i r).1,(J i r).2.mono hg (.refl _)⟩)
   refine⟨undef,_,ok,H,.inr ⟨rfl,?_⟩,h4,.refl _,h3,.junk _⟩;simp only[execOp,ho,he,Instr.storeAt,Instr.sureAddr,storeVar,EN,Ej,ES,hs,Y,ne_eq,not_true_eq_false,O6,hst]
end
def YW (x:D) (es:AA D):Cj (x::es)=x.cells.map .d++Cj es:=QK
def uJ (xs ys:AA D):Cj (xs++ys)=Cj xs++Cj ys:=QK
def Oa {size:Nat}:∀{es:AA D},(∀x∈es,x.cells.length=size)->(Cj es).length=es.length*size
 | [],_=>QK
 |x::es,h=>by
  rw[YW,Dp,Dn,h x Bf,Oa (fun y j=>h y (Ku _ j)),PN,Pq,SH]
def flat_get {size:Nat}:∀{es:AA D},(∀x∈es,x.cells.length=size)->∀i j,i<es.length->j<size->(Cj es).getD (i*size+j) .junk=.d ((es.getD i CV).cells.getD j CV)
 | [],_,i,j,n,_=>by simp at n
 |x::es,h,0,j,_,q=>by
  have m:=h x Bf;rw[YW,Nat.zero_mul,KP];simp only[List.getD];rw[FP (by simp[m,q])];have r:j<x.cells.length:=AL
  simp[r]
 |x::es,h,i+1,j,n,q=>by
  have m:=h x Bf;have s:=flat_get (fun y u=>h y (Ku _ u)) i j X0 q;rw[YW];simp only[List.getD]at s ⊢;rw[H8 (by simp[m,Pq];omega)];have e:(i+1)*size+j-(x.cells.map AP.d).length=i*size+j:=by simp[m,Pq];omega
  rw[e,s];simp
section
variable {P:BU} {o:Oper} {es:AA Ad}
structure Ri (w:World) (v:Value) (m size:Nat) (news:List Value):Prop where
 len:news.length=m*size
 one:∀u∈news,u.oneCell'=true
 at_:(∃ad c,v=.slice (some ad) m c/\∀(j:Nat) (u:Value),news[j]? =some u->w.cell? (ad.add j)=some u)\/(∃c,v=.slice none 0 c/\m=0)
def dK {ok:Nat->Prop} {w:Ai} (H:AA BG) {ys:AA D} {v:Af} {size:Nat} (h:D8 ok w (.sl ys) v) (U:∀x∈ys,x.cells.length=size):
 ∃n,Ri w v ys.length size n/\Eo ok w H (Cj ys) n:=by
 cases h with
 |sl0 ad cap=>
  refine⟨[],⟨Bf,Bf,?_⟩,QK,fun i r=>by simp[Cj]at r⟩;cases ad with
  |none=>exact .inr ⟨cap,rfl,rfl⟩
  |some ad=>exact .inl ⟨ad,cap,rfl,fun j u h=>FQ⟩
 |sl _ b off cap m hcap hok Y hf hx hc=>
  by_cases hy:ys=[]
  ·subst hy;refine⟨[],⟨Bf,Bf,.inl ⟨⟨b,off,none⟩,cap,rfl,fun j u h=>FQ⟩⟩,QK,fun i r=>by simp[Cj]at r⟩
  have s:0<ys.length:=List.length_pos_iff.2 hy;have Z:m=size:=by rw[←Y 0 s];exact U _ (by simp[List.getD,s])
  subst Z;have hl:=Oa U
  have key:∀k,k<ys.length*m->∃i j,k=i*m+j/\i<ys.length/\j<m:=by
   intro k q
   have hp:0<m:=by
    rcases Nat.eq_zero_or_pos m with h0|h0
    ·rw[h0,Nat.mul_zero]at q;omega
    exact h0
   exact⟨k/m,k % m,by rw[QD];exact(ZR k m).symm,Yp (by rwa [QD]at q),Nat.mod_lt _ hp⟩
  let n:AA Af:=(List.range (ys.length*m)).map fun k=>cellAt w b (off+k)
  have z:n.length=ys.length*m:=by simp[n]
  have J:∀k,k<ys.length*m->n.getD k undef=cellAt w b (off+k):=by
   intro k q;simp[n,List.getD,q]
  have I:Eo ok w H (Cj ys) n:=by
   refine⟨by rw[z,hl],fun k q=>?_⟩;rw[hl]at q;obtain⟨i,j,rfl,r,L⟩:=key k q;rw[flat_get U i j r L,J _ q];exact⟨hf i r j L,.d _ _ (hc i r j L)⟩
  refine⟨n,⟨z,fun u hu=>?_,.inl ⟨⟨b,off,none⟩,cap,rfl,fun k u q=>?_⟩⟩,I⟩
  ·obtain⟨k,q,rfl⟩:=VA hu;have h5:=I.2 k (by rw[←I.1];exact q);have :=h5.2.leaf h5.1
   rwa [jJ q]at this
  obtain⟨M,rfl⟩:=Ep.1 q;rw[addr_add];have O:k<ys.length*m:=by rw[←z];exact M
  obtain⟨i,j,e,r,L⟩:=key k O;have S:=hx i r j L;rw[←e]at S;obtain⟨u',hu'⟩:=WT.1 S;have :=J k O;rw[jJ M]at this;rw[this];simp[cellAt,hu']
structure FW (P:Program) (t e:TypeId) (size bytes:Nat):Prop where
 und:P.underlying t=some (.slice e)
 info:∃i z,P.info? e=some i/\i.zero=some z/\i.size=size/\i.bytes=bytes/\z.cells.size=size
 pos:0<size
def qw (P:BU) (t e size h:Nat):AO:=
 (match P.underlying t with |some (.slice e')=>e'=e|_=>false)&&(match P.info? e with |some i=>i.size=size&&(i.bytes=h)&&(match i.zero with |some z=>z.cells.size=size|none=>false)|none=>false)&&(0<size)
def LK {P:BU} {t e size j:Nat} (h:qw P t e size j=true):FW P t e size j:=by
 unfold qw at h;simp only[CS,Gj]at h;obtain⟨⟨m,n⟩,r⟩:=h;refine⟨?_,?_,r⟩
 ·split at m
  ·rename_i e' s;rw[s];simp at m;rw[m]
  cases m
 split at n
 ·rename_i i u;simp only[CS,Gj]at n;obtain⟨⟨I,J⟩,q⟩:=n;split at q
  ·rename_i z L;exact⟨i,z,u,L,I,J,JL⟩
  cases q
 cases n
def acN {w:Ai} {t e:BA} {ty:BA} {size J:Nat} (O:FW P t e size J) {v:Af} {n:Nat} {xs:AA Af} (s:w.ownsRow 0 e size v n xs) {x:Af} {m:Nat} {q:AA Af} (h:Ri w x m size q)
 (hb:(n+m)*J<=140737488355328) (hn:n+m<=maxLen):
 ∃v' w',(Builtin.append_ #[t,t] ty #[v,x]).run P w=.ok v' w'/\w'.ownsRow 0 e size v' (n+m) (xs++q)/\w.grownBy w' v.ownBlock/\(∀g,D5 v'=some g->D5 v=some g\/w.heap.size<=g):=by
 obtain⟨i,z,hi,hz,hs,S,hzs⟩:=O.info;rcases h.at_ with⟨ad,c,rfl,r⟩|⟨c,rfl,rfl⟩
 ·obtain⟨v',w',hr,ho',hg,hnil⟩:=run_append_own (P:=P) w 0 t ty e i z size J O.und hi hz hs S hzs O.pos v n xs s ad m c q h.len r h.one hn hb (LG _);refine⟨v',w',hr,ho',hg,fun g L=>?_⟩;rcases s.2 with⟨rfl,rfl⟩|⟨g0,cap,U,rfl,hbg,hg0,hnc,hcm,hcs,htake⟩
  ·have hx:xs=[]:=IG (by simpa using s.1);subst hx;obtain⟨v2,w2,I,ho2,_,_⟩:=run_append_own (P:=P) w w.heap.size t ty e i z size J O.und hi hz hs S hzs O.pos _ 0 [] (World.ownsRow_nil w w.heap.size e size) ad m c q h.len r h.one hn hb (Gt _);rw[hr]at I;simp only[Result.ok.injEq]at I;obtain⟨rfl,rfl⟩:=I;rcases ho2.2 with⟨rfl,_⟩|⟨g',_,_,rfl,hle,_⟩
   ·simp[D5]at L
   simp[D5]at L;subst L;exact .inr hle
  by_cases M:n+m<=cap
  ·have hfit:n*i.size+q.length<=U.size:=by rw[h.len,hcs,hs,←Nat.add_mul];exact JM _ M
   have I:=run_append_room (P:=P) w t ty e i O.und hi g0 n cap U hg0 ad m c q (by rw[hs];exact h.len) r h.one M hfit;rw[hr]at I;simp only[Result.ok.injEq]at I;obtain⟨rfl,rfl⟩:=I;exact .inl L
  have Y:∀(j:Nat) (u:Af),xs[j]? =some u->w.cell? ((⟨g0,0,none⟩:Addr).add j)=some u:=s.cells (g:=g0) rfl;have I:=run_append_grow (P:=P) w t ty e i z O.und hi hz ⟨g0,0,none⟩ n cap xs (by rw[hs];exact s.1) Y ad m c q (by rw[hs];exact h.len) r AL (by unfold maxLen at hn;omega) (growslice_fits AL (by rw[S];exact hb));rw[hr]at I;simp only[Result.ok.injEq]at I;obtain⟨rfl,rfl⟩:=I;simp[D5]at L;subst L;exact .inr (Gt _)
 have Z:q=[]:=IG (by simpa using h.len);subst Z;refine⟨v,w,?_,SG,⟨rfl,rfl,rfl,Gt _,fun _ _ _=>rfl⟩,fun g hg=>.inl hg⟩;rcases s.2 with⟨rfl,rfl⟩|⟨g,cap,U,rfl,_,_,hnc,_⟩
 ·simp[Builtin.append_,run_underlying O.und,sizeOf,typeInfo,hi,Builtin.lenOf,Builtin.firstCells]
 simp[Builtin.append_,run_underlying O.und,sizeOf,typeInfo,hi,Builtin.lenOf,Builtin.firstCells,hnc,storeCells]
def abO {w:Ai} {t e:BA} {ty:BA} {size s:Nat} (Y:FW P t e size s) {v:Af} {n:Nat} {xs:AA Af} (r:KN w e size v n xs) {x:Af} {m:Nat} {q:AA Af} (j:Ri w x m size q)
 (hb:(n+m)*s<=140737488355328) (hn:n+m<=maxLen):
 ∃v' w',(Builtin.append_ #[t,t] ty #[v,x]).run P w=.ok v' w'/\KN w' e size v' (n+m) (xs++q)/\w.grownBy w' v.ownBlock/\(∀g,D5 v'=some g->D5 v=some g\/w.heap.size<=g):=by
 rcases r.2 with h|⟨g,cap,M,rfl,h0,Z,hnc,hcm,hcs,O⟩
 ·obtain⟨v',w',h1,h2,S,h4⟩:=acN (ty:=ty) Y ⟨r.1,.inl h⟩ j hb hn;exact⟨v',w',h1,.of h2,S,h4⟩
 obtain⟨i,z,hi,hz,hs,hby,hzs⟩:=Y.info;have hlen:(xs++q).length=(n+m)*size:=by rw[Dp,r.1,j.len,Nat.add_mul]
 rcases j.at_ with⟨ad,c,rfl,I⟩|⟨c,rfl,rfl⟩
 ·by_cases u:n+m<=cap
  ·have L:n*i.size+q.length<=M.size:=by
    rw[j.len,hs,←Nat.add_mul];exact FZ (JM _ u) hcs
   have hr:=run_append_room (P:=P) w t ty e i Y.und hi g n cap M Z ad m c q (by rw[hs];exact j.len) I j.one u L;rw[hs]at hr L;refine⟨_,_,hr,⟨hlen,.inr ⟨g,cap,_,rfl,LG _,setRow_heap w g M _ e _ Z,u,hcm,?_,?_⟩⟩,⟨rfl,rfl,rfl,Bf,fun k _ hk=>setRow_other w g k _ (fun e=>hk (by simp[Value.ownBlock,e]))⟩,fun g' J=>.inl J⟩
   ·simp only[Y7,Dp,Qc,Ql,ML];omega
   rw[O,←hlen];exact iF
  obtain⟨v',w',h1,h2,S⟩:=run_append_arg_grows (P:=P) w t ty e i z size s Y.und hi hz hs hby hzs Y.pos ⟨g,0,none⟩ n cap xs r.1 (r.cells (g:=g) rfl) ad m c q j.len I AL hn hb;refine⟨v',w',h1,.of h2,⟨S.os,S.tape,S.output,S.size,fun k hk _=>S.block k hk Bf⟩,fun g' J=>.inr ?_⟩;rcases h2.2 with⟨rfl,_⟩|⟨g2,_,_,rfl,hle2,_⟩
  ·simp[D5]at J
  simp[D5]at J;subst J;exact hle2
 have U:q=[]:=IG (by simpa using j.len);subst U;refine⟨.slice (some ⟨g,0,none⟩) n cap,w,?_,OZ,⟨rfl,rfl,rfl,Gt _,fun _ _ _=>rfl⟩,fun g hg=>.inl hg⟩;simp[Builtin.append_,run_underlying Y.und,sizeOf,typeInfo,hi,Builtin.lenOf,Builtin.firstCells,hnc,storeCells]
def Cm.turn {C:DZ} {ok:Nat->Prop} {H:AA BG} {w w':Ai} (m:Cm C ok H es w) {k:Nat} {S e:Ad} {h h':BG} (hk:es[k]? =some S) (I:S.live=true) (hh:H[k]? =some h)
 (hos:w'.os=w.os) (J:w'.tape=w.tape) (U:w'.output=w.output) (L:w.heap.size<=w'.heap.size)
 (u:∀c,c<w.heap.size->D5 h.v≠some c->w'.heap[c]? =w.heap[c]?) (hb':∀g,D5 h'.v=some g->g<w'.heap.size/\(D5 h.v=some g\/w.heap.size<=g))
 (he:E8 ok w ok w'->Dc ok w' (H++[h']) h' e):Cm C ok (H++[h']) (es.set k .dead++[e]) w'/\E8 ok w ok w':=by
 have Y:=fun b hb=>m.blk k S h b hk I hh hb;have Z:k<es.length:=(Ep.1 hk).1;have hg:E8 ok w ok w':=fun c s=>⟨s,u c (m.oP c s) (fun e=>(Y c e).1 s)⟩
 refine m.change (fun c=>D5 h.v=some c) hos J U L u (fun c s _=>⟨(Y c s).1,(Y c s).2.2⟩) (fun _ h=>h) (fun _ h=>.inl h) (Gf _ _) (by simp[m.hlen]) ?_;intro j e' hj' hj q;rcases Tj hj with h1|⟨h1,h2⟩
 ·have hjl:j<H.length:=by rw[m.hlen];simpa using(Ep.1 h1).1
  rw[FP hjl]at q;rcases OG Z h1 with⟨rfl,rfl⟩|⟨M,h3⟩
  ·exact .inr ⟨trivial,fun h=>Ed⟩
  refine .inl ⟨h3,q,fun hl c s hcb=>M ?_⟩;exact m.Bz j k e' S hj' h c h3 hk hl I q hh s hcb
 subst h2;have hk2:j=H.length:=by rw[m.hlen];simpa using h1
 subst hk2;simp at q;subst q;refine .inr ⟨he hg,fun _ c s=>?_⟩;obtain⟨h3,n⟩:=hb' c s;refine⟨fun hok=>?_,h3,?_,fun k' e'' h'' M hk' O r z=>?_⟩
 ·rcases n with n|n
  ·exact(Y c n).1 hok
  have :=m.oP c hok;omega
 ·rcases n with n|n
  ·exact(Y c n).2.2
  exact .inl (FZ m.fr.size n)
 rcases Tj hk' with h5|⟨h5,_⟩
 ·have hkl':k'<H.length:=by rw[m.hlen];simpa using(Ep.1 h5).1
  rw[FP hkl']at r;rcases OG Z h5 with⟨rfl,rfl⟩|⟨hne',h6⟩
  ·cases O
  rcases n with n|n
  ·exact hne' (m.Bz k' k e'' S h'' h c h6 hk O I r hh z n)
  have :=(m.blk k' e'' h'' c h6 O r z).2.1;omega
 simp at h5;exact M (by rw[h5,m.hlen])
def qM {w:Ai} {e size n:Nat} {v:Af} {xs:AA Af} (h:KN w e size v n xs) {g:Nat} (j:D5 v=some g):g<w.heap.size:=by
 rcases h.2 with⟨rfl,_⟩|⟨q,_,_,rfl,_,m,_⟩
 ·simp[D5]at j
 simp[D5]at j;subst j;exact(JD.1 m).1
def qj {w:Ai} {e size n:Nat} {v:Af} {xs:AA Af} (h:KN w e size v n xs):v.ownBlock=D5 v:=by
 rcases h.2 with⟨rfl,_⟩|⟨j,_,_,rfl,_⟩<;>rfl
def TI {ok:Nat->Prop} {w:Ai} {H:AA BG} {k:Nat} {v:Af} {h:BG} (m:R ok w H (.dn k) v) (q:H[k]? =some h):v=h.v:=by
 cases m with
 |dn _ ad n cap s j=>rw[q]at j;rw[DU j]
def agm {C:DZ} {ok:Nat->Prop} {H:AA BG} {w:Ai} (O:Cm C ok H es w) {t ty e:BA} {size m k:Nat} {xs ys:AA D} (hE:FW P t e size m) (hk:es[k]? =some (.arr e size xs))
 {v x:Af} (hv:R ok w H (.dn k) v) {j:AA Af} (u:Ri w x ys.length size j) (r:Eo ok w H (Cj ys) j) (S:∀y∈ys,y.cells.length=size) (hb:(xs.length+ys.length)*m<=140737488355328) (hn:xs.length+ys.length<=maxLen):
 ∃v' w' H',(Builtin.append_ #[t,t] ty #[v,x]).run P w=.ok v' w'/\E8 ok w ok w'/\Names H H'/\Cm C ok H' (es.set k .dead++[.arr e size (xs++ys)]) w'/\R ok w' H' (.dn es.length) v':=by
 obtain⟨h,hh,U⟩:=NW O.ent O.hlen hk;obtain rfl:=TI hv hh;obtain⟨h1,h2,EO,q,Y⟩:=U;obtain⟨v',w',hr,s,z,I⟩:=abO (P:=P) (ty:=ty) hE q u hb hn
 obtain⟨h3,h4⟩:=O.turn (h':=⟨v',size⟩) (e:=.arr e size (xs++ys)) hk rfl hh z.os z.tape z.output z.size (fun c hc Z=>z.block c hc (by rw[qj q];exact fun e=>Z e.symm)) (fun g J=>⟨qM s J,I g J⟩) (fun L=>by
  refine⟨rfl,fun y hy=>?_,EO++j,SG,?_⟩
  ·rcases List.mem_append.1 hy with h|h
   ·exact h2 y h
   exact S y h
  have M:=Y.mono L (Gf H [⟨v',size⟩]);have a2:=r.mono L (Gf H [⟨v',size⟩]);rw[uJ];refine⟨by rw[Dp,Dp,M.1,a2.1],fun i hi=>?_⟩;by_cases n:i<(Cj xs).length
  ·have e1:(Cj xs++Cj ys).getD i .junk=(Cj xs).getD i .junk:=by simp[List.getD,FP n]
   have e2:(EO++j).getD i undef=EO.getD i undef:=by simp[List.getD,FP (by rw[M.1];exact n:i<EO.length)]
   rw[e1,e2];exact M.2 i n
  have hi3:i-(Cj xs).length<(Cj ys).length:=by rw[Dp]at hi;omega
  have e1:(Cj xs++Cj ys).getD i .junk=(Cj ys).getD (i-(Cj xs).length) .junk:=by simp[List.getD,H8 (NR n)]
  have e2:(EO++j).getD i undef=j.getD (i-(Cj xs).length) undef:=by simp[List.getD,H8 (by rw[M.1];omega:EO.length<=i),M.1]
  rw[e1,e2];exact a2.2 _ hi3)
 refine⟨v',w',_,hr,h4,Gf _ _,h3,?_⟩;have hH:(H++[(⟨v',size⟩:BG)])[es.length]? =some ⟨v',size⟩:=by rw[←O.hlen];simp
 rcases s.2 with⟨rfl,_⟩|⟨g',c',_,rfl,_⟩
 ·exact .dn _ _ _ _ size hH
 exact .dn _ _ _ _ size hH
def aeL {s x:BD} {t e:BA} {size j k:Nat} {xs ys:AA D} (L:FW P t e size j) (M:es[k]? =some (.arr e size xs)) (m:∀y∈ys,y.cells.length=size)
 (O:(xs.length+ys.length)*j<=140737488355328) (S:xs.length+ys.length<=maxLen) (U:o.op=.call { callee:=.builtin .append,args:= #[s,x],argTypes:= #[t,t] }):
 BJ P o [(s,.dn k),(x,.d (.sl ys))] es (.dn es.length) (es.set k .dead++[.arr e size (xs++ys)]):=
 .eff fun C ok H a w Y n=>by
  have z:=(F7 n).1;have I:=(F7 n).2;simp only at z I;have r:D8 ok w (.sl ys) (a.eval x):=by cases I with |d _ _ h=>exact h
  obtain⟨J,q,u⟩:=dK H r m;obtain⟨v',w',H',Z,r1,r2,r3,r4⟩:=agm (ty:=o.type) Y L M z q u m O S;refine⟨v',w',ok,H',.inl ?_,r1,r2,r3,r4⟩;simp[execOp,U,resolve,invoke,builtin,Z]
def xQ {C:DZ} {ok:Nat->Prop} {H:AA BG} {w:Ai} (m:Cm C ok H es w) (e:BA) (size:Nat):
 Cm C ok (H++[⟨.slice none 0 0,size⟩]) (es++[.arr e size []]) w/\R ok w (H++[⟨.slice none 0 0,size⟩]) (.dn es.length) (.slice none 0 0):=by
 obtain⟨h,_⟩:=m.change (ok':=ok) (w':=w) (H':=H++[⟨.slice none 0 0,size⟩]) (es':=es++[.arr e size []]) (fun _=>False) rfl rfl rfl (Gt _) (fun _ _ _=>rfl) (fun _ h=>h.elim) (fun _ h=>h) (fun _ h=>.inl h) (Gf _ _) (by simp[m.hlen]) (by
  intro k e' h' q j;rcases Tj q with n|⟨n,s⟩
  ·have r:k<H.length:=by rw[m.hlen];exact(Ep.1 n).1
   rw[FP r]at j;exact .inl ⟨n,j,fun _ _ _ h=>h⟩
  subst s;have r:k=H.length:=by rw[m.hlen];exact n
  subst r;simp at j;subst j
  exact .inr ⟨⟨rfl,Bf,[],⟨Bf,.inl ⟨rfl,rfl⟩⟩,QK,fun i u=>by simp[Cj]at u⟩,fun _ b z=>by simp[D5]at z⟩)
 exact⟨h,.dn _ _ _ _ size (by rw[←m.hlen];simp)⟩
def KR (e:BA) (size:Nat) (h:o.op=.assign (.const (.slice none 0 0))):BJ P o [] es (.dn es.length) (es++[.arr e size []]):=
 .eff fun C ok H a w j _=>by
  obtain⟨m,n⟩:=xQ j e size;exact⟨.slice none 0 0,w,ok,_,.inl aB,.refl _ _,Gf _ _,m,n⟩
def adD (h:o.op=.assign (.const (.slice none 0 0))):BJ P o [] es (.d (.sl [])) es:=
 .pure fun _ _ a w _ _ _=>⟨.slice none 0 0,aB,.d _ _ (.sl0 none 0)⟩
def abm (h:o.op=.move (.const (.slice none 0 0))):BJ P o [] es (.d (.sl [])) es:=
 .pure fun _ _ a w _ _ _=>⟨.slice none 0 0,aB,.d _ _ (.sl0 none 0)⟩
end
def wW (off:Nat):∀(vs:AA Af) (i:Nat) (cells:Aw Af),off+i+vs.length<=cells.size->
 ((vs.zipIdx i).foldl (fun cs (p:Af×Nat)=>cs.setIfInBounds (off+p.2) p.1) cells).toList=setAt cells.toList (off+i) vs
 | [],i,cells,h=>by simp[setAt]
 |v::vs,i,cells,h=>by
  simp only[PN]at h;rw[List.zipIdx_cons,XP];rw[wW off vs (i+1) _ Hy];simp only[qK];have j:off+i<cells.toList.length:=Hy
  unfold setAt;rw[wB,EX j];have m:(cells.toList.take (off+i)).length=off+i:=Hy
  have n:(List.take (off+i) cells.toList++v::List.drop (off+i+1) cells.toList).take (off+(i+1))=cells.toList.take (off+i)++[v]:=by
   rw[List.take_append,m,VO AL];have :off+(i+1)-(off+i)=1:=AL
   rw[this];simp
  have q:(List.take (off+i) cells.toList++v::List.drop (off+i+1) cells.toList).drop (off+(i+1)+vs.length)=cells.toList.drop (off+i+(vs.length+1)):=by
   rw[List.drop_append,m,dh AL];have :off+(i+1)+vs.length-(off+i)=vs.length+1:=AL
   rw[this];simp[dB];congr 1;omega
  rw[n,q];simp
def JQ :AA (Nat×BD)->AA AP->AA (BD×AP)
 |(_,x)::h,v::vs=>(x,v)::JQ h vs
 |_,_=>[]
def JA (place:Nat->AB (Nat×Nat)) (n:Nat):AA (Nat×BD)->AA AP->AO
 |(i,_)::h,v::vs=>(match place i with |some (off,s)=>v.cells.length=s&&(off+s<=n)&&v.cells.all AP.leaf|none=>false)&&JA place n h vs
 | [],[]=>true
 |_,_=>false
def Gh (place:Nat->AB (Nat×Nat)):AA AP->AA (Nat×BD)->AA AP->AA AP
 |cs,(i,_)::h,v::vs=>Gh place (setAt cs ((place i).getD (0,0)).1 v.cells) h vs
 |cs,_,_=>cs
def Eo.setAt {ok:Nat->Prop} {w:Ai} {H:AA BG} {cs ys:AA AP} {vs us:AA Af} {off:Nat} (h:Eo ok w H cs vs) (k:Eo ok w H ys us) (j:off+ys.length<=cs.length):Eo ok w H (setAt cs off ys) (setAt vs off us):=by
 refine⟨by rw[Oz (by rw[h.1,k.1];exact j),Oz j,h.1],fun i m=>?_⟩;rw[Oz j]at m;rw[YS j,YS (by rw[h.1,k.1];exact j),k.1];split
 ·exact k.2 _ AL
 exact h.2 i m
def Ws {ok:Nat->Prop} {w:Ai} {H:AA BG} {place:Nat->AB (Nat×Nat)} {a:Act}:∀(m:AA (Nat×BD)) (vs:AA AP) (cs:AA AP) (cells:Aw Af),Eo ok w H cs cells.toList->JA place cs.length m vs=true->
 (∀n∈JQ m vs,R ok w H n.2 (a.eval n.1))->∃j,Instr.fill place cells (m.map fun p=>(p.1,a.eval p.2))=some j/\Eo ok w H (Gh place cs m vs) j.toList
 | [],[],cs,cells,z,_,_=>⟨cells,rfl,z⟩
 | [],_::_,_,_,_,h,_=>by simp[JA]at h
 |_::_,[],_,_,_,h,_=>by simp[JA]at h
 |(i,x)::m,v::vs,cs,cells,z,h,L=>by
  simp only[JA,CS]at h;obtain⟨q,S⟩:=h;cases I:place i with
  |none=>rw[I]at q;cases q
  |some os=>
   obtain⟨off,s⟩:=os;rw[I]at q;simp only[CS,Gj]at q;obtain⟨⟨h3,h4⟩,U⟩:=q;have M:Eo ok w H v.cells (a.eval x).cells.toList:=(L (x,v) (by simp[JQ])).Nv U;have Y:(a.eval x).cells.size=s:=by have :=M.1;simp at this;omega
   have O:cells.size=cs.length:=by simpa using z.1
   have r:((a.eval x).cells.zipIdx.foldl (fun cs (p:Af×Nat)=>cs.setIfInBounds (off+p.2) p.1) cells).toList=setAt cells.toList off (a.eval x).cells.toList:=by
    rw[←Array.foldl_toList,Array.toList_zipIdx];exact wW off (a.eval x).cells.toList 0 cells Hy
   have u:=z.setAt M (off:=off) AL;rw[←r]at u;obtain⟨j,Z,hR⟩:=Ws m vs (setAt cs off v.cells) _ u (by rw[Oz AL];exact S) (fun n J=>L n (by simp[JQ,J]));refine⟨j,?_,?_⟩
   ·simp only[Oi,Instr.fill,I];rw[EW Hy];exact Z
   simp only[Gh,I,RF];exact hR
def KH (z:Af) (n:Nat):AA AP:=(List.range n).map fun k=>(DY z).getD (k % z.cells.size) .junk
def acj {ok:Nat->Prop} {w:Ai} {H:AA BG} {z:Af} {n:Nat} (m:z.cells.all (·.oneCell')=true) (q:0<z.cells.size):Eo ok w H (KH z n) (((Array.range n).map (z.cells[· % z.cells.size]!)).toList):=by
 refine⟨by simp[KH],fun i r=>?_⟩;have h:i<n:=by simpa[KH]using r
 have j:i % z.cells.size<z.cells.size:=Nat.mod_lt _ q;have s:(KH z n).getD i .junk=.d (MF z.cells[i % z.cells.size]):=by simp[KH,DY,List.getD,h,j]
 have u:(((Array.range n).map (z.cells[· % z.cells.size]!)).toList).getD i undef=z.cells[i % z.cells.size]:=by simp[List.getD,h,j]
 rw[s,u];exact⟨Z8 ((NU.1 m) _ Bf),.d _ _ (X4 _)⟩
def uF {ok:Nat->Prop} {w:Ai} {H:AA BG} {z:Af} (j:z.cells.all (·.oneCell')=true):Eo ok w H (DY z) z.cells.toList:=by
 refine⟨by simp[DY],fun i h=>?_⟩;simp only[DY,Dn,ML]at h;have m:(DY z).getD i .junk=.d (MF z.cells[i]):=by simp[DY,List.getD,h]
 have n:z.cells.toList.getD i undef=z.cells[i]:=by simp[List.getD,h]
 rw[m,n];exact⟨Z8 ((NU.1 j) _ Bf),.d _ _ (X4 _)⟩
def lK {P:BU} {w:Ai}:∀(l:AA Field),(∀f∈l,(P.info? f.type).isSome=true)->
 (l.mapM fun f=>(do pure (f.offset,←sizeOf f.type):Sem (Nat×Nat))).run P w=.ok (l.map fun f=>(f.offset,P.cellsOf f.type)) w
 | [],_=>rfl
 |f::l,h=>by
  obtain⟨i,j⟩:=WT.1 (h f Bf);have m:=lK (P:=P) (w:=w) l (fun g n=>h g (by simp[n]));have q:(sizeOf f.type).run P w=.ok i.size w:=by simp[sizeOf,typeInfo,j]
  have r:P.cellsOf f.type=i.size:=by simp[Program.cellsOf,j]
  simp only[List.mapM_cons,EN,q,ES,Ej,m,Oi,r]
structure JR (P:Program) (t:TypeId) (places:List (Nat×Nat)) (z:Value):Prop where
 fields:∃fs,P.underlying t=some (.struct fs)/\(∀f∈fs.toList,(P.info? f.type).isSome=true)/\(fs.toList.map fun f=>(f.offset,P.cellsOf f.type))=places
 zero:(P.info? t).bind (·.zero)=some z
 one:z.cells.all (·.oneCell')=true
def qN (P:BU) (t:BA) (h:AA (Nat×Nat)):AO:=
 match P.underlying t with
 |some (.struct j)=>j.toList.all (fun f=>(P.info? f.type).isSome)&&decide ((j.toList.map fun f=>(f.offset,P.cellsOf f.type))=h)
 |_=>false
def MG {P:BU} {t:BA} {j:AA (Nat×Nat)} {z:Af} (h:qN P t j=true) (m:(P.info? t).bind (·.zero)=some z) (n:z.cells.all (·.oneCell')=true):JR P t j z:=by
 unfold qN at h;split at h
 ·rename_i q r;simp only[CS,Dz,Gj]at h;exact⟨⟨q,r,h.1,h.2⟩,m,n⟩
 cases h
section
variable {P:BU} {o:Oper} {es:AA Ad}
def Zi {t:BA} {z:Af} (j:(P.info? t).bind (·.zero)=some z) (w:Ai):(zeroValue t).run P w=.ok z w:=by
 obtain⟨i,m,h⟩:=dV.1 j;simp[zeroValue,typeInfo,m,h]
def ni {l:AA AP} (h:l.all AP.oZ=true):l=(FN l).map .d:=by
 rw[Dz]at h;unfold FN;rw[List.map_map]
 conv=>lhs;rw[←List.map_id l]
 refine List.map_congr_left fun x j=>?_;have :=h x j;cases x<;>first|rfl|(simp[AP.oZ]at this)
def adq {t:BA} {m:Aw (Nat×BD)} {j:AA (Nat×Nat)} {z:Af} (Z:JR P t j z) (vs:AA AP) (hp:JA (fun(i:Nat)=>j[i]?) (DY z).length m.toList vs=true)
 (hd:(Gh (fun(i:Nat)=>j[i]?) (DY z) m.toList vs).all AP.oZ=true) (ho:o.op=.build t m):
 BJ P o (JQ m.toList vs) es (.d (.agg (FN (Gh (fun(i:Nat)=>j[i]?) (DY z) m.toList vs)))) es:=
 .pure fun ok H a w _ _ hn=>by
  obtain⟨⟨S,hu,hf,r⟩,hz,h1⟩:=Z;have s:=Zi (P:=P) hz w;have u:(underlying t).run P w=.ok (.struct S) w:=by simp[underlying,hu]
  have hm:(S.mapM fun f=>(do pure (f.offset,←sizeOf f.type):Sem (Nat×Nat))).run P w=.ok j.toArray w:=by
   rw[xC];rw[Sem.run_map,lK _ hf,r];rfl
  obtain⟨n,hc,I⟩:=Ws (place:=fun(i:Nat)=>j[i]?) m.toList vs (DY z) z.cells (uF (ok:=ok) (w:=w) (H:=H) h1) hp hn;refine⟨.agg n,?_,.d _ _ ?_⟩
  ·have e:(m.map fun(i,x)=>(i,a.eval x)).toList=m.toList.map fun p=>(p.1,a.eval p.2):=Bf
   have e2:(fun(i:Nat)=>j.toArray[i]?)=(fun(i:Nat)=>j[i]?):=by funext i;simp
   simp only[execOp,ho,Instr.build,EN,s,u,hm,ES];rw[e,e2,hc];rfl
  rw[ni hd]at I;generalize FN (Gh (fun(i:Nat)=>j[i]?) (DY z) m.toList vs)=xs at I ⊢;obtain⟨U,J⟩:=I;simp only[Dn]at U J
  have Y:∀i,i<xs.length->(xs.map AP.d).getD i .junk=.d (xs.getD i CV):=by
   intro i q;simp[List.getD,q]
  have L:n.size=xs.length:=by simpa using U
  refine .agg xs n L ?_ ?_<;>intro i q
  ·have :=(J i q).1;rw[Y i q]at this;exact this
  have M:=(J i q).2;rw[Y i q]at M;have O:i<n.size:=AL
  have e:n.toList.getD i undef=n.getD i undef:=by simp[List.getD,Array.getD,O]
  rw[e]at M;cases M with |d _ _ h=>exact h
def adn {ok:Nat->Prop} {w:Ai} {H:AA BG} {ys:AA D} {size b:Nat} {cells:Aw Af} {e:BA} {fr:Nat×Nat} (q:∀y∈ys,y.cells.length=size) (L:w.heap[b]? =some (.cells cells e fr)) (r:ok b) (s:Eo ok w H (Cj ys) cells.toList):
 D8 ok w (.sl ys) (.slice (some ⟨b,0,none⟩) ys.length ys.length):=by
 have I:=Oa q;have u:cells.size=ys.length*size:=by have :=s.1;simp at this;omega
 have M:∀i,i<ys.length->ys.getD i CV∈ys:=fun i m=>UM
 have z:∀i j,i<ys.length->j<size->i*size+j<ys.length*size:=by
  intro i j m n
  calc i*size+j<i*size+size:=AL
   _=(i+1)*size:=by rw[Pq]
   _<=ys.length*size:=JM _ m
 have J:∀i j,i<ys.length->j<size->w.cell? ⟨b,0+(i*size+j),none⟩=some (cells.toList.getD (i*size+j) undef):=by
  intro i j m n;have :=z i j m n;rw[KP];simp[World.cell?,L,u,this,List.getD]
 refine .sl ys b 0 ys.length size (Gt _) (fun _ _=>r) (fun i m=>q _ (M i m)) (fun i m j n=>?_) (fun i m j n=>?_) (fun i m j n=>?_)
 ·have :=(s.2 (i*size+j) (by rw[I];exact z i j m n)).1;rw[flat_get q i j m n]at this;exact this
 ·rw[J i j m n];rfl
 have :=(s.2 (i*size+j) (by rw[I];exact z i j m n)).2;rw[flat_get q i j m n]at this;unfold cellAt;rw[J i j m n];cases this with |d _ _ h=>exact h
def ace {t e:BA} {size m len:Nat} {z:Af} (L:FW P t e size m) (hz:(P.info? e).bind (·.zero)=some z) (h1:z.cells.all (·.oneCell')=true) (M:z.cells.size=size) (hlen:len*size<=16777216) {h:Aw (Nat×BD)} {vs:AA AP}
 (hp:JA (fun i=>some (i*size,size)) (len*size) h.toList vs=true) {ok:Nat->Prop} {w:Ai} {H:AA BG} {a:Act} (hn:∀n∈JQ h.toList vs,R ok w H n.2 (a.eval n.1)):
 ∃cells,(Instr.buildSlice t len (h.map fun(i,x)=>(i,a.eval x))).run P w=.ok (.slice (some ⟨w.heap.size,0,none⟩) len len) (w.alloc (.cells cells e))/\Eo ok w H (Gh (fun i=>some (i*size,size)) (KH z (len*size)) h.toList vs) cells.toList:=by
 obtain⟨i,z',hi,_,hs,_,_⟩:=L.info;have O:=Zi (P:=P) hz w;have q:(sizeOf e).run P w=.ok size w:=by simp[sizeOf,typeInfo,hi,hs]
 have r:(underlying t).run P w=.ok (.slice e) w:=by simp[underlying,L.und]
 have Z:(h.map fun(i,x)=>(i,a.eval x)).toList=h.toList.map fun p=>(p.1,a.eval p.2):=Bf
 have S:(KH z (len*size)).length=len*size:=by simp[KH]
 have s:0<z.cells.size:=by rw[M];exact L.pos
 obtain⟨j,U,hR⟩:=Ws (place:=fun i=>some (i*size,size)) h.toList vs (KH z (len*size)) _ (acj (ok:=ok) (w:=w) (H:=H) (n:=len*size) h1 s) (by rw[S];exact hp) hn;refine⟨j,?_,hR⟩;have u:¬(len*size>2^24):=AL
 by_cases I:len*size=0
 ·have Y:(Array.range (len*size)).map (fun k=>(z.cells[k % z.cells.size]! :Af))= #[]:=by rw[I];simp
  rw[Y]at U;have J:(Array.range (len*size)).map (fun k=>((#[]:Aw Af)[k % (#[]:Aw Af).size]! :Af))= #[]:=by rw[I];simp
  simp only[Instr.buildSlice,EN,r,ES,q,u,O6,Sem.run_ite,I,Kr,Ej];simp only[I]at J;rw[J,Z,U];rfl
 simp only[Instr.buildSlice,EN,r,ES,q,u,O6,Sem.run_ite,I,O,Ej];rw[Z,U];rfl
def acr {t e:BA} {size j len:Nat} {z:Af} (u:FW P t e size j) (I:(P.info? e).bind (·.zero)=some z) (J:z.cells.all (·.oneCell')=true) (q:z.cells.size=size) (hlen:len*size<=16777216) {h:Aw (Nat×BD)} (vs:AA AP) (ys:AA D)
 (L:JA (fun i=>some (i*size,size)) (len*size) h.toList vs=true) (r:Gh (fun i=>some (i*size,size)) (KH z (len*size)) h.toList vs=Cj ys) (M:ys.length=len) (m:ys.all (fun y=>y.cells.length=size)=true) (O:o.op=.buildSlice t len h):
 BJ P o (JQ h.toList vs) es (.d (.sl ys)) es:=
 .eff fun C ok H a w S U=>by
  obtain⟨cells,Y,n⟩:=ace u I J q hlen L U;rw[r]at n;obtain⟨Z,s⟩:=S.fresh (.cells cells e);refine⟨.slice (some ⟨w.heap.size,0,none⟩) len len,_,_,H,.inl ?_,s,.refl _,Z,.d _ _ ?_⟩
  ·simp only[execOp,O,EN,Y,ES,Ej]
  rw[←M];exact adn (H:=H) (fun y r=>by rw[Dz]at m;simpa using m y r) (Ue w _) (.inr rfl) (n.mono s (.refl _))
end
section
variable {P:BU} {ops:Aw Oper} {Q:Exit->Act->Ai->Prop} {φ:Nat->Af->Ai->Prop} {W:Ai} {a0:Act} {i:Nat}
variable {d:AB Tmp} {t:BA} {p:String} {af:Aw Edge} {g:AB (Nat×AO)}
def Enters (P:BU) (f:FuncId):Prop:=∀args w,(callFunc f args).run P w=.ok (.enter f args) w
def enters_of {f:FuncId} {fn:Func} {c:Code} (j:P.funcs[f]? =some fn) (h:(fn.name== "runtime.NumGoroutine")=false) (m:fn.body=some c):Enters P f:=by
 intro args w;have n:fn.name≠ "runtime.NumGoroutine" :=QG
 simp[callFunc,j,n,m]
def Eb (P:BU) (f:FuncId):AO:=match P.funcs[f]? with
 |some fn=> !(fn.name== "runtime.NumGoroutine")&&fn.body.isSome
 |none=>false
def aK {f:FuncId} (h:Eb P f=true):Enters P f:=by
 unfold Eb at h;cases j:P.funcs[f]? with
 |none=>rw[j]at h;cases h
 |some fn=>
  rw[j]at h;simp only[CS,RQ]at h;obtain⟨c,m⟩:=WT.1 h.2;exact enters_of j h.1 m
def afl {o:Oper} {a:Act} {f:FuncId} {ats:Aw BA} {adQ:Aw BD} (h:o.op=.call { callee:=.value (.func f),args:=adQ,argTypes:=ats }):execOp a.eval o=callFunc f (adQ.map a.eval):=by
 have j:a.eval (.func f)=.func (.func f) #[] #[]:=rfl;unfold execOp;simp[h,resolve,Deferred.ofValue,invoke,j]
end
inductive Bv where
 |ent (k:Nat)
 |nil (size:Nat)
def Bv.hd (H:AA BG):Bv->BG
 | .ent k=>H.getD k ⟨undef,0⟩
 | .nil s=>⟨.slice none 0 0,s⟩
def AP.zk (srcs:AA Bv) (n:Nat):AP->AP
 | .d x=>.d x
 | .ptr k off=>match srcs[k]? with |some (.ent j)=>.ptr j off|some (.nil _)=>.junk|none=>.ptr (n+(k-srcs.length)) off
 | .dn k=>match srcs[k]? with |some (.ent j)=>.dn j|some (.nil _)=>.junk|none=>.dn (n+(k-srcs.length))
 | .iG k i off=>match srcs[k]? with |some (.ent j)=>.iG j i off|some (.nil _)=>.junk|none=>.iG (n+(k-srcs.length)) i off
 | .mp k=>match srcs[k]? with |some (.ent j)=>.mp j|some (.nil _)=>.junk|none=>.mp (n+(k-srcs.length))
 | .nN k=>match srcs[k]? with |some (.ent j)=>.nN j|some (.nil _)=>.junk|none=>.nN (n+(k-srcs.length))
 | .clip xs=>.clip xs
 |_=>.junk
def AP.up (srcs:AA Bv) (n:Nat):AP->AP
 | .gV xs=>.gV (xs.map (AP.zk srcs n))
 | .fn f fi ca=>.fn f (fi.map (AP.zk srcs n)) (ca.map (AP.zk srcs n))
 |x=>x.zk srcs n
def iO (srcs:AA Bv):AP->AP->Prop
 | .d x,y=>y=.d x
 | .ptr k off,y=>∃i,y=.ptr i off/\srcs[i]? =some (.ent k)
 | .mp k,y=>∃i,y=.mp i/\srcs[i]? =some (.ent k)
 |_,_=>False
def Tm (srcs:AA Bv):AA AP->AA AP->Prop
 |x::xs,y::ys=>iO srcs x y/\Tm srcs xs ys
 | [],[]=>True
 |_,_=>False
def Sj {srcs:AA Bv}:∀{xs ys:AA AP},Tm srcs xs ys->xs.length=ys.length
 | [],[],_=>rfl
 |_::xs,_::ys,h=>by simp[Sj h.2]
 | [],_::_,h=>h.elim
 |_::_,[],h=>h.elim
def dA {srcs:AA Bv}:∀{xs ys:AA AP},Tm srcs xs ys->∀i,i<ys.length->iO srcs (xs.getD i .junk) (ys.getD i .junk)
 | [],[],_,i,j=>NG
 |_::xs,_::ys,h,0,_=>by simpa using h.1
 |_::xs,_::ys,h,i+1,j=>by simpa using dA h.2 i JE
 | [],_::_,h,_,_=>h.elim
 |_::_,[],h,_,_=>h.elim
def sH (srcs:AA Bv):AP->AP->Prop
 | .fn f fi ca,y=>∃h j,y=.fn f h j/\Tm srcs fi h/\Tm srcs ca j
 | .d x,y=>y=.d x\/(∃i s,x=.lit (.slice none 0 0)/\y=.dn i/\srcs[i]? =some (.nil s))\/(x=.lit (.slice none 0 0)/\y=.d (.sl []))
 | .dn k,y=>∃i,y=.dn i/\srcs[i]? =some (.ent k)
 | .ptr k off,y=>∃i,y=.ptr i off/\srcs[i]? =some (.ent k)
 | .mp k,y=>∃i,y=.mp i/\srcs[i]? =some (.ent k)
 |_,_=>False
def Ad.closed:Ad->AO
 | .box cs=>cs.all AP.oZ
 | .loop .. =>false
 |_=>true
def Dc.any {ok:Nat->Prop} {w:Ai} {H H2:AA BG} {h:BG} {e:Ad} (n:Dc ok w H h e) (u:e.closed=true):Dc ok w H2 h e:=by
 cases e with
 |dead=>trivial
 |box cs=>
  obtain⟨b,vs,T,z,I,J,r⟩:=n;refine⟨b,vs,T,z,I,J,fun i j=>⟨(r i j).1,?_⟩⟩;have q:=(r i j).2;simp only[Ad.closed,Dz]at u;have m:=u (cs.getD i .junk) MQ;cases M:cs.getD i .junk with
  |d x=>rw[M]at q;cases q with |d _ _ h=>exact .d _ _ h
  |_=>rw[M]at m;simp[AP.oZ]at m
 |arr e s es=>
  obtain⟨z,I,xs,J,r,q⟩:=n;refine⟨z,I,xs,J,r,fun i j=>⟨(q i j).1,?_⟩⟩;have m:=(q i j).2;have L:(Cj es).getD i .junk∈Cj es:=MQ
  unfold Cj at L ⊢;simp only[List.mem_flatMap,Pz]at L;obtain⟨x,_,y,_,O⟩:=L;unfold Cj at m;rw[←O]at m ⊢;cases m with |d _ _ h=>exact .d _ _ h
 |map es=>exact n
 |FU es=>exact n
 |iter es S=>exact n
 |loop=>cases u
def Ad.up (srcs:AA Bv) (n:Nat):Ad->Ad
 | .box cs=>.box (cs.map (AP.zk srcs n))
 |e=>e
def AP.PI (srcs:AA Bv):AP->AO
 | .d _=>true
 | .mp k=>match srcs[k]? with |some (.ent _)=>true|_=>false
 | .ptr k _=>match srcs[k]? with |some (.ent _)=>true|_=>false
 |_=>false
def Ad.Lr (srcs:AA Bv):Ad->AO
 | .box cs=>cs.all (AP.PI srcs)
 | .loop .. =>false
 |_=>true
def Ad.Ny (srcs:AA Bv) (n:Nat):Ad->AO
 | .box cs=>cs.all fun x=>x.oZ||(x.zk srcs n).leaf
 | .loop .. =>false
 |_=>true
def Ad.E5 (srcs:AA Bv) (n:Nat) (e:Ad):(e.up srcs n).live=e.live:=by cases e<;>rfl
def qy {srcs:AA Bv} {n:Nat} {x:AP} (h:x.oZ=true):x.zk srcs n=x:=by cases x<;>first|rfl|cases h
def Ad.Va {srcs:AA Bv} {n:Nat} {e:Ad} (h:e.closed=true):e.up srcs n=e:=by
 cases e with
 |box cs=>
  simp only[Ad.closed,Dz]at h;show Ad.box (cs.map (AP.zk srcs n))=Ad.box cs
  rw[show cs.map (AP.zk srcs n)=cs from by
   conv=>rhs;rw[←List.map_id cs]
   exact List.map_congr_left fun x j=>qy (h x j)]
 |_=>rfl
def pR {srcs:AA Bv} {n:Nat}:∀{E:AA Ad},E.all Ad.closed=true->E.map (Ad.up srcs n)=E
 | [],_=>rfl
 |e::E,h=>by
  simp only[List.all_cons,CS]at h;rw[Oi,Ad.Va h.1,pR h.2]
def abj {srcs:AA Bv} {n:Nat} {e:Ad} (h:e.closed=true):e.Ny srcs n=true:=by
 cases e with
 |box cs=>
  simp only[Ad.closed,Ad.Ny,Dz]at h ⊢;intro x j;rw[h x j];rfl
 |loop=>cases h
 |_=>rfl
def Dc.down {ok:Nat->Prop} {w:Ai} {H Hc:AA BG} {h:BG} {srcs:AA Bv} {n:Nat} {e:Ad} (L:∀(j:Nat) (s:Bv),srcs[j]? =some s->Hc[j]? =some (Bv.hd H s)) (hd:e.Lr srcs=true) (u:Dc ok w H h (e.up srcs n)):Dc ok w Hc h e:=by
 cases e with
 |dead=>trivial
 |arr=>exact u.any rfl
 |map=>exact u
 |FU=>exact u
 |iter=>exact u
 |loop=>cases hd
 |box cs=>
  obtain⟨b,vs,T,M,O,S,U⟩:=u;refine⟨b,vs,T,M,O,by rw[S,Dn],fun i z=>?_⟩;obtain⟨I,q⟩:=U i (by rw[Dn];exact z);rw[N8 _ _ _ z]at q I;simp only[Ad.Lr,Dz]at hd;have m:=hd (cs.getD i .junk) (by simp[List.getD,z]);generalize cs.getD i .junk=x at q m I ⊢;generalize vs.toList.getD i undef=v at q ⊢;cases x with
  |d x=>exact⟨I,by cases q with |d _ _ h=>exact .d _ _ h⟩
  |mp k=>
   refine⟨rfl,?_⟩;simp only[AP.PI]at m;simp only[AP.zk]at q;cases r:srcs[k]? with
   |none=>rw[r]at m;cases m
   |some s=>
    cases s with
    |nil _=>rw[r]at m;cases m
    |ent j=>
     rw[r]at q;cases q with
     |mp _ _ s Y J=>
      refine .mp k _ s Y ?_;rw[L k _ r];simp[Bv.hd,List.getD,J]
  |ptr k off=>
   refine⟨rfl,?_⟩;simp only[AP.PI]at m;simp only[AP.zk]at q;cases r:srcs[k]? with
   |none=>rw[r]at m;cases m
   |some s=>
    cases s with
    |nil _=>rw[r]at m;cases m
    |ent j=>
     rw[r]at q;cases q with
     |ptr _ _ b s J=>
      refine .ptr k off b s ?_;rw[L k _ r];simp[Bv.hd,List.getD,J]
  |_=>simp[AP.PI]at m
def GH (srcs:AA Bv) (es E':AA Ad):AA Ad:=
 (es.zipIdx.map fun(e,j)=>match srcs.findIdx? (fun s=>match s with | .ent k=>k==j| .nil _=>false)with |some i=>(E'.getD i .dead).up srcs es.length|none=>e)++(E'.drop srcs.length).map (Ad.up srcs es.length)
def Je (srcs:AA Bv) (es E E':AA Ad):AO:=
 decide (srcs.length=E.length)&&(srcs.length<=E'.length)&&E.all (Ad.Lr srcs)&&E'.all (Ad.Ny srcs es.length)&&
 decide ((srcs.filterMap fun s=>match s with | .ent k=>some k| .nil _=>none).Nodup)&&
 ((srcs.zip E').all fun p=>match p.1 with | .ent _=>true| .nil _=> !p.2.live)&&(srcs.all fun s=>match s with | .ent k=>k<es.length&&(es.getD k .dead).live| .nil _=>true)
def Uk (srcs:AA Bv) (es:AA Ad):AA Ad->Prop
 |E=>∀(i:Nat) (s:Bv),srcs[i]? =some s->match s with | .ent k=>(E[i]?).map (Ad.up srcs es.length)=es[k]? | .nil sz=>∃e,E[i]? =some (.arr e sz [])
def LH {ok:Nat->Prop} {w:Ai} {H Hc H':AA BG} {srcs:AA Bv} {x:AP} {v:Af} (O:Hc=srcs.map (Bv.hd H)) (I:∀(i k:Nat),srcs[i]? =some (.ent k)->k<H.length) (S:Names Hc H') (h:R ok w H' x v):R ok w (H++H'.drop srcs.length) (x.zk srcs H.length) v:=by
 have key:∀(k:Nat) (hd:BG),H'[k]? =some hd->(∀(j:Nat),srcs[k]? =some (.ent j)->(H++H'.drop srcs.length)[j]? =some hd)/\(srcs[k]? =none->(H++H'.drop srcs.length)[H.length+(k-srcs.length)]? =some hd):=by
  intro k hd L;refine⟨fun j M=>?_,fun J=>?_⟩
  ·have u:=I k j M;have r:Hc[k]? =some (H.getD j ⟨undef,0⟩):=by rw[O,Iw,M];rfl
   have q:=S _ _ r;rw[L]at q;rw[FP u];simp[List.getD,u]at q;simp[u,q]
  have U:srcs.length<=k:=YO
  rw[H8 AL,OX];have :srcs.length+(H.length+(k-srcs.length)-H.length)=k:=AL
  rw[this,L]
 cases h with
 |d x v h=>exact .d x v h
 |ptr k off b s h=>
  obtain⟨r,q⟩:=key k _ h;simp only[AP.zk];split<;>rename_i m
  ·exact .ptr _ off b s (r _ m)
  ·exact .junk _
  exact .ptr _ off b s (q m)
 |dn k ad n cap s h=>
  obtain⟨r,q⟩:=key k _ h;simp only[AP.zk];split<;>rename_i m
  ·exact .dn _ ad n cap s (r _ m)
  ·exact .junk _
  exact .dn _ ad n cap s (q m)
 |iG k i off b n cap s h=>
  obtain⟨r,q⟩:=key k _ h;simp only[AP.zk];split<;>rename_i m
  ·exact .iG _ i off b n cap s (r _ m)
  ·exact .junk _
  exact .iG _ i off b n cap s (q m)
 |mp k v s z h=>
  obtain⟨r,q⟩:=key k _ h;simp only[AP.zk];split<;>rename_i m
  ·exact .mp _ v s z (r _ m)
  ·exact .junk _
  exact .mp _ v s z (q m)
 |clip xs ad h=>exact .clip xs ad h
 |nN k ad n cap s h=>
  obtain⟨r,q⟩:=key k _ h;simp only[AP.zk];split<;>rename_i m
  ·exact .nN _ ad n cap s (r _ m)
  ·exact .junk _
  exact .nN _ ad n cap s (q m)
 |fn f first cap vs us z Y h h'=>exact .junk _
 |gV xs vs z h=>exact .junk _
 |ag xs vs z Z h=>exact .junk _
 |junk v=>exact .junk _
def ug {ok:Nat->Prop} {w:Ai} {H Hc H':AA BG} {srcs:AA Bv} {x:AP} {v:Af} (q:Hc=srcs.map (Bv.hd H)) (j:∀(i k:Nat),srcs[i]? =some (.ent k)->k<H.length) (r:Names Hc H') (h:R ok w H' x v):R ok w (H++H'.drop srcs.length) (x.up srcs H.length) v:=by
 cases h with
 |gV xs vs u h=>exact .gV _ vs Qj (fun i m=>qo)
 |ag xs vs u I h=>exact .junk _
 |d x v h=>exact LH q j r (.d x v h)
 |ptr k off b s h=>exact LH q j r (.ptr k off b s h)
 |dn k ad n cap s h=>exact LH q j r (.dn k ad n cap s h)
 |iG k i off b n cap s h=>exact LH q j r (.iG k i off b n cap s h)
 |mp k v s u h=>exact LH q j r (.mp k v s u h)
 |clip xs ad h=>exact LH q j r (.clip xs ad h)
 |nN k ad n cap s h=>exact LH q j r (.nN k ad n cap s h)
 |fn f first cap vs us u z h h'=>exact .fn f _ _ vs us Qj (by simp[z]) (fun i m=>qo) (fun i m=>by rw[Dn]at m;rw[N8 _ _ _ m];exact LH q j r (h' i m))
 |junk v=>exact .junk _
def Dc.upw {ok:Nat->Prop} {w:Ai} {H Hc H':AA BG} {h:BG} {srcs:AA Bv} {n:Nat} {e:Ad} (u:Hc=srcs.map (Bv.hd H)) (r:∀(i k:Nat),srcs[i]? =some (.ent k)->k<H.length) (z:Names Hc H') (I:H.length=n) (s:e.Ny srcs n=true) (j:Dc ok w H' h e):
 Dc ok w (H++H'.drop srcs.length) h (e.up srcs n):=by
 cases e with
 |dead=>trivial
 |arr=>exact j.any rfl
 |map=>exact j
 |FU=>exact j
 |iter=>exact j
 |loop=>cases s
 |box cs=>
  obtain⟨b,vs,T,J,L,M,O⟩:=j;refine⟨b,vs,T,J,L,by rw[M,Dn],fun i q=>?_⟩;rw[Dn]at q;obtain⟨S,U⟩:=O i q;simp only[Ad.Ny,Dz]at s;have m:=s (cs.getD i .junk) jk;rw[N8 _ _ _ q];refine⟨?_,by have :=LH u r z U;rwa [I]at this⟩;rcases Bool.or_eq_true_iff.1 m with m|m
  ·rw[qy m];exact S
  exact m
def Di :AA BD->AA AP->AA (BD×AP)
 |x::xs,v::vs=>(x,v)::Di xs vs
 |_,_=>[]
def Gn (srcs:AA Bv):AA AP->AA AP->Prop
 |x::xs,y::ys=>sH srcs x y/\Gn srcs xs ys
 | [],[]=>True
 |_,_=>False
def qh {srcs:AA Bv}:∀{xs ys:AA AP},Gn srcs xs ys->xs.length=ys.length
 | [],[],_=>rfl
 |_::xs,_::ys,h=>by simp[qh h.2]
 | [],_::_,h=>h.elim
 |_::_,[],h=>h.elim
def agL {srcs:AA Bv} {ops:AA BD}:∀{xs ys:AA AP},ops.length=xs.length->Gn srcs xs ys->∀i,i<ys.length->∃o x,ops[i]? =some o/\(o,x)∈Di ops xs/\sH srcs x (ys.getD i .junk):=by
 induction ops with
 |nil=>
  intro xs ys j h i m;cases xs with
  |nil=>cases ys with |nil=>simp at m|cons _ _=>exact h.elim
  |cons _ _=>simp at j
 |cons o ops n=>
  intro xs ys j h i m;cases xs with
  |nil=>simp at j
  |cons x xs=>
   cases ys with
   |nil=>exact h.elim
   |cons y ys=>
    cases i with
    |zero=>exact⟨o,x,rfl,by simp[Di],h.1⟩
    |succ i=>
     obtain⟨q,r,s,u,z⟩:=n JE h.2 i PS;exact⟨q,r,SG,by simp[Di,u],by simpa using z⟩
def acI {srcs:AA Bv} {H:AA BG} {b:Nat}:b∈(srcs.filterMap fun s=>match s with | .ent k=>D5 (H.getD k ⟨undef,0⟩).v| .nil _=>none)↔∃k,.ent k∈srcs/\D5 (H.getD k ⟨undef,0⟩).v=some b:=by
 rw[Pn];constructor
 ·rintro⟨s,j,h⟩;cases s with
  |ent k=>exact⟨k,j,h⟩
  |nil _=>cases h
 rintro⟨k,j,h⟩;exact⟨_,j,h⟩
section
variable {P:BU} {o:Oper} {es:AA Ad}
def nT :∀{srcs:AA Bv},(srcs.filterMap fun s=>match s with | .ent k=>some k| .nil _=>none).Nodup->∀(i j k:Nat),srcs[i]? =some (.ent k)->srcs[j]? =some (.ent k)->i=j
 | [],_,i,j,k,h,_=>FQ
 |s::srcs,q,i,j,k,r,u=>by
  have m:∀(n:Nat),srcs[n]? =some (.ent k)->k∈srcs.filterMap fun s=>match s with | .ent k=>some k| .nil _=>none:=fun n h=>by
   rw[Pn];exact⟨_,MC h,rfl⟩
  have z:(srcs.filterMap fun s=>match s with | .ent k=>some k| .nil _=>none).Nodup:=by
   cases s with
   |ent k'=>simp only[Ov]at q;exact(LQ.1 q).2
   |nil _=>simpa only[Ov]using q
  match i,j with
  |0,0=>rfl
  |0,j+1=>
   simp at r u;subst r;simp only[Ov]at q;exact absurd (m j u) (LQ.1 q).1
  |i+1,0=>
   simp at r u;subst u;simp only[Ov]at q;exact absurd (m i r) (LQ.1 q).1
  |i+1,j+1=>rw[nT z i j k OZ Pv]
def sG {f:FuncId} {C:DZ} {ok:Nat->Prop} {H:AA BG} {w:Ai} (Y:Cm C ok H es w) (srcs:AA Bv) {dF gB:AA AP} {E E':AA Ad} {res:AP} (hr:DN P f gB E res E')
 (hb:Je srcs es E E'=true) (hE:Uk srcs es E) (ha:Gn srcs dF gB) {ops:AA BD} (hl:ops.length=dF.length) {a:Act} (hn:∀n∈Di ops dF,R ok w H n.2 (a.eval n.1)):
 Calls P f (ops.map a.eval).toArray w fun e w'=>∃v ok' H',e=.returned v/\E8 ok w ok' w'/\Names H H'/\Cm C ok' H' (GH srcs es E') w'/\R ok' w' H' (res.up srcs es.length) v:=by
 unfold Je at hb;simp only[CS,Gj,Dz]at hb;obtain⟨⟨⟨⟨⟨⟨hb1,hb2⟩,hb3⟩,hb4⟩,hb5⟩,hb6⟩,hb7⟩:=hb;have hidx:=nT hb5
 let Hc:=srcs.map (Bv.hd H)
 let X:=srcs.filterMap fun s=>match s with | .ent k=>D5 (H.getD k ⟨undef,0⟩).v| .nil _=>none
 have hX:∀b,b∈X↔∃k,.ent k∈srcs/\D5 (H.getD k ⟨undef,0⟩).v=some b:=fun b=>acI
 have O:∀(i k:Nat),srcs[i]? =some (.ent k)->k<es.length/\(es.getD k .dead).live=true:=by
  intro i k S;have :=hb7 _ (MC S);simpa using this
 have hlt:∀(i k:Nat),srcs[i]? =some (.ent k)->k<H.length:=fun i k S=>by rw[Y.hlen];exact(O i k S).1
 have hHk:∀(k:Nat),k<H.length->H[k]? =some (H.getD k ⟨undef,0⟩):=fun k hk=>by simp[List.getD,hk]
 have Nz:∀(k:Nat),k<es.length->es[k]? =some (es.getD k .dead):=fun k hk=>by simp[List.getD,hk]
 have J:∀b,b∈X->∃(i k:Nat),srcs[i]? =some (.ent k)/\D5 (H.getD k ⟨undef,0⟩).v=some b/\¬ok b/\b<w.heap.size/\(C.w0.heap.size<=b\/b∈C.X):=by
  intro b hb;obtain⟨k,hk,hbk⟩:=(hX b).1 hb;obtain⟨i,S,L⟩:=VA hk;have hi':srcs[i]? =some (.ent k):=by simp[S,L]
  have :=Y.blk k _ _ b (Nz k (O i k hi').1) (O i k hi').2 (hHk k (hlt i k hi')) hbk;exact⟨i,k,hi',hbk,this⟩
 have hmc:Cm ⟨w,ok,X,Hc⟩ ok Hc E w:=by
  refine⟨.refl _ _,fun _ h=>h,fun _ h=>.inl h,Y.oP,.refl _,by simp[Hc,hb1],?_,?_,?_⟩
  ·intro i e h L z;have S:i<srcs.length:=Zx
   have hcl:e.Lr srcs=true:=hb3 e (MC L);have aa6:∀(j:Nat) (s:Bv),srcs[j]? =some s->Hc[j]? =some (Bv.hd H s):=fun j s m=>by simp[Hc,m]
   have m:srcs[i]? =some srcs[i]:=by simp[S]
   have hd:=hE i _ m;simp only[Hc,Iw,m,Ic,JG]at z;cases hsi:srcs[i]with
   |ent k=>
    rw[hsi]at hd z m;simp only[Bv.hd]at z;subst z;simp only at hd;rw[L,Ic]at hd;exact Dc.down aa6 hcl (Y.ent k _ _ hd.symm (hHk k (hlt i k m)))
   |nil sz=>
    rw[hsi]at hd z;simp only[Bv.hd]at z;subst z;obtain⟨e',he'⟩:=hd;rw[L]at he';obtain rfl:=DU he';exact⟨rfl,Bf,[],⟨Bf,.inl ⟨rfl,rfl⟩⟩,QK,fun i S=>by simp[Cj]at S⟩
  ·intro i e h b L I z r;have S:i<srcs.length:=Zx
   have m:srcs[i]? =some srcs[i]:=by simp[S]
   simp only[Hc,Iw,m,Ic,JG]at z;cases hsi:srcs[i]with
   |ent k=>
    rw[hsi]at z m;simp only[Bv.hd]at z;subst z;have hbX:b∈X:=(hX b).2 ⟨k,MC m,r⟩;obtain⟨_,_,_,_,M,U,_⟩:=J b hbX;exact⟨M,U,.inr hbX⟩
   |nil sz=>
    rw[hsi]at z;simp only[Bv.hd]at z;subst z;simp[D5]at r
  intro i j e e' h h' b L he' I Z z hh' r Kt;have S:i<srcs.length:=Zx
  have hj:j<srcs.length:=by rw[hb1];exact(Ep.1 he').1
  have m:srcs[i]? =some srcs[i]:=by simp[S]
  have hs':srcs[j]? =some srcs[j]:=by simp[hj]
  simp only[Hc,Iw,m,Ic,JG]at z;simp only[Hc,Iw,hs',Ic,JG]at hh';cases hsi:srcs[i]with
  |nil sz=>rw[hsi]at z;simp only[Bv.hd]at z;subst z;simp[D5]at r
  |ent k=>
   cases hsj:srcs[j]with
   |nil sz=>rw[hsj]at hh';simp only[Bv.hd]at hh';subst hh';simp[D5]at Kt
   |ent k'=>
    rw[hsi]at z m;rw[hsj]at hh' hs';simp only[Bv.hd]at z hh';subst z;subst hh';have hkk:=Y.Bz k k' _ _ _ _ b (Nz k (O i k m).1) (Nz k' (O j k' hs').1) (O i k m).2 (O j k' hs').2 (hHk k (hlt i k m)) (hHk k' (hlt j k' hs')) r Kt;subst hkk;exact hidx i j k m hs'
 have hargs:∀i,i<gB.length->R ok w Hc (gB.getD i .junk) ((ops.map a.eval).toArray.getD i undef):=by
  intro i S;obtain⟨op,x,ho,hmem,harg⟩:=agL hl ha i S;have hR:=hn _ hmem
  have e:(ops.map a.eval).toArray.getD i undef=a.eval op:=by
   obtain⟨M,U⟩:=Ep.1 ho;simp[Array.getD,M,U]
  rw[e];simp only at hR;generalize gB.getD i .junk=y at harg ⊢;generalize a.eval op=u at hR ⊢;have hHc:∀(j:Nat) (s:Bv),srcs[j]? =some s->Hc[j]? =some (Bv.hd H s):=fun j s m=>by simp[Hc,m]
  cases x with
  |d x=>
   rcases harg with rfl|⟨j,s,rfl,rfl,m⟩|⟨rfl,rfl⟩
   ·cases hR with |d _ _ h=>exact .d _ _ h
   ·have :=hR.lit;rw[this];exact .dn j none 0 0 s (hHc j _ m)
   have :=hR.lit;rw[this];exact .d _ _ (.sl0 none 0)
  |dn k=>
   obtain⟨j,rfl,m⟩:=harg;cases hR with
   |dn _ ad n cap s hH=>
    refine .dn j ad n cap s ?_;rw[hHc j _ m];simp[Bv.hd,List.getD,hH]
  |ptr k off=>
   obtain⟨j,rfl,m⟩:=harg;cases hR with
   |ptr _ _ b s hH=>
    refine .ptr j off b s ?_;rw[hHc j _ m];simp[Bv.hd,List.getD,hH]
  |mp k=>
   obtain⟨j,rfl,m⟩:=harg;cases hR with
   |mp _ _ s hl hH=>
    refine .mp j _ s hl ?_;rw[hHc j _ m];simp[Bv.hd,List.getD,hH]
  |fn f fi ca=>
   obtain⟨fi',ca',rfl,M,U⟩:=harg
   have one:∀(x y:AP) (v:Af),iO srcs x y->R ok w H x v->R ok w Hc y v:=by
    intro x y v hxy hx;cases x with
    |d x=>obtain rfl:=hxy;cases hx with |d _ _ h=>exact .d _ _ h
    |mp k=>
     obtain⟨j,rfl,m⟩:=hxy;cases hx with
     |mp _ _ s hl hH=>
      refine .mp j _ s hl ?_;rw[hHc j _ m];simp[Bv.hd,List.getD,hH]
    |ptr k off=>
     obtain⟨j,rfl,m⟩:=hxy;cases hx with
     |ptr _ _ b s hH=>
      refine .ptr j off b s ?_;rw[hHc j _ m];simp[Bv.hd,List.getD,hH]
    |_=>exact hxy.elim
   cases hR with
   |fn _ _ _ vs us hl1 hl2 h3 h4=>
    refine .fn f fi' ca' vs us (by rw[hl1,Sj M]) (by rw[hl2,Sj U]) (fun i S=>?_) (fun i S=>?_)
    ·exact one _ _ _ (dA M i S) (h3 i (by rw[Sj M];exact S))
    exact one _ _ _ (dA U i S) (h4 i (by rw[Sj U];exact S))
  |_=>exact harg.elim
 refine(hr ok X Hc w _ hmc (by simp[hl,qh ha]) hargs).mono ?_;rintro e w' ⟨v,ok',H',rfl,q,hR⟩;have hgr:E8 ok w ok' w':=fun b hb=>⟨q.vF b hb,q.fr.block b (Y.oP b hb) (fun hbX=>by obtain⟨_,_,_,_,M,_⟩:=J b hbX;exact M hb)⟩
 have ada:srcs.length<=H'.length:=by rw[q.hlen];exact hb2
 refine⟨v,ok',H++H'.drop srcs.length,rfl,hgr,Gf _ _,?_,by have :=ug rfl hlt q.names hR;rwa [Y.hlen]at this⟩
 let idx:Nat->AB Nat:=fun j=>srcs.findIdx? (fun s=>match s with | .ent k=>k==j| .nil _=>false)
 have aav:∀(j i:Nat),idx j=some i->srcs[i]? =some (.ent j):=by
  intro j i h;simp only[idx,oU]at h;obtain⟨M,U,_⟩:=h;have :srcs[i]? =some srcs[i]:=by simp[M]
  cases m:srcs[i]with
  |ent k=>rw[m]at U this;simp at U;rw[this,U]
  |nil _=>rw[m]at U;simp at U
 have aaw:∀(j:Nat),idx j=none->∀(i:Nat),srcs[i]? ≠some (.ent j):=by
  intro j h i S;simp only[idx,List.findIdx?_eq_none_iff]at h;have :=h _ (MC S);simp at this
 have hlow:∀(j:Nat),j<es.length->(GH srcs es E')[j]? =some (match idx j with |some i=>(E'.getD i .dead).up srcs es.length|none=>es.getD j .dead):=by
  intro j hj;unfold GH;rw[FP (by simpa using hj)];simp only[Iw,List.getElem?_zipIdx,Nz j hj,Ic,KP];rfl
 have Zk:(GH srcs es E').length=es.length+(E'.length-srcs.length):=by simp[GH]
 have hhigh:∀(j:Nat),es.length<=j->(GH srcs es E')[j]? =(E'[srcs.length+(j-es.length)]?).map (Ad.up srcs es.length):=by
  intro j hj;unfold GH;rw[H8 (by simpa using hj),Iw,OX];simp
 have aax:∀(j:Nat),j<es.length->(H++H'.drop srcs.length)[j]? =H[j]? :=fun j hj=>FP (by rw[Y.hlen];exact hj)
 have Zl:∀(j:Nat),es.length<=j->(H++H'.drop srcs.length)[j]? =H'[srcs.length+(j-es.length)]? :=by
  intro j hj;rw[H8 (by rw[Y.hlen];exact hj),OX,Y.hlen]
 have hcls:∀(j:Nat) (e:Ad) (h:BG),(GH srcs es E')[j]? =some e->e.live=true\/True->(H++H'.drop srcs.length)[j]? =some h->
  (∃(i:Nat) (e0:Ad),e=e0.up srcs es.length/\E'[i]? =some e0/\H'[i]? =some h/\((j<es.length/\srcs[i]? =some (.ent j))\/(es.length<=j/\i=srcs.length+(j-es.length))))\/(j<es.length/\es[j]? =some e/\H[j]? =some h/\∀(i:Nat),srcs[i]? ≠some (.ent j)):=by
  intro j e h L _ z;by_cases hj:j<es.length
  ·rw[hlow j hj]at L;rw[aax j hj]at z;cases S:idx j with
   |none=>
    rw[S]at L;simp only[JG]at L;exact .inr ⟨hj,by rw[Nz j hj,L],z,aaw j S⟩
   |some i=>
    rw[S]at L;simp only[JG]at L;have m:=aav j i S;have hil:i<srcs.length:=(Ep.1 m).1;have hiE:i<E'.length:=AL
    refine .inl ⟨i,_,L.symm,by simp[List.getD,hiE],?_,.inl ⟨hj,m⟩⟩;refine q.names i h ?_;simp only[Hc,Iw,m,Ic,Bv.hd];simp[List.getD,z]
  rw[hhigh j AL]at L;rw[Zl j AL]at z;rw[Oh]at L;obtain⟨e0,L,rfl⟩:=L;exact .inl ⟨_,_,rfl,L,z,.inr ⟨AL,rfl⟩⟩
 have hold:∀(j:Nat) (e:Ad) (h:BG) (b:Nat),es[j]? =some e->H[j]? =some h->(∀(i:Nat),srcs[i]? ≠some (.ent j))->e.live=true->D5 h.v=some b->b<w.heap.size/\b∉X/\¬ok b/\(C.w0.heap.size<=b\/b∈C.X):=by
  intro j e h b L z hno I r;have M:=Y.blk j e h b L I z r;refine⟨M.2.1,fun hbX=>?_,M.1,M.2.2⟩;obtain⟨i,k,m,hbk,_⟩:=J b hbX;have :=Y.Bz j k e _ h _ b L (Nz k (O i k m).1) I (O i k m).2 z (hHk k (hlt i k m)) r hbk;subst this;exact hno i m
 have NC:∀(i:Nat) (e:Ad) (h:BG) (b:Nat),E'[i]? =some e->H'[i]? =some h->e.live=true->D5 h.v=some b->¬ok' b/\b<w'.heap.size/\(w.heap.size<=b\/b∈X):=fun i e h b L z I r=>q.blk i e h b L I z r;refine⟨⟨q.fr.os.trans Y.fr.os,q.fr.tape.trans Y.fr.tape,q.fr.output.trans Y.fr.output,FZ Y.fr.size q.fr.size,fun k hk hx=>?_⟩,fun b hb=>q.vF b (Y.vF b hb),?_,q.oP,Y.names.trans (Gf _ _),?_,?_,?_,?_⟩
 ·have hkw:k<w.heap.size:=Uz hk Y.fr.size
  rw[q.fr.block k hkw (fun hkX=>by
   obtain⟨_,_,_,_,_,_,h⟩:=J k hkX;rcases h with h|h
   ·omega
   exact hx h)]
  exact Y.fr.block k hk hx
 ·intro b hb;rcases q.vG b hb with h|h|h
  ·exact Y.vG b h
  ·exact .inr (.inl (FZ Y.fr.size h))
  obtain⟨_,_,_,_,_,_,h⟩:=J b h;exact .inr h
 ·rw[Zk,Dp,Ql,Y.hlen,q.hlen]
 ·intro j e h L z;rcases hcls j e h L (.inr trivial) z with⟨i,e0,rfl,M,U,_⟩|⟨_,M,U,h3⟩
  ·exact Dc.upw rfl hlt q.names Y.hlen (hb4 e0 (MC M)) (q.ent i e0 h M U)
  refine(Y.ent j e h M U).mono hgr (Gf _ _) (fun I b r=>?_);have h4:=hold j e h b M U h3 I r;exact q.fr.block b h4.1 h4.2.1
 ·intro j e h b L I z r;rcases hcls j e h L (.inr trivial) z with⟨i,e0,rfl,M,U,_⟩|⟨_,M,U,h3⟩
  ·have h4:=NC i e0 h b M U jf r;refine⟨h4.1,h4.2.1,?_⟩;rcases h4.2.2 with h5|h5
   ·exact .inl (FZ Y.fr.size h5)
   obtain⟨_,_,_,_,_,_,h⟩:=J b h5;exact h
  have h4:=hold j e h b M U h3 I r;refine⟨fun hok'=>?_,Uz h4.1 q.fr.size,h4.2.2.2⟩;rcases q.vG b hok' with h5|h5|h5
  ·exact h4.2.2.1 h5
  ·have :w.heap.size<=b:=h5;omega
  exact h4.2.1 h5
 intro j j' e e' h h' b L he' I Z z hh' r Kt;rcases hcls j e h L (.inr trivial) z with⟨i,e0,rfl,M,U,h3⟩|⟨_,M,U,h3⟩
 ·rcases hcls j' e' h' he' (.inr trivial) hh' with⟨i',e0',rfl,h1',h2',h3'⟩|⟨_,h1',h2',h3'⟩
  ·have hii:=q.Bz i i' e0 e0' h h' b M h1' jf (by rw[Ad.E5]at Z;exact Z) U h2' r Kt;subst hii;rcases h3 with⟨_,h4⟩|⟨h4,h5⟩
   ·rcases h3' with⟨_,h4'⟩|⟨h4',h5'⟩
    ·rw[h4]at h4';simpa using h4'
    have :=(Ep.1 h4).1;omega
   rcases h3' with⟨_,h4'⟩|⟨h4',h5'⟩
   ·have :=(Ep.1 h4').1;omega
   omega
  have h4:=hold j' e' h' b h1' h2' h3' Z Kt;rcases(NC i e0 h b M U jf r).2.2 with h5|h5
  ·omega
  exact absurd h5 h4.2.1
 rcases hcls j' e' h' he' (.inr trivial) hh' with⟨i',e0',rfl,h1',h2',h3'⟩|⟨_,h1',h2',h3'⟩
 ·have h4:=hold j e h b M U h3 I r;rcases(NC i' e0' h' b h1' h2' (by rw[Ad.E5]at Z;exact Z) Kt).2.2 with h5|h5
  ·omega
  exact absurd h5 h4.2.1
 exact Y.Bz j j' e e' h h' b M h1' I Z U h2' r Kt
def oQ {f:FuncId} {ops:Aw BD} {ats:Aw BA} (srcs:AA Bv) {dF gB:AA AP} {E E':AA Ad} {h:AP} (j:DN P f gB E h E') (m:Eb P f=true) (n:Je srcs es E E'=true) (q:Uk srcs es E) (ha:Gn srcs dF gB) (r:ops.toList.length=dF.length)
 (s:o.op=.call { callee:=.value (.func f),args:=ops,argTypes:=ats }):BJ P o (Di ops.toList dF) es (h.up srcs es.length) (GH srcs es E'):=by
 intro C ok H a w Q u z;unfold Oper.wp;rw[afl s,aK m,Oper.upon_enter];have e:ops.map a.eval=(ops.toList.map a.eval).toArray:=by apply Array.ext';simp
 rw[e];refine(sG u srcs j n q ha r z).mono ?_;rintro e w' ⟨v,ok',H',rfl,I,J,L,M⟩;exact⟨v,ok',H',rfl,I,J,L,M⟩
end
def Aq (n:Int):D:=.lit (.int .i64 n)
def Cb (n:Int):D:=.lit (.int .u8 n)
def EG (b:AO):D:=.lit (.bool b)
def BZ (s:AY):D:=.lit (.string s)
def Bj {α:Type} (e:α->D) (l:AA α):D:=.sl (l.map e)
def Bc (x:D):AA AP:=x.cells.map .d
def BI {α:Type} (l:AA α) (i:Int):AB α:=if 0<=i then l[i.toNat]? else none
def F6 {α:Type} (h:Nat) (l m:AA α):AB (AA α):=if(l.length+m.length)*h<=140737488355328 then some (l++m)else none
def EC (s:AY) (i:Int):AB Int:=if 0<=i then(s[i.toNat]?).map fun c=>(c.toNat:Int)else none
def Hl (s:AY) (lo h:Int):AB AY:=if 0<=lo/\lo<=h/\h<=s.size then some (s.extract lo.toNat h.toNat)else none
def IU (s t:AY):AB AY:=if s.size+t.size<=9223372036854775807 then some (s++t)else none
def Sm {α:Type} (h:Nat) (z:α) (n c:Int):AB (AA α):=if 0<=n/\n<=c/\(h:Int)*c<=140737488355328 then some (List.replicate n.toNat z)else none
def ah {α:Type} {l:AA α} {i:Int} {x:α} (h:BI l i=some x):0<=i/\l[i.toNat]? =some x:=by
 unfold BI at h;split at h
 ·exact⟨‹_›,h⟩
 cases h
def adu {α β:Type} {l:AA α} {i:Nat} {x:α} (f:α->β) (h:l[i]? =some x):(l.map f)[i]? =some (f x):=by simp[h]
def GU {α:Type} {b:AO} {x y z:α} (j:b=true) (h:(bif b then x else y)=z):x=z:=by subst j;exact h
def GI {α:Type} {b:AO} {x y z:α} (j:b=false) (h:(bif b then x else y)=z):y=z:=by subst j;exact h
def EF {α β:Type} {x:AB α} {f:α->AB β} {z:β} (h:x.bind f=some z):∃a,x=some a/\f a=some z:=dV.1 h
def Am :Nat:=9223372036854775808
section
variable {P:BU} {o:Oper} {es:AA Ad} {α:Type}
def BX {x:BD} {t e:BA} (enc:α->D) (l:AA α) (h:P.underlying t=some (.slice e)) (j:o.op=.call { callee:=.builtin .len,args:= #[x],argTypes:= #[t] }):
 BJ P o [(x,.d (Bj enc l))] es (.d (Aq l.length)) es:=by
 have :=yC (es:=es) (xs:=l.map enc) h j;rw[Dn]at this;exact this
def acp {x:BD} {t:BA} (s:AY) (h:P.underlying t=some .string) (j:o.op=.call { callee:=.builtin .len,args:= #[x],argTypes:= #[t] }):
 BJ P o [(x,.d (BZ s))] es (.d (Aq s.size)) es:=zW h j
def IC {x y:BD} {t e:BA} {k:IntKind} {i:Int} {agg:AO} {size:Nat} (enc:α->D) {l:AA α} {a:α} (h:BI l i=some a) (j:P.underlying t=some (.slice e)) (m:DF P e agg size) (n:(enc a).cells.length=size) (q:o.op=.indexAddr t x y):
 BJ P o [(x,.d (Bj enc l)),(y,.d (.lit (.int k i)))] es (.d (.ref (enc a).cells 0)) es:=
 agR j m (ah h).1 (adu enc (ah h).2) n q
def yM {s:AY} {i n:Int} (h:EC s i=some n):∃c,0<=i/\s[i.toNat]? =some c/\n=c.toNat:=by
 unfold EC at h;split at h
 ·rename_i j;rw[Oh]at h;obtain⟨c,m,q⟩:=h;exact⟨c,j,m,q.symm⟩
 cases h
def Fe {x y:BD} {t:BA} {k:IntKind} {i n:Int} {s:AY} (h:EC s i=some n) (j:P.underlying t=some .string) (m:o.op=.index t x y):
 BJ P o [(x,.d (BZ s)),(y,.d (.lit (.int k i)))] es (.d (Cb n)) es:=by
 obtain⟨c,q,r,rfl⟩:=yM h;exact aag j q r m
def vT {b:Nat} {l m r:AA α} (h:F6 b l m=some r):r=l++m/\(l.length+m.length)*b<=140737488355328:=by
 unfold F6 at h;split at h
 ·exact⟨(DU h).symm, ‹_›⟩
 cases h
def aaK {n b:Nat} (j:0<b) (h:n*b<=140737488355328):n<=maxLen:=by
 have :n*1<=n*b:=Nat.mul_le_mul_left _ j;unfold maxLen;omega
def Oc {s x:BD} {t e:BA} {size j k:Nat} (enc:α->D) {l m r:AA α} (h:F6 j l m=some r) (q:FW P t e size j) (u:es[k]? =some (.arr e size (l.map enc))) (z:∀a,(enc a).cells.length=size) (I:0<j)
 (J:o.op=.call { callee:=.builtin .append,args:= #[s,x],argTypes:= #[t,t] }):
 BJ P o [(s,.dn k),(x,.d (Bj enc m))] es (.dn es.length) (es.set k .dead++[.arr e size (r.map enc)]):=by
 obtain⟨rfl,n⟩:=vT h;have :=aeL (ys:=m.map enc) q u (fun y L=>by obtain⟨a,_,rfl⟩:=Pz.1 L;exact z a) X0 (by simpa using aaK I n) J;rw[←ZK]at this;exact this
def afX {s r:AY} {lo j:Int} (h:Hl s lo j=some r):(0<=lo/\lo<=j/\j<=s.size)/\r=s.extract lo.toNat j.toNat:=by
 unfold Hl at h;split at h
 ·exact⟨‹_›,(DU h).symm⟩
 cases h
def Y3 (x:AB BD) (n:Int):AA (BD×AP):=match x with |some y=>[(y,.d (Aq n))]|none=>[]
def Rn {t:BA} {x:BD} {lo m:AB BD} {l h:Int} {s r:AY} (Z:Hl s l h=some r) (hl:lo=none->l=0) (U:m=none->h=s.size) (ht:P.underlying t=some .string) (I:o.op=.slice t x lo m none):
 BJ P o ((x,.d (BZ s))::(Y3 lo l++Y3 m h)) es (.d (BZ r)) es:=
 .pure fun ok H a w _ _ L=>by
  obtain⟨⟨M,h1,h2⟩,rfl⟩:=afX Z;have n:=(L (x,.d (BZ s)) Bf).lit;simp only at n;have J:(underlying t).run P w=.ok .string w:=by simp[underlying,ht]
  refine⟨.string (s.extract l.toNat h.toNat),?_,.d _ _ (.lit _)⟩;have q:∀y,lo=some y->a.eval y=.int .i64 l:=fun y e=>(L (y,.d (Aq l)) (by simp[Y3,e])).lit;have u:∀y,m=some y->a.eval y=.int .i64 h:=fun y e=>(L (y,.d (Aq h)) (by simp[Y3,e])).lit;have Y:((0:Int)<=h/\h<=(s.size:Int)):=⟨AL,h2⟩
  have e2:((0:Int)<=l/\l<=(h.toNat:Int)):=⟨M,AL⟩
  cases lo with
  |none=>
   have O:=hl rfl;subst O;cases m with
   |none=>
    have j:=U rfl;subst j;simp[execOp,I,n,Instr.sliceAt,Instr.slice,J,Instr.sliceBounds]
   |some y=>
    simp[execOp,I,n,Instr.sliceAt,Instr.slice,J,Instr.sliceBounds,Instr.sliceBound,u y rfl,asIntOf,Y]
  |some z=>
   cases m with
   |none=>
    have j:=U rfl;subst j;have S:((0:Int)<=l/\l<=(s.size:Int)):=⟨M,AL⟩
    simp[execOp,I,n,Instr.sliceAt,Instr.slice,J,Instr.sliceBounds,Instr.sliceBound,q z rfl,asIntOf,S]
   |some y=>
    simp[execOp,I,n,Instr.sliceAt,Instr.slice,J,Instr.sliceBounds,Instr.sliceBound,q z rfl,u y rfl,asIntOf,Y];intro hc;have :=hc M;omega
def Xw (P:BU) (t:BA) (f off:Nat) (agg:AO) (n:Nat):AO:=
 match P.underlying t with
 |some (.struct j)=>match j[f]? with
  |some h=>h.offset=off&&fZ P h.type agg n
  |none=>false
 |_=>false
def agK {x:BD} {t:BA} {f off n:Nat} {agg:AO} {cs:AA D} (m:Xw P t f off agg n=true) (hn:off+n<=cs.length) (U:agg=false->n=1) (L:o.op=.field t x f):BJ P o [(x,.d (.agg cs))] es (.d (J9 agg cs off n)) es:=
 .pure fun ok H a w _ _ z=>by
  have I:=H9 z;simp only at I;generalize M:a.eval x=v at I;unfold Xw at m;split at m
  ·rename_i Y Z;split at m
   ·rename_i j O;simp only[CS,Gj]at m;obtain⟨rfl,q⟩:=m;have q:=ED q;have r:(underlying t).run P w=.ok (.struct Y) w:=by simp[underlying,Z]
    cases I with
    |d _ _ h=>
     cases h with
     |agg _ vs hl J S=>
      cases agg with
      |false=>
       have :=U rfl;subst this;have s:j.offset<vs.size:=AL
       refine⟨vs[j.offset],?_,?_⟩
       ·simp[execOp,L,M,Instr.field,r,O,asAgg,part,q.agg,s]
       have :=S j.offset AL;simp[Array.getD,s]at this;exact .d _ _ this
      |true=>
       refine⟨.agg (vs.extract j.offset (j.offset+n)),?_,?_⟩
       ·simp[execOp,L,M,Instr.field,r,O,asAgg,part,q.agg,q.size]
       simp only[J9,Kr];have hlen:((cs.drop j.offset).take n).length=n:=Hy
       have hg:∀i,i<n->((cs.drop j.offset).take n).getD i CV=cs.getD (j.offset+i) CV:=by
        intro i u;simp[List.getD,OV u,OX]
       refine .d _ _ (.agg _ _ (by rw[hlen];simp;omega) ?_ ?_)<;>intro i u<;>rw[hlen]at u<;>rw[hg i u]
       ·exact J _ AL
       have :=S (j.offset+i) AL
       have e:(vs.extract j.offset (j.offset+n)).getD i undef=vs.getD (j.offset+i) undef:=by
        have h3:j.offset+i<vs.size:=AL
        have h4:i<(vs.extract j.offset (j.offset+n)).size:=Hy
        have h5:i<min (j.offset+n) vs.size-j.offset:=AL
        simp[Array.getD,h3,h5]
       rw[e];exact this
   cases m
  cases m
def aeu {s t r:AY} (h:IU s t=some r):s.size+t.size<=9223372036854775807/\r=s++t:=by
 unfold IU at h;split at h
 ·exact⟨‹_›,(DU h).symm⟩
 cases h
def cu {t j:BA} {x y:BD} {u v r:AY} (h:IU u v=some r) (m:o.op=.binOp .add t x y j):BJ P o [(x,.d (BZ u)),(y,.d (BZ v))] es (.d (BZ r)) es:=by
 obtain⟨n,rfl⟩:=aeu h;refine rQ (u:=.string u) (v:=.string v) (r:=.string (u++v)) m (fun w=>?_) ⟨rfl,rfl⟩
 have :¬(((u.size+v.size:Nat):Int)>IntKind.i64.max):=by
  have e:IntKind.i64.max=9223372036854775807:=rfl;rw[e];omega
 simp only[binOp,Op.stringOp,this,O6,Ej]
def oz {ok ok':Nat->Prop} {w:Ai} {H:AA BG} {h:BG} {e s:Nat} {xs:AA D} (he:Dc ok w H h (.arr e s xs)) (r:∀b,ok b->ok' b) (L:∀b,D5 h.v=some b->ok' b):D8 ok' w (.sl xs) h.v:=by
 obtain⟨h1,I,ys,⟨h3,h4⟩,Y⟩:=he;rcases h4 with⟨J,Z⟩|⟨g,cap,q,J,Z,h8,h9,h10,M,O⟩
 ·rw[IG Z,J];exact .sl0 none 0
 rw[J];have u:=L g (by rw[J];rfl);have z:=Oa I
 have S:∀i j,i<xs.length->j<s->i*s+j<xs.length*s:=by
  intro i j m n
  calc i*s+j<i*s+s:=AL
   _=(i+1)*s:=by rw[Pq]
   _<=xs.length*s:=JM _ m
 have hcur:xs.length*s<=q.size:=by
  exact FZ (JM _ h9) M
 have hc:∀i j,i<xs.length->j<s->w.cell? ⟨g,0+(i*s+j),none⟩=some (ys.getD (i*s+j) undef):=by
  intro i j m n;have U:=S i j m n;rw[KP]
  have e1:ys.getD (i*s+j) undef=q[i*s+j]' AL:=by
   rw[←O];simp[List.getD,OV U,show i*s+j<q.size by omega]
  rw[e1];simp[World.cell?,h8,show i*s+j<q.size by omega]
 have hg:∀i,i<xs.length->xs.getD i CV∈xs:=fun i m=>UM
 refine .sl xs g 0 cap s h9 (fun _ _=>u) (fun i m=>I _ (hg i m)) (fun i m j n=>?_) (fun i m j n=>?_) (fun i m j n=>?_)
 ·have :=(Y.2 (i*s+j) (by rw[z];exact S i j m n)).1;rw[flat_get I i j m n]at this;exact this
 ·rw[hc i j m n];rfl
 have :=(Y.2 (i*s+j) (by rw[z];exact S i j m n)).2;rw[flat_get I i j m n]at this;unfold cellAt;rw[hc i j m n];cases this with |d _ _ h=>exact h.mono (fun b L=>⟨r b L,rfl⟩)
end
def AP.thaw (k:Nat) (xs:AA D):AP->AP
 | .dn j=>if j=k then .d (.sl xs)else .dn j
 | .iG j i off=>if j=k then .junk else .iG j i off
 |x=>x
def Ac.thaw (σ:Ac) (k:Nat) (xs:AA D):Ac:=⟨σ.slots.map (AP.thaw k xs),σ.ents.set k .dead,σ.base⟩
def lH {σ:Ac} (k:Nat) {e s:Nat} {xs:AA D} (U:σ.ents[k]? =some (.arr e s xs)):∀C ok H a w,Holds C ok H σ a w->∃ok',Holds C ok' H (σ.thaw k xs) a w:=by
 intro C ok H a w m;obtain⟨hd,I,Y⟩:=NW m.mem.ent m.mem.hlen U;have q:k<σ.ents.length:=(Ep.1 U).1
 let ok':Nat->Prop:=fun b=>ok b\/D5 hd.v=some b
 have z:=fun b h=>m.mem.blk k _ hd b U rfl I h;have Z:E8 ok w ok' w:=fun b h=>⟨.inl h,rfl⟩
 refine⟨ok',⟨m.mem.fr,fun b h=>.inl (m.mem.vF b h),?_,?_,m.mem.names,by simp[Ac.thaw,m.mem.hlen],?_,?_,?_⟩,by simp[Ac.thaw,m.size],m.defers.mono Z,m.base,?_⟩
 ·rintro b (h|h)
  ·exact m.mem.vG b h
  exact .inr (z b h).2.2
 ·rintro b (h|h)
  ·exact m.mem.oP b h
  exact(z b h).2.1
 ·intro j e' h' he r;rcases OG q he with⟨rfl,rfl⟩|⟨_,u⟩
  ·trivial
  exact(m.mem.ent j e' h' u r).mono Z (.refl _) (fun _ _ _=>rfl)
 ·intro j e' h' b he hl r h;rcases OG q he with⟨rfl,rfl⟩|⟨hne,u⟩
  ·cases hl
  have h3:=m.mem.blk j e' h' b u hl r h;refine⟨fun n=>?_,h3.2⟩;rcases n with n|n
  ·exact h3.1 n
  exact hne (m.mem.Bz j k e' _ h' hd b u U hl rfl r I h n)
 ·intro i j e1 e2 h1 h2 b he1 he2 L M hh1 hh2 hb1 hb2;rcases OG q he1 with⟨rfl,rfl⟩|⟨_,O⟩
  ·cases L
  rcases OG q he2 with⟨rfl,rfl⟩|⟨_,S⟩
  ·cases M
  exact m.mem.Bz i j e1 e2 h1 h2 b O S L M hh1 hh2 hb1 hb2
 intro t ht;simp only[Ac.thaw,Dn]at ht
 have e1:(σ.thaw k xs).slots.getD t .junk=(σ.slots.getD t .junk).thaw k xs:=by
  simp only[Ac.thaw];exact N8 _ _ _ ht
 rw[e1];have J:=(m.slot t ht).mono Z (Names.refl H);generalize σ.slots.getD t .junk=x at J ⊢;generalize a.tmps.getD t undef=v at J ⊢;cases x with
 |dn j=>
  simp only[AP.thaw];split
  ·rename_i hj;subst hj;obtain rfl:=TI J I;exact .d _ _ (oz Y (fun b h=>.inl h) (fun b h=>.inr h))
  exact J
 |iG j i off=>
  simp only[AP.thaw];split
  ·exact .junk _
  exact J
 |_=>exact J
def DN.view {P:BU} {f:FuncId} {args:AA AP} {e s:Nat} {xs:AA D} (h:DN P f args [] (.dn 0) [.arr e s xs]):DN P f args [] (.d (.sl xs)) []:=by
 intro ok X H w m z I ha;refine(h ok X H w m z I ha).mono ?_;rintro e' w' ⟨v,ok',H',rfl,j,J⟩;have L:H=[]:=IG z.hlen;have M:H'.length=1:=j.hlen
 match H',M with
 | [hd],_=>
   obtain rfl:=TI J (h:=hd) rfl;have r:=j.ent 0 _ hd rfl rfl;have q:=fun b q=>j.blk 0 _ hd b rfl rfl rfl q
   let u:Nat->Prop:=fun b=>ok' b\/D5 hd.v=some b
   refine⟨hd.v,u,[],rfl,⟨j.fr,fun b h=>.inl (j.vF b h),?_,?_,by intro k v O;subst L;simp at O,rfl,fun k e h n=>by simp at n,fun k e h b n=>by simp at n,fun k k' e e' h h' b n=>by simp at n⟩,.d _ _ (oz r (fun b h=>.inl h) (fun b h=>.inr h))⟩
   ·rintro b (h|h)
    ·exact j.vG b h
    exact .inr (q b h).2.2
   rintro b (h|h)
   ·exact j.oP b h
   exact(q b h).2.1
def aaW (es E':AA Ad) (h:E'.all Ad.closed=true):GH [] es E'=es++E':=by
 unfold GH;simp only[List.findIdx?_nil,eX,List.drop_zero];rw[pR h];congr 1;apply List.ext_getElem?;intro i;simp only[Iw,List.getElem?_zipIdx];cases es[i]? <;>rfl
def xW {P:BU} {o:Oper} {es:AA Ad} {f:FuncId} {ops:Aw BD} {ats:Aw BA} {dF gB:AA AP} {m j:AP} {E':AA Ad} (r:DN P f gB [] m E') (u:Eb P f=true) (n:E'.all Ad.closed=true)
 (ha:Gn [] dF gB) (z:ops.toList.length=dF.length) (I:m.up [] es.length=j) (J:o.op=.call { callee:=.value (.func f),args:=ops,argTypes:=ats }):BJ P o (Di ops.toList dF) es j (es++E'):=by
 have :=oQ (es:=es) [] r u (by
  have q:E'.all (Ad.Ny [] es.length)=true:=by
   rw[Dz]at n ⊢;exact fun e L=>abj (n e L)
  simp[Je,q]) (fun i s h=>FQ) ha z J
 rw[aaW _ _ n,I]at this;exact this
def uN {P:BU} {o:Oper} {es:AA Ad} {f:FuncId} {ops:Aw BD} {ats:Aw BA} {dF gB:AA AP} {j h:AP} (m:DN P f gB [] j []) (n:Eb P f=true)
 (ha:Gn [] dF gB) (q:ops.toList.length=dF.length) (r:j.up [] es.length=h) (s:o.op=.call { callee:=.value (.func f),args:=ops,argTypes:=ats }):BJ P o (Di ops.toList dF) es h es:=by
 have :=xW (es:=es) m n rfl ha q r s;rw[Zj]at this;exact this
section
variable {P:BU} {σ:Ac} {Q:Exit->Ac->Prop}
def bC (P:BU) (σ:Ac):ResultVar->AP->Prop
 | .tmp t,x=>x=σ.slots.getD t .junk
 | .cell t T,x=>∃k cs agg n,σ.slots.getD t .junk=.ptr k 0/\σ.ents[k]? =some (.box cs)/\cs.all AP.oZ=true/\DF P T agg n/\n<=cs.length/\(agg=false->n=1)/\x=.d (J9 agg (FN cs) 0 n)
def QN {P:BU} {σ:Ac} {t:Tmp} {x:AP} (h:x=σ.slots.getD t .junk):bC P σ (.tmp t) x:=h
def OQ (P:BU) (σ:Ac):AA ResultVar->AA AP->Prop
 |r::rs,x::xs=>bC P σ r x/\OQ P σ rs xs
 | [],[]=>True
 |_,_=>False
def RP :AA AP->AP
 | [x]=>x
 |xs=>.gV xs
def nG (P:BU) (fn:Func) (h:AP) (E':AA Ad):Exit->Ac->Prop
 | .ret,σ=>∃xs π,OQ P σ fn.results.toList xs/\Lj σ.base σ.ents π=true/\h=(RP xs).back π/\E'=Ju σ.ents π
 | .normal,σ=>∃xs π,OQ P σ fn.results.toList xs/\Lj σ.base σ.ents π=true/\h=(RP xs).back π/\E'=Ju σ.ents π
 |_,_=>False
def dI (tmps:Aw Af):ResultVar->Sem Af
 | .tmp t=>pure (tmps.getD t undef)
 | .cell t T=>do loadVar T (←asAddr (tmps.getD t undef))
def aaU {C:DZ} {ok:Nat->Prop} {H:AA BG} {a:Act} {w:Ai} (h:Holds C ok H σ a w) {r:ResultVar} {x:AP} (j:bC P σ r x):
 ∃v,(dI a.tmps r).run P w=.ok v w/\R ok w H x v:=by
 cases r with
 |tmp t=>
  obtain rfl:=j;exact⟨_,rfl,h.SQ t⟩
 |cell t T=>
  obtain⟨k,cs,agg,n,J,L,hd,M,hn,O,rfl⟩:=j;have q:=J▸h.SQ t;obtain⟨S,U,m⟩:=NW h.mem.ent h.mem.hlen L;obtain⟨b,z,Y,Z,hc⟩:=xZ m hd;generalize hu:a.tmps.getD t undef=u at q;cases q with
  |ptr _ _ b' s I=>
   rw[U]at I;obtain rfl:=DU I;simp at z;subst z;show ∃v,((do loadVar T (←asAddr (a.tmps.getD t undef)):Sem Af)).run P w=.ok v w/\_;rw[hu];obtain⟨v,j,hD⟩:=Zu M (off:=0) (by rw[UA];omega) O Y Z hc;refine⟨v,?_,.d _ _ hD⟩;simp only[Instr.loadAt,Instr.sureAddr,EN,Ej,ES,KP]at j;simp only[asAddr,EN,Ej,ES];exact j
def lM {C:DZ} {ok:Nat->Prop} {H:AA BG} {a:Act} {w:Ai} (h:Holds C ok H σ a w):∀(rs:AA ResultVar) (xs:AA AP),OQ P σ rs xs->
 ∃vs:AA Af,(rs.mapM (dI a.tmps)).run P w=.ok vs w/\vs.length=xs.length/\∀i,i<xs.length->R ok w H (xs.getD i .junk) (vs.getD i undef)
 | [],[],_=>⟨[],rfl,rfl,fun i j=>NG⟩
 | [],_::_,h'=>h'.elim
 |_::_,[],h'=>h'.elim
 |r::rs,x::xs,h'=>by
  obtain⟨v,q,s⟩:=aaU (P:=P) h h'.1;obtain⟨vs,m,u,n⟩:=lM h rs xs h'.2;refine⟨v::vs,?_,Qj,fun i j=>?_⟩
  ·simp only[List.mapM_cons,EN,q,m,ES,Ej]
  cases i with
  |zero=>exact s
  |succ i=>simpa using n i JE
def Fin {C:DZ} {ok:Nat->Prop} {H:AA BG} {a:Act} {w:Ai} (h:Holds C ok H σ a w) {fn:Func} {xs:AA AP} (u:OQ P σ fn.results.toList xs):
 ∃v,(results fn a.tmps).run P w=.ok v w/\R ok w H (RP xs) v:=by
 obtain⟨vs,q,j,m⟩:=lM (P:=P) h _ _ u
 have z:(results fn a.tmps).run P w=.ok (if h:vs.toArray.size=1 then vs.toArray[0]else .tuple vs.toArray) w:=by
  have e:results fn a.tmps=(do let vs ←fn.results.mapM (dI a.tmps);pure (if h:vs.size=1 then vs[0]else .tuple vs)):=rfl;rw[e,xC];simp only[EN,Sem.run_map,q,ES,Ej]
 refine⟨_,z,?_⟩
 match xs,j,m with
 | [x],j,m=>
   have n:vs.toArray.size=1:=JE
   rw[dif_pos n];have :=m 0 Bf
   have e:vs.getD 0 undef=vs.toArray[0]:=by
    have :0<vs.length:=by simp[j]
    simp[List.getD,this]
   rw[e]at this;exact this
 | [],j,m=>
   have n:¬vs.toArray.size=1:=by simp at j;simp[j]
   rw[dif_neg n];exact .gV [] _ JE (fun i r=>by simp at r)
 |x::y::xs,j,m=>
  have n:¬vs.toArray.size=1:=by simp at j;simp[j]
  rw[dif_neg n];refine .gV _ _ JE (fun i r=>?_);have :=m i r;have s:i<vs.length:=AL
  have e:vs.toArray.getD i undef=vs.getD i undef:=by simp[Array.getD,List.getD,s]
  rw[e];exact this
def aaO {w:Ai} {D:Nat} {x:AB (AA Deferred)} (h:w.heap[D]? =some (.deferred x)) (o:Nat):w.cell? ⟨D,o,none⟩=none:=by
 unfold World.cell?;rw[h]
def Holds.take {C:DZ} {ok:Nat->Prop} {H:AA BG} {σ:Ac} {a:Act} {w:Ai} (Y:∀b,C.ok0 b->b<C.w0.heap.size) (h:Holds C ok H σ a w) {D:Nat} {Ds:AA Nat} (hd:∀d∈Ds,ok d/\C.w0.heap.size<=d/\w.heap[d]? =some (.deferred (some [])))
 (Z:ok D/\C.w0.heap.size<=D/\w.heap[D]? =some (.deferred (some []))) (s:(D::Ds).Nodup):
 ∃ok',Holds C ok' H σ { a with defers:=Ds.map fun D=>{ target:=.collected D,args:= #[] } } (w.putObj D (.deferred none))/\∀d∈Ds,ok' d/\C.w0.heap.size<=d/\(w.putObj D (.deferred none)).heap[d]? =some (.deferred (some [])):=by
 obtain⟨h1,h2,S⟩:=Z;have m:∀b,b≠D->(w.putObj D (.deferred none)).heap[b]? =w.heap[b]? :=fun b j=>World.putObj_heap_other j;have u:∀b o,ok b->(w.cell? ⟨b,o,none⟩).isSome=true->ok b/\b≠D:=fun b o j z=>⟨j,fun e=>by subst e;rw[aaO S]at z;cases z⟩
 have U:E8 (fun b=>ok b/\b≠D) w (fun b=>ok b/\b≠D) (w.putObj D (.deferred none)):=fun b j=>⟨j,m b j.2⟩
 have M:∀(k:Nat) (e:Ad) (hd:BG) (b:Nat),σ.ents[k]? =some e->e.live=true->H[k]? =some hd->D5 hd.v=some b->b≠D:=fun k e hd b q I r j O=>(h.mem.blk k e hd b q I r j).1 (O▸h1)
 have J:∀d∈Ds,(ok d/\d≠D)/\C.w0.heap.size<=d/\(w.putObj D (.deferred none)).heap[d]? =some (.deferred (some [])):=fun d n=>by
  have L:d≠D:=fun e=>(LQ.1 s).1 (e▸n);exact⟨⟨(hd d n).1,L⟩,(hd d n).2.1,by rw[m d L];exact(hd d n).2.2⟩
 refine⟨fun b=>ok b/\b≠D,⟨⟨⟨h.mem.fr.os,h.mem.fr.tape,h.mem.fr.output,by simpa[World.putObj]using h.mem.fr.size,fun k hk hX=>by rw[m k AL];exact h.mem.fr.block k hk hX⟩,fun b j=>⟨h.mem.vF b j,fun e=>by have :=Y b j;omega⟩,fun b j=>h.mem.vG b j.1,fun b j=>by simpa[World.putObj]using h.mem.oP b j.1,h.mem.names,h.mem.hlen,?_,?_,?_⟩,h.size,⟨Ds,rfl,(LQ.1 s).2,J⟩,h.base,fun t ht=>((h.slot t ht).shrink u).mono U (.refl _)⟩,J⟩
 ·intro k e hd q r;exact((h.mem.ent k e hd q r).shrink u (fun b ms c j z=>⟨j,fun e=>by subst e;rw[S]at z;cases z⟩)).mono U (.refl _) fun I b j=>m b (M k e hd b q I r j)
 ·intro k e hd b q I r j;obtain⟨h4,h5,h6⟩:=h.mem.blk k e hd b q I r j;exact⟨fun hx=>h4 hx.1,by simpa[World.putObj]using h5,h6⟩
 exact h.mem.Bz
def mM {fn:Func} {Rr:Ending->Ai->Prop} {C:DZ} (n:∀b,C.ok0 b->b<C.w0.heap.size) {H:AA BG} {σ:Ac}
 (q:∀ok a w,Holds C ok H σ a w->∃v,(results fn a.tmps).run P w=.ok v w/\Rr (.returned v) w):∀(Ds:AA Nat) {ok:Nat->Prop} {a:Act} {w:Ai},Holds C ok H σ a w->(∀d∈Ds,ok d/\C.w0.heap.size<=d/\w.heap[d]? =some (.deferred (some [])))->Ds.Nodup->
  LeavesInM (IJ none) 0 P fn a.tmps Rr (Ds.map fun D=>{ target:=.collected D,args:= #[] }) .returning w
 | [],ok,a,w,h,_,_=>q ok a w h
 |D::Ds,ok,a,w,h,hd,r=>by
  obtain⟨ok',h',j⟩:=h.take n (fun d m=>hd d (Ku _ m)) (hd D (OE ..)) r;have s:=mM n q Ds h' j (LQ.1 r).2;exact⟨Bf,.inl ⟨D,_,rfl,run_takeDeferred (hd D (OE ..)).2.2,s⟩⟩
def DN.aI {f:FuncId} {fn:Func} {c:Code} {args:AA AP} {E E':AA Ad} {q:AP} (Z:P.funcs[f]? =some fn) (hb:fn.body=some c)
 (h:BK P c (.enter args fn.ntmps E) (nG P fn q E')):DN P f args E q E':=by
 intro ok X H w j u hs ha;refine(ZO (ro:=none) (n:=0)).1 (callsIn_of_wp_marks Z hb trivial (Rs (h.run none (.inl rfl) ⟨w,ok,X,H⟩ ok H _ w ?_) ?_) rfl)
 ·refine⟨u,?_,.nil _ _ _,u.hlen,fun t ht=>?_⟩
  ·simp[Ac.enter,hs]
  simp only[Ac.enter];by_cases e:t<args.length
  ·have z:(args++List.replicate (fn.ntmps-args.length) AP.junk).getD t .junk=args.getD t .junk:=kZ
   have e2:(j++Array.replicate (fn.ntmps-j.size) undef).getD t undef=j.getD t undef:=by
    simp[IV,Zb (show t<j.size by omega)]
   rw[z,e2];exact ha t e
  have z:(args++List.replicate (fn.ntmps-args.length) AP.junk).getD t .junk=.junk:=by
   simp only[List.getD,H8 (NR e),List.getElem?_replicate];split<;>rfl
  rw[z];exact .junk _
 rintro e U w' ⟨ok',H',σ',Y,I⟩;obtain⟨Ds,J,L,M⟩:=Y.defers
 have key:∀(x:AA AP) (π:AA (Nat×AO)),OQ P σ' fn.results.toList x->Lj σ'.base σ'.ents π=true->q=(RP x).back π->E'=Ju σ'.ents π->
  LeavesInM (IJ none) 0 P fn U.tmps (fun e w'=>∃v ok' H',e=.returned v/\Cm ⟨w,ok,X,H⟩ ok' H' E' w'/\R ok' w' H' q v) U.defers .returning w':=by
  rintro x π s m rfl rfl;rw[J];refine mM (P:=P) (C:=⟨w,ok,X,H⟩) u.oP (fun O a2 w2 r=>?_) Ds Y M L;obtain⟨v,hv,hR⟩:=Fin (P:=P) r s;exact⟨v,hv,v,O,_,rfl,r.mem.norm π (r.base▸m),hR.back π⟩
 cases e with
 |ret=>obtain⟨x,π,s,m,r,S⟩:=I;exact key x π s m r S
 |normal=>obtain⟨x,π,s,m,r,S⟩:=I;exact key x π s m r S
 |_=>exact I.elim
def BO:=@DN.aI
def Ae {x y:Code} (j:BK P x σ (Gv (fun s=>BK P y s Q) Q)):BK P (.seq x y) σ Q:=BK.seq _ j (fun _ h=>h)
def BK.join {x y:Code} (K:Ac->Prop) (j:∀s,K s->BK P y s Q) (m:(∀s,K s->BK P y s Q)->BK P x σ (Gv (fun s=>BK P y s Q) Q)):BK P (.seq x y) σ Q:=BK.seq _ (m j) (fun _ h=>h)
def Dq:=@BK.join
def FI {id:Nat} {ops:Aw Oper} {y:Code} {σ':Ac} {rs:AA AP} {ess:AA (AA Ad)} {bs:AA AO} (n:P.follows .mixedOrders=true) (j:(Ty ops&&Ve ops&&YA ops σ.slots.length&&U7 ops)=true) (m:Yi ops bs=true)
 (h:DL P ops ops.toList σ rs ess bs σ') (q:BK P y σ' Q):BK P (.seq (.region id ops true) y) σ Q:=
 BK.seq (fun s=>s=σ') (.draw n j m h rfl) (fun _ e=>e▸q)
end
section
variable {P:BU} {o:Oper} {es:AA Ad}
def abS {x:BD} {t:BA} {agg:AO} {n off:Nat} {cs:AA D} {y:D} (h:y=J9 agg cs off n) (j:DF P t agg n) (m:off+n<=cs.length) (q:agg=false->n=1) (r:o.op=.load t x):BJ P o [(x,.d (.ref cs off))] es (.d y) es:=h▸zs j m q r
def ac2 {x:BD} {t:BA} {agg:AO} {k n off:Nat} {cs:AA AP} {y:D} (h:y=J9 agg (FN cs) off n) (j:es[k]? =some (.box cs)) (hd:cs.all AP.oZ=true) (m:DF P t agg n) (q:off+n<=cs.length) (r:agg=false->n=1) (s:o.op=.load t x):
 BJ P o [(x,.ptr k off)] es (.d y) es:=h▸aaf j hd m q r s
def zX {x:BD} {t:BA} {f off n:Nat} {agg:AO} {cs:AA D} {y:D} (h:y=J9 agg cs off n) (j:Xw P t f off agg n=true) (m:off+n<=cs.length) (q:agg=false->n=1) (r:o.op=.field t x f):BJ P o [(x,.d (.agg cs))] es (.d y) es:=h▸agK j m q r
def aeH {t:BA} {j:Aw (Nat×BD)} {h:AA (Nat×Nat)} {z:Af} {y:D} (m:JR P t h z) (vs:AA AP) (n:o.op=.build t j) (q:y=.agg (FN (Gh (fun(i:Nat)=>h[i]?) (DY z) j.toList vs))) (r:JA (fun(i:Nat)=>h[i]?) (DY z).length j.toList vs=true)
 (hd:(Gh (fun(i:Nat)=>h[i]?) (DY z) j.toList vs).all AP.oZ=true):BJ P o (JQ j.toList vs) es (.d y) es:=q▸adq m vs r hd n
def aeQ {s t:BA} {x:BD} {h k:IntKind} {n:Int} (j:P.underlying s=some (.int h)) (m:P.underlying t=some (.int k)) (q:o.op=.convert s t x):BJ P o [(x,.d (.lit (.int h n)))] es (.d (.lit (.int k (k.wrap n)))) es:=
 vI q fun w=>by simp[convert,underlying,j,m,Conv.intToInt]
def agF {s t:BA} {x:BD} {u:AY} (h:P.underlying s=some .string) (j:P.underlying t=some .string) (m:o.op=.convert s t x):BJ P o [(x,.d (BZ u))] es (.d (BZ u)) es:=
 vI m fun w=>by simp[convert,underlying,h,j]
def ag0 {t h:BA} {x y:BD} {a b:AO} (j:P.underlying t=some .bool) (m:o.op=.binOp .eql t x y h):BJ P o [(x,.d (EG a)),(y,.d (EG b))] es (.d (EG (a==b))) es:=
 rQ (u:=.bool a) (v:=.bool b) (r:=.bool (a==b)) m (fun w=>by
  show((do pure (.bool (←Op.equal t (.bool a) (.bool b))):Sem Af)).run P w=_
  simp only[EN,run_equal_bool w t a b j,ES,Ej]) ⟨rfl,rfl⟩
def afm {t h:BA} {x y:BD} {a b:AO} (j:P.underlying t=some .bool) (m:o.op=.binOp .neq t x y h):BJ P o [(x,.d (EG a)),(y,.d (EG b))] es (.d (EG (!(a==b)))) es:=
 rQ (u:=.bool a) (v:=.bool b) (r:=.bool (!(a==b))) m (fun w=>by
  show((do pure (.bool (!(←Op.equal t (.bool a) (.bool b)))):Sem Af)).run P w=_
  simp only[EN,run_equal_bool w t a b j,ES,Ej]) ⟨rfl,rfl⟩
end
def aS {A Rr:Type} (body:(A->AB Rr)->A->AB Rr):Nat->A->AB Rr
 |0,_=>none
 |n+1,a=>body (aS body n) a
def Dx {P:BU} {σ:Ac} {Q:Exit->Ac->Prop} {m:Code} {A Rr:Type} (S:A->Ac) (body:(A->AB Rr)->A->AB Rr) (r:Rr) (a0:A) (u:DI σ (S a0)) (h:Go.Proofs.YtfmoknlmaldmlaaGreat.aS body Am a0=some r)
 (round:∀(J:Ac->Prop) (k:A->AB Rr),(∀σ' a,DI σ' (S a)->k a=some r->J σ')->∀a,body k a=some r->BK P m (S a) (Gv J Q)):BK P (.loop m) σ Q:=by
 refine BK.loop (fun n s=>∃a,DI s (S a)/\Go.Proofs.YtfmoknlmaldmlaaGreat.aS body n a=some r) Am ⟨a0,u,h⟩ ?_;rintro n s ⟨a,j,q⟩;refine Dk j ?_;cases n with
 |zero=>cases q
 |succ n=>exact round _ (Go.Proofs.YtfmoknlmaldmlaaGreat.aS body n) (fun σ' a z I=>⟨n,Nat.lt_succ_self n,a,z,I⟩) a q
def bZ {A B Rr:Type} (body:(A->B->AB Rr)->A->B->AB Rr):Nat->A->B->AB Rr
 |0,_,_=>none
 |n+1,a,b=>body (bZ body n) a b
def Jc {P:BU} {σ:Ac} {Q:Exit->Ac->Prop} {q:Code} {A B Rr:Type} (S:A->B->Ac) (body:(A->B->AB Rr)->A->B->AB Rr) (r:Rr) (a0:A) (m:B) (z:DI σ (S a0 m)) (h:Go.Proofs.YtfmoknlmaldmlaaGreat.bZ body Am a0 m=some r)
 (round:∀(J:Ac->Prop) (k:A->B->AB Rr),(∀σ' a b,DI σ' (S a b)->k a b=some r->J σ')->∀a b,body k a b=some r->BK P q (S a b) (Gv J Q)):BK P (.loop q) σ Q:=by
 refine BK.loop (fun n s=>∃a b,DI s (S a b)/\Go.Proofs.YtfmoknlmaldmlaaGreat.bZ body n a b=some r) Am ⟨a0,m,z,h⟩ ?_;rintro n s ⟨a,b,j,u⟩;refine Dk j ?_;cases n with
 |zero=>cases u
 |succ n=>exact round _ (Go.Proofs.YtfmoknlmaldmlaaGreat.bZ body n) (fun σ' a b I L=>⟨n,Nat.lt_succ_self n,a,b,I,L⟩) a b u
section
variable {P:BU} {o:Oper} {es:AA Ad} {α:Type}
def ac1 {b:Nat} {z:α} {n c:Int} {r:AA α} (h:Sm b z n c=some r):(0<=n/\n<=c/\(b:Int)*c<=140737488355328)/\r=List.replicate n.toNat z:=by
 unfold Sm at h;split at h
 ·exact⟨‹_›,(DU h).symm⟩
 cases h
def aeA {x y:BD} {t e:BA} {size j:Nat} {m:Af} {n c:Int} {r:AA α} (enc:α->D) (z:α) (h:Sm j z n c=some r) (Y:FW P t e size j) (hz:(P.info? e).bind (·.zero)=some m) (h1:m.cells.all (·.oneCell')=true) (J:m.cells.size=size)
 (q:DY m=(enc z).cells.map .d) (hb:0<j) (ho:o.op=.makeSlice t x y):BJ P o [(x,.d (Aq n)),(y,.d (Aq c))] es (.dn es.length) (es++[.arr e size (List.map enc r)]):=
 .eff fun C ok H a w hm hn=>by
  obtain⟨⟨h0,Z,hbc⟩,rfl⟩:=ac1 h;have hx:=(F7 hn).1.lit;have L:=(F7 hn).2.lit;simp only at hx L;obtain⟨i,z',hi,hz',hs,hby,_⟩:=Y.info;have hzv:i.zero=some m:=by rw[hi]at hz;simpa using hz
  have M:c<=9223372036854775807:=by
   have h2:(1:Int)*c<=(j:Int)*c:=Int.mul_le_mul_of_nonneg_right AL AL;omega
  have hr:=run_make (P:=P) w t e i m Y.und hi hzv .i64 .i64 n c h0 Z (by rw[hby];omega) M;rw[hs]at hr
  let cells:=madeCells m.cells (c.toNat*size)
  have O:=Y.pos;have s:cells.size=c.toNat*size:=size_madeCells _ _;have S:(DY m).length=size:=by simp[DY,J]
  have u:∀y∈List.map enc (List.replicate n.toNat z),y.cells.length=size:=by
   intro y L;simp only[List.map_replicate,List.mem_replicate]at L;rw[L.2,←S,q];simp
  have I:=Oa u;have hlen:(List.map enc (List.replicate n.toNat z)).length=n.toNat:=Bf
  rw[hlen]at I;have adL:n.toNat*size<=c.toNat*size:=JM _ AL
  have hrs:∀{ok:Nat->Prop} {w:Ai} {H:AA BG},Eo ok w H (Cj (List.map enc (List.replicate n.toNat z))) (cells.toList.take (n.toNat*size)):=by
   intro ok w H;refine⟨by rw[I,Qc,ML,s];omega,fun k hk=>?_⟩;rw[I]at hk;have hd:=ZR k size;have hq:k/size<n.toNat:=Yp (by rwa [QD]at hk);have hm':k % size<size:=Nat.mod_lt _ O;have e0:k=k/size*size+k % size:=by rw[QD];exact hd.symm
   have e1:(Cj (List.map enc (List.replicate n.toNat z))).getD k .junk=.d ((enc z).cells.getD (k % size) CV):=by
    have hg:=flat_get u (k/size) (k % size) (by rw[hlen];exact hq) hm';rw[←e0]at hg;rw[hg];congr 3;simp[List.getD,hq]
   have hcl:(enc z).cells.length=size:=by rw[←S,q];simp
   have e2:(AP.d ((enc z).cells.getD (k % size) CV))=(DY m).getD (k % size) .junk:=by
    rw[q];have :k % size<(enc z).cells.length:=AL
    simp[List.getD,this]
   have U:k % size<m.cells.size:=AL
   have e3:(cells.toList.take (n.toNat*size)).getD k undef=m.cells[k % size]:=by
    have hk2:k<c.toNat*size:=AL
    have e:cells.toList=(List.range (c.toNat*size)).map fun i=>m.cells[i % m.cells.size]! :=by
     show(madeCells m.cells (c.toNat*size)).toList=_;simp[madeCells]
    rw[e];simp only[List.getD,OV hk];simp[hk2,J];rw[getElem!_pos m.cells (k % size) U]
   rw[e1,e2,e3];have e4:(DY m).getD (k % size) .junk=.d (MF m.cells[k % size]):=by simp[DY,List.getD,U]
   rw[e4];exact⟨Z8 ((NU.1 h1) _ Bf),.d _ _ (X4 _)⟩
  obtain⟨h2,h3⟩:=hm.push (.cells cells e) ⟨.slice (some ⟨w.heap.size,0,none⟩) n.toNat c.toNat,size⟩ (.arr e size (List.map enc (List.replicate n.toNat z))) (fun b hb=>by simpa[D5]using hb.symm) (by
   refine⟨rfl,u,cells.toList.take (n.toNat*size),⟨?_,.inr ⟨w.heap.size,c.toNat,cells,by rw[hlen],LG _,Ue w _,by rw[hlen];omega,by unfold maxLen;omega,Vh s.symm,by rw[hlen]⟩⟩,hrs⟩
   rw[hlen,Qc,ML,s];omega)
  refine⟨.slice (some ⟨w.heap.size,0,none⟩) n.toNat c.toNat,_,ok,_,.inl ?_,h3,Gf _ _,h2,.dn _ _ _ _ size (by rw[←hm.hlen];simp)⟩;simp only[execOp,ho,hx,L,EN,hr,ES,Ej];rfl
def gCopy (l m:AA α):AA α:=m.take l.length++l.drop m.length
def acA {x y:BD} {t e:BA} {size bytes k:Nat} (enc:α->D) (l m:AA α) (hE:FW P t e size bytes) (hk:es[k]? =some (.arr e size (List.map enc l))) (hc:∀a,(enc a).cells.length=size) (ho:o.op=.call { callee:=.builtin .copy,args:= #[x,y],argTypes:= #[t,t] }):
 BJ P o [(x,.dn k),(y,.d (Bj enc m))] es .junk (es.set k (.arr e size (List.map enc (gCopy l m)))):=
 .eff fun C ok H a w hm hn=>by
  have hx:=(F7 hn).1;have hy:=(F7 hn).2;simp only at hx hy;obtain⟨h,hh,hok⟩:=NW hm.ent hm.hlen hk;have hxv:=TI hx hh;obtain⟨i,z',hi,hz',hs,hby,_⟩:=hE.info;have hu:(underlying t).run P w=.ok (.slice e) w:=by simp[underlying,hE.und]
  have hsz:(sizeOf e).run P w=.ok size w:=by simp[sizeOf,typeInfo,hi,hs]
  have O:∀(q:AA α),∀y∈q.map enc,y.cells.length=size:=fun q y hy=>by obtain⟨b,_,rfl⟩:=Pz.1 hy;exact hc b
  have hyR:D8 ok w (.sl (m.map enc)) (a.eval y):=by cases hy with |d _ _ h=>exact h
  obtain⟨r,M,aa7⟩:=dK H hyR (O m);obtain⟨h1,h2,ys,S,hrs⟩:=hok;have U:(m.map enc).length=m.length:=Bf
  have hll:(l.map enc).length=l.length:=Bf
  have hnl:r.length=m.length*size:=by rw[M.len,U]
  let n:=Nat.min m.length l.length
  have Y:(Builtin.lenOf (a.eval y)).run P w=.ok m.length w:=by
   rcases M.at_ with⟨ad,c,Z,_⟩|⟨c,Z,e2⟩
   ·rw[Z];simp[Builtin.lenOf]
   rw[Z];rw[U]at e2;simp[Builtin.lenOf,e2]
  have z:(Builtin.firstCells size n (a.eval y)).run P w=.ok (r.take (n*size)).toArray w:=by
   rcases M.at_ with⟨ad,c,Z,hcells⟩|⟨c,Z,e2⟩
   ·rw[Z];refine run_firstCells_some (P:=P) w size n ad _ c (r.take (n*size)) ?_ ?_
    ·rw[Qc,hnl];have :n*size<=m.length*size:=JM _ (Nat.min_le_left _ _);omega
    intro j v hj;rw[List.getElem?_take]at hj;split at hj
    ·exact hcells j v hj
    cases hj
   rw[Z];rw[U]at e2;have :r=[]:=IG (by rw[hnl,e2];simp);simp[Builtin.firstCells,this]
  have hone:∀u∈r.take (n*size),u.oneCell'=true:=fun u hu=>M.one u (List.mem_of_mem_take hu);have hn1:n<=m.length:=Nat.min_le_left _ _;have hn2:n<=l.length:=Nat.min_le_right _ _
  have s:(r.take (n*size)).length=n*size:=by
   rw[Qc,hnl];have :n*size<=m.length*size:=JM _ hn1;omega
  have hgc:gCopy l m=m.take n++l.drop n:=by
   unfold gCopy;by_cases hle:m.length<=l.length
   ·have Z:n=m.length:=Nat.min_eq_left hle;rw[Z,VO hle,List.take_length]
   have Z:n=l.length:=Nat.min_eq_right AL;rw[Z,dh AL,Ob]
  have I:(gCopy l m).length=l.length:=by rw[hgc];simp;omega
  rcases S.2 with⟨hv,hl0⟩|⟨g,cap,J,hv,_,hg,hncap,hcm,hcs,htake⟩
  ·
   rw[hll]at hl0;have hn0:n=0:=AL
   have hl:l=[]:=IG hl0;have hge:gCopy l m=l:=by rw[hgc,hn0];simp
   rw[hge]
   have hset:es.set k (.arr e size (List.map enc l))=es:=by
    apply List.ext_getElem?;intro j;by_cases hj:k=j
    ·subst hj;have hkl:=(Ep.1 hk).1;rw[List.getElem?_set_self hkl,hk]
    rw[Qm hj]
   rw[hset];refine⟨goInt n,w,ok,H,.inl ?_,.refl _ _,.refl _,hm,.junk _⟩;have e0:Nat.min m.length 0=n:=by rw[hn0];simp
   have hf0:(Builtin.firstCells size 0 (a.eval y)).run P w=.ok #[] w:=by rw[hn0]at z;simpa using z
   simp[execOp,ho,resolve,invoke,builtin,Builtin.copy_,hxv,hv,hu,Y,hsz,hf0,hn0]
  ·rw[hll]at hv hncap htake;have hlt:g<w.heap.size:=(JD.1 hg).1
   have hfit:n*size<=J.size:=by
    exact FZ (JM _ AL) hcs
   have hst:=run_storeCells_at (P:=P) g 0 e (r.take (n*size)) 0 J w hg (by rw[s];omega) hone;have Wy:∀y∈(gCopy l m).map enc,y.cells.length=size:=O _
   obtain⟨h3,h4⟩:=hm.upd (e:=.arr e size (List.map enc (gCopy l m))) (w':=w.setRow g (J.toList.take (0+0)++r.take (n*size)++J.toList.drop (0+0+(r.take (n*size)).length)).toArray) hk rfl hh (by rw[hv];rfl) rfl rfl rfl (by simp[World.setRow]) (fun c hc=>oV _ _ _ _ hc) (fun hg'=>by
    refine⟨h1,Wy,r.take (n*size)++ys.drop (n*size),?_,?_⟩
    ·refine⟨?_,.inr ⟨g,cap,_,by rw[Dn,I];exact hv,LG _,setRow_heap w g J _ e (0,0) hg,by rw[Dn,I];exact hncap,hcm,?_,?_⟩⟩
     ·simp only[Dp,s,Ql,S.1,Dn,I];have :n*size<=l.length*size:=JM _ hn2;omega
     ·simp only[X5,List.take_zero,Om,KP,s];simp only[Y7,Dp,s,Ql,ML];rw[show n*size+(J.size-n*size)=J.size by omega];exact hcs
     simp only[X5,List.take_zero,Om,KP,s,gU];rw[Dn,I,←htake];rw[List.take_append,s,VO (by rw[s];exact JM _ hn2)];congr 1;rw[List.drop_take]
    have ha:=aa7.mono hg' (Names.refl H);have hb:=hrs.mono hg' (Names.refl H);have aa8:=Oa (O l);have aa9:=Oa (O m);have Zp:=Oa Wy;have adM:n*size<=l.length*size:=JM _ hn2;have adN:n*size<=m.length*size:=JM _ hn1;refine⟨by simp only[Zp,Dp,s,Ql,S.1,Dn,I];omega,fun j hj=>?_⟩;rw[Zp,Dn,I]at hj;have hpos:=hE.pos;have e0:j=j/size*size+j % size:=by rw[QD];exact(ZR j size).symm
    have hq:j/size<l.length:=Yp (by rwa [QD]at hj);have hr:j % size<size:=Nat.mod_lt _ hpos;have hg3:=flat_get Wy (j/size) (j % size) (by rw[Dn,I];exact hq) hr;rw[←e0]at hg3;by_cases hjn:j<n*size
    ·have Zq:j/size<n:=Yp (by rwa [QD]at hjn);have hg2:=flat_get (O m) (j/size) (j % size) (by rw[U];omega) hr;rw[←e0]at hg2
     have L:((gCopy l m).map enc).getD (j/size) CV=(m.map enc).getD (j/size) CV:=by
      rw[hgc];simp only[List.getD,ZK];rw[FP Hy,List.map_take,OV Zq]
     rw[hg3,L,←hg2]
     have e5:(r.take (n*size)++ys.drop (n*size)).getD j undef=r.getD j undef:=by
      simp only[List.getD];rw[FP (by rw[s];exact hjn),OV hjn]
     rw[e5];exact ha.2 j (by rw[aa9,U];omega)
    have Zq:n<=j/size:=(Nat.le_div_iff_mul_le hpos).2 AL;have hg1:=flat_get (O l) (j/size) (j % size) (by rw[hll];exact hq) hr;rw[←e0]at hg1
    have L:((gCopy l m).map enc).getD (j/size) CV=(l.map enc).getD (j/size) CV:=by
     rw[hgc];have hlt':(m.take n).length=n:=Hy
     simp only[List.getD,ZK];rw[H8 (by rw[Dn,hlt'];exact Zq),Dn,hlt',List.map_drop,OX];congr 2;omega
    rw[hg3,L,←hg1]
    have e5:(r.take (n*size)++ys.drop (n*size)).getD j undef=ys.getD j undef:=by
     simp only[List.getD];rw[H8 (by rw[s];omega),s,OX];congr 2;omega
    rw[e5]
    exact hb.2 j (by rw[aa8,hll];omega))
   refine⟨goInt n,_,ok,H,.inl ?_,h4,.refl _,h3,.junk _⟩;have e0:Nat.min m.length l.length=n:=rfl;simp[execOp,ho,resolve,invoke,builtin,Builtin.copy_,hxv,hv,hu,Y,hsz,e0,z];rw[hst];simp
end
def Aj (s:AY):AA Int:=s.data.toList.map fun c=>(c.toNat:Int)
def EJ (s:AY):(Aj s).length=s.size:=by unfold Aj;rw[Dn,ML];rfl
section
variable {P:BU} {o:Oper} {es:AA Ad} {α:Type}
def XF :∀(l:AA Int),Cj (l.map Cb)=l.map fun n=>.d (Cb n)
 | []=>rfl
 |n::l=>by rw[Oi,YW,XF l];rfl
def aah {w:Ai} {t u ty e:BA} {i:TypeInfo} (U:P.underlying t=some (.slice e)) (Y:P.underlying u=some .string) (Z:P.info? e=some i) (hz:i.zero=some (.int .u8 0)) (h:i.size=1) (O:i.bytes=1)
 {v:Af} {n:Nat} {xs:AA Af} (m:KN w e 1 v n xs) (s:AY) (J:n+s.size<=maxLen) (z:n+s.size<=140737488355328):
 ∃v' w',(Builtin.append_ #[t,u] ty #[v,.string s]).run P w=.ok v' w'/\KN w' e 1 v' (n+s.size) (xs++Lib.strCells s)/\w.grownBy w' v.ownBlock/\(∀M,D5 v'=some M->D5 v=some M\/w.heap.size<=M):=by
 have I:xs.length=n:=by simpa using m.1
 have hlen:(xs++Lib.strCells s).length=(n+s.size)*1:=by rw[Dp,I,eH,YF]
 rcases m.2 with⟨rfl,rfl⟩|⟨g,cap,S,rfl,_,hg,hnc,L,hcs,q⟩
 ·have hx:xs=[]:=IG I;subst hx;obtain⟨v',w',q1,q2,q3,q4⟩:=Lib.run_append_own_string (P:=P) w w.heap.size t u ty e i U Y Z hz h O _ 0 [] (World.ownsRow_nil w w.heap.size e 1) s J z (Gt _);refine⟨v',w',q1,.of q2,q3,fun M j=>.inr ?_⟩;rcases q2.2 with⟨rfl,_⟩|⟨g2,_,_,rfl,hle,_⟩
  ·simp[D5]at j
  simp[D5]at j;subst j;exact hle
 rw[YF]at hcs q;by_cases r:n+s.size<=cap
 ·have hr:=Lib.run_append_room_string (P:=P) w t u ty e i U Y Z h g n cap S hg s r AL;refine⟨_,_,hr,⟨hlen,.inr ⟨g,cap,_,rfl,LG _,setRow_heap w g S _ e _ hg,r,L,?_,?_⟩⟩,⟨rfl,rfl,rfl,Bf,fun k _ hk=>setRow_other w g k _ (fun e=>hk (by simp[Value.ownBlock,e]))⟩,fun M j=>.inl j⟩
  ·simp only[Y7,Dp,Qc,Ql,ML,eH];omega
  rw[q,←hlen];exact iF
 have hr:=Lib.run_append_grow_string (P:=P) w t u ty e i (.int .u8 0) U Y Z hz ⟨g,0,none⟩ n cap xs (by rw[h];simpa using I) (m.cells (g:=g) rfl) s AL (by unfold maxLen at J;omega) (by rw[O];exact growslice_fits AL AL);have hge:=grownCap_ge w (n+s.size) cap e;have L:grownCap w (n+s.size) cap e<=maxLen:=grownCap_le_maxLen w (n+s.size) cap e J;refine⟨_,_,hr,⟨hlen,.inr ⟨w.heap.size,_,_,rfl,LG _,Ue w.drew _,hge,L,Vh ?_,?_⟩⟩,⟨rfl,rfl,rfl,Bf,fun k hk _=>WG w.drew _ k hk⟩,fun M j=>.inr (by simp[D5]at j;omega)⟩
 ·have hz1:(Value.int IntKind.u8 0).cells.size=1:=rfl;simp only[Array.size_append,Y7,size_zeroCells,hz1,I,eH];omega
 simp only[Array.toList_append,HY];rw[←HY,←hlen];exact iF
def aaM {s x:BD} {t u e:BA} {k:Nat} {l r:AA Int} {j:AY} (h:F6 1 l (Aj j)=some r) (hE:FW P t e 1 1) (hz:(P.info? e).bind (·.zero)=some (.int .u8 0)) (hu:P.underlying u=some .string) (hk:es[k]? =some (.arr e 1 (List.map Cb l)))
 (ho:o.op=.call { callee:=.builtin .append,args:= #[s,x],argTypes:= #[t,u] }):BJ P o [(s,.dn k),(x,.d (BZ j))] es (.dn es.length) (es.set k .dead++[.arr e 1 (List.map Cb r)]):=
 .eff fun C ok H a w Z hn=>by
  obtain⟨rfl,hlen⟩:=vT h;rw[EJ,YF]at hlen;have hs:=(F7 hn).1;have hx:=(F7 hn).2.lit;simp only at hs hx;obtain⟨hd,hh,hok⟩:=NW Z.ent Z.hlen hk;have hsv:=TI hs hh;obtain⟨h1,h2,ys,z,hrs⟩:=hok;obtain⟨i,z',hi,hz',hs1,hby,_⟩:=hE.info;have hz2:i.zero=some (.int .u8 0):=by rw[hi]at hz;simpa using hz
  have J:(l.map Cb).length=l.length:=Bf
  have L:(l.map Cb).length+j.size<=maxLen:=by rw[J];unfold maxLen;omega
  obtain⟨v',w',hr,I,M,O⟩:=aah (P:=P) (ty:=o.type) hE.und hu hi hz2 hs1 hby z j L (by rw[J];exact hlen)
  obtain⟨h3,h4⟩:=Z.turn (h':=⟨v',1⟩) (e:=.arr e 1 (List.map Cb (l++Aj j))) hk rfl hh M.os M.tape M.output M.size (fun c hc hne=>M.block c hc (by rw[qj z];exact fun e=>hne e.symm)) (fun g S=>⟨qM I S,O g S⟩) (fun hgr=>by
   refine⟨rfl,fun y hy=>by obtain⟨q,_,rfl⟩:=Pz.1 hy;rfl,ys++Lib.strCells j,?_,?_⟩
   ·have e:(List.map Cb (l++Aj j)).length=(l.map Cb).length+j.size:=by simp[EJ]
    rw[e];exact I
   have U:=hrs.mono hgr (Gf H [⟨v',1⟩]);have hfl:(Cj (l.map Cb)).length=l.length:=by rw[XF];simp
   have hcl:(Lib.strCells j)=(Aj j).map (.int .u8):=by unfold Lib.strCells Aj;rw[List.map_map];rfl
   rw[ZK,uJ,XF (Aj j),hcl];refine⟨by rw[Dp,Dp,U.1,Dn,Dn],fun i hi=>?_⟩;by_cases m:i<(Cj (l.map Cb)).length
   ·have e1:(Cj (l.map Cb)++(Aj j).map fun n=>AP.d (Cb n)).getD i .junk=(Cj (l.map Cb)).getD i .junk:=by simp[List.getD,FP m]
    have e2:(ys++(Aj j).map (Value.int .u8)).getD i undef=ys.getD i undef:=by simp[List.getD,FP (by rw[U.1];exact m:i<ys.length)]
    rw[e1,e2];exact U.2 i m
   have Y:i-(Cj (l.map Cb)).length<(Aj j).length:=by rw[Dp,Dn]at hi;omega
   have e1:(Cj (l.map Cb)++(Aj j).map fun n=>AP.d (Cb n)).getD i .junk=.d (Cb (Aj j)[i-(Cj (l.map Cb)).length]):=by simp[List.getD,H8 (NR m),Y]
   have e2:(ys++(Aj j).map (Value.int .u8)).getD i undef=.int .u8 (Aj j)[i-(Cj (l.map Cb)).length]:=by simp[List.getD,H8 (by rw[U.1];omega:ys.length<=i),U.1,Y]
   rw[e1,e2]
   exact⟨rfl,.d _ _ (.lit _)⟩)
  have hH:(H++[(⟨v',1⟩:BG)])[es.length]? =some ⟨v',1⟩:=by rw[←Z.hlen];simp
  refine⟨v',w',ok,_,.inl ?_,h4,Gf _ _,h3,?_⟩
  ·simp[execOp,ho,resolve,invoke,builtin,hx,hsv,hr]
  rcases I.2 with⟨rfl,_⟩|⟨g',c',_,rfl,_⟩
  ·exact .dn _ _ _ _ 1 hH
  exact .dn _ _ _ _ 1 hH
def CY (op:BinOp) (k:IntKind) (x y:Int):Int:=
 match op with
 | .and=>k.wrap ((BitVec.ofInt k.bits x&&& BitVec.ofInt k.bits y).toNat)
 | .or=>k.wrap ((BitVec.ofInt k.bits x|||BitVec.ofInt k.bits y).toNat)
 | .xor=>k.wrap ((BitVec.ofInt k.bits x^^^BitVec.ofInt k.bits y).toNat)
 |_=>k.wrap ((BitVec.ofInt k.bits x&&& ~~~(BitVec.ofInt k.bits y)).toNat)
def KQ {t h:BA} {x y:BD} {k:IntKind} {u v:Int} (j:o.op=.binOp .and t x y h):BJ P o [(x,.d (.lit (.int k u))),(y,.d (.lit (.int k v)))] es (.d (.lit (.int k (CY .and k u v)))) es:=
 rQ j (fun w=>Xy) ⟨rfl,rfl⟩
def MN {t h:BA} {x y:BD} {k:IntKind} {u v:Int} (j:o.op=.binOp .or t x y h):BJ P o [(x,.d (.lit (.int k u))),(y,.d (.lit (.int k v)))] es (.d (.lit (.int k (CY .or k u v)))) es:=
 rQ j (fun w=>Xy) ⟨rfl,rfl⟩
def agS {t h:BA} {x y:BD} {k:IntKind} {u v:Int} (j:o.op=.binOp .xor t x y h):BJ P o [(x,.d (.lit (.int k u))),(y,.d (.lit (.int k v)))] es (.d (.lit (.int k (CY .xor k u v)))) es:=
 rQ j (fun w=>Xy) ⟨rfl,rfl⟩
def agq {t h:BA} {x y:BD} {k:IntKind} {u v:Int} (j:o.op=.binOp .andNot t x y h):BJ P o [(x,.d (.lit (.int k u))),(y,.d (.lit (.int k v)))] es (.d (.lit (.int k (CY .andNot k u v)))) es:=
 rQ j (fun w=>Xy) ⟨rfl,rfl⟩
def QV (k:IntKind) (x:Int):Int:=CY .xor k (if k.signed then -1 else k.max) x
def acR {t:BA} {x:BD} {k:IntKind} {u:Int} (h:o.op=.unOp .xor t x):BJ P o [(x,.d (.lit (.int k u)))] es (.d (.lit (.int k (QV k u)))) es:=
 aU h (fun w=>by simp[Op.unary,Op.intBits,QV,CY])
def Le (op:BinOp) (k:IntKind) (x y:Int):AB Int:=
 if y<0 then none else some (match op with | .shl=>k.wrap (x*2^(min y.toNat k.bits))|_=>x.fdiv (2^(min y.toNat k.bits)))
def adX {t j:BA} {x y:BD} {k k':IntKind} {u v r:Int} (h:Le .shl k u v=some r) (m:o.op=.binOp .shl t x y j):BJ P o [(x,.d (.lit (.int k u))),(y,.d (.lit (.int k' v)))] es (.d (.lit (.int k r))) es:=by
 unfold Le at h;split at h
 ·cases h
 rename_i n;obtain rfl:=DU h;exact rQ m (fun w=>by simp[binOp,Op.shift,n]) ⟨rfl,rfl⟩
def afR {t j:BA} {x y:BD} {k k':IntKind} {u v r:Int} (h:Le .shr k u v=some r) (m:o.op=.binOp .shr t x y j):BJ P o [(x,.d (.lit (.int k u))),(y,.d (.lit (.int k' v)))] es (.d (.lit (.int k r))) es:=by
 unfold Le at h;split at h
 ·cases h
 rename_i n;obtain rfl:=DU h;exact rQ m (fun w=>by simp[binOp,Op.shift,n]) ⟨rfl,rfl⟩
def iC (k:IntKind) (a b:Int):AB Int:=if b=0 then none else some (k.wrap (a.tdiv b))
def PY (a b:Int):AB Int:=if b=0 then none else some (a.tmod b)
end
section
variable {P:BU} {o:Oper} {es:AA Ad} {α β γ:Type}
def jR {ok:Nat->Prop} {w:Ai} {H:AA BG} {a:Act}:∀{xs:AA BD} {vs:AA AP},xs.length=vs.length->(∀n∈Di xs vs,R ok w H n.2 (a.eval n.1))->∀i,i<vs.length->R ok w H (vs.getD i .junk) ((xs.map a.eval).getD i undef)
 | [],[],_,_,i,j=>NG
 | [],_::_,h,_,_,_=>FQ
 |_::_,[],h,_,_,_=>FQ
 |x::xs,v::vs,h,m,0,_=>by simpa using m (x,v) (by simp[Di])
 |x::xs,v::vs,h,m,i+1,j=>by
  have :=jR QG (fun n q=>m n (by simp[Di,q])) i JE;simpa using this
def aee {f:FuncId} {C:DZ} {ok:Nat->Prop} {H:AA BG} {w:Ai} (z:Cm C ok H es w) {q:AA D} {n:AP} (O:DN P f (q.map .d) [] n []) (m:Aw Af) (S:m.size=q.length) (J:∀i,i<q.length->D8 ok w (q.getD i CV) (m.getD i undef)) (s:n.up [] es.length=n):
 Calls P f m w fun e w'=>∃v ok' H',e=.returned v/\E8 ok w ok' w'/\Names H H'/\Cm C ok' H' es w'/\R ok' w' H' n v:=by
 have L:Cm ⟨w,ok,[],[]⟩ ok [] [] w:=
  ⟨.refl _ _,fun _ h=>h,fun _ h=>.inl h,z.oP,.refl _,rfl,fun k e h r _=>by simp at r,fun k e h b r=>by simp at r,fun k k' e e' h h' b r=>by simp at r⟩
 refine(O ok [] [] w m L (by simpa using S) (fun i U=>?_)).mono ?_
 ·have u:i<q.length:=by simpa using U
  have Y:(q.map AP.d).getD i .junk=.d (q.getD i CV):=by simp[List.getD,u]
  rw[Y];exact .d _ _ (J i u)
 rintro e w' ⟨v,ok',H',rfl,j,Z⟩;have M:H'=[]:=IG j.hlen
 obtain⟨h1,h2⟩:=z.change (ok':=ok') (H':=H) (es':=es) (w':=w') (fun _=>False) j.fr.os j.fr.tape j.fr.output j.fr.size (fun b I _=>j.fr.block b I Bf) (fun _ h=>h.elim) j.vF (fun b I=>by
  rcases j.vG b I with h|h|h
  ·exact .inl h
  ·exact .inr ⟨h,j.oP b I⟩
  simp at h) (.refl _) z.hlen (fun k e h r hh=>.inl ⟨r,hh,fun _ _ _ h=>h⟩)
 refine⟨v,ok',H,rfl,h2,.refl _,h1,?_⟩;have :=ug (srcs:=[]) (H:=H) (Hc:=[]) (H':=H') rfl (fun i k h=>FQ) (fun k v J=>by simp at J) Z;rw[z.hlen,s,M]at this;simpa using this
def lQ {f:FuncId} {x:BD} {ops:Aw BD} {ats:Aw BA} (j cs:AA D) {m:AP} (hr:DN P f ((j++cs).map .d) [] m []) (hf:Eb P f=true) (Y:ops.toList.length=j.length) (u:m.up [] es.length=m)
 (ho:o.op=.call { callee:=.value x,args:=ops,argTypes:=ats }):BJ P o ((x,.d (.fn (.func f) [] cs))::Di ops.toList (j.map .d)) es m es:=by
 intro C ok H a w Q hm Z;have J:=Z (x,.d (.fn (.func f) [] cs)) Bf;simp only at J;have r:=jR (xs:=ops.toList) (vs:=j.map .d) (by simpa using Y) (fun n L=>Z n (Ku _ L));generalize hv:a.eval x=v at J;cases J with
 |d _ _ h=>
  cases h with
  |fn _ _ _ vs us M O h1 h2=>
   have S:vs= #[]:=Array.eq_empty_of_size_eq_zero (by simpa using M);subst S;unfold Oper.wp
   have he:(execOp a.eval o).run P w=.ok (.enter f ((ops.map a.eval)++us)) w:=by
    have :=aK hf (ops.map a.eval++us) w;simp[execOp,ho,resolve,hv,Deferred.ofValue,invoke,this]
   rw[he,Oper.upon_enter];have z:(ops.map a.eval).size=j.length:=by simpa using Y
   refine(aee hm hr _ (by simp[z,O]) (fun i hi=>?_) u).mono ?_
   ·by_cases q:i<j.length
    ·have I:=r i JL;have e1:(j.map AP.d).getD i .junk=.d (j.getD i CV):=jk
     have s:i<ops.size:=by simpa using(by omega:i<(ops.map a.eval).size)
     have e2:(ops.toList.map a.eval).getD i undef=(ops.map a.eval++us).getD i undef:=by
      simp[List.getD,IV,Zb,s]
     have U:(j++cs).getD i CV=j.getD i CV:=by simp[List.getD,FP q]
     rw[e1,e2]at I;rw[U];cases I with |d _ _ h=>exact h
    have s:i-j.length<cs.length:=by rw[Dp]at hi;omega
    have U:(j++cs).getD i CV=cs.getD (i-j.length) CV:=by simp[List.getD,H8 (NR q)]
    have e4:(ops.map a.eval++us).getD i undef=us.getD (i-j.length) undef:=by
     simp only[IV];rw[Array.getElem?_append_right AL,z]
    rw[U,e4];exact h2 _ s
   rintro e w' ⟨v,ok',H',rfl,I,h4,h5,h6⟩;exact⟨v,ok',H',rfl,I,h4,h5,h6⟩
def bI (P:BU) (h:α->D) (j:β->D) (d:D) (g:α->AB β):Prop:=∃f cs,d=.fn (.func f) [] cs/\Eb P f=true/\∀a b,g a=some b->DN P f (([h a]++cs).map .d) [] (.d (j b)) []
def vK (P:BU) (h:α->D) (j:β->D) (m:γ->D) (d:D) (g:α->β->AB γ):Prop:=∃f cs,d=.fn (.func f) [] cs/\Eb P f=true/\∀a b c,g a b=some c->DN P f (([h a,j b]++cs).map .d) [] (.d (m c)) []
def y9 {x y:BD} {ats:Aw BA} {j:α->D} {m:β->D} {d:D} {g:α->AB β} {a:α} {b:β} (hd:bI P j m d g) (h:g a=some b) (n:o.op=.call { callee:=.value x,args:= #[y],argTypes:=ats }):
 BJ P o [(x,.d d),(y,.d (j a))] es (.d (m b)) es:=by
 obtain⟨f,cs,rfl,q,r⟩:=hd;exact lQ [j a] cs (r a b h) q rfl rfl n
def af9 {x y z:BD} {ats:Aw BA} {j:α->D} {m:β->D} {n:γ->D} {d:D} {g:α->β->AB γ} {a:α} {b:β} {c:γ} (hd:vK P j m n d g) (h:g a b=some c) (q:o.op=.call { callee:=.value x,args:= #[y,z],argTypes:=ats }):
 BJ P o [(x,.d d),(y,.d (j a)),(z,.d (m b))] es (.d (n c)) es:=by
 obtain⟨f,cs,rfl,r,s⟩:=hd;exact lQ [j a,m b] cs (s a b c h) r rfl rfl q
end
section
variable {P:BU} {o:Oper} {es:AA Ad}
def bW {ns:AA (BD×AP)} {v:AP} {es':AA Ad} (e:BA) (size:Nat) (h:BJ P o ((.const (.slice none 0 0),.dn es.length)::ns) (es++[.arr e size []]) v es'):BJ P o ns es v es':=by
 intro C ok H a w Q r s;obtain⟨u,z⟩:=xQ r e size;refine Oper.wp_mono ?_ (h C ok _ a w Q u (fun n j=>?_))
 ·rintro M w' ⟨v',ok',H',I,J,m,q,L⟩;exact⟨v',ok',H',I,J,(Gf _ _).trans m,q,L⟩
 rcases Hz.1 j with rfl|j
 ·exact z
 exact(s n j).mono (.refl _ _) (Gf _ _)
def R.Vk {ok:Nat->Prop} {w:Ai} {H:AA BG} {us:AA Af} {v:Af} (h:R ok w H (.d (.agg (us.map .lit))) v):v=.agg us.toArray:=by
 cases h with
 |d _ _ h=>
  cases h with
  |agg _ vs q _ h=>
   congr 1;apply Array.ext
   ·simpa using q
   intro i r I;have n:i<(us.map D.lit).length:=AL
   have j:=h i n;have m:i<us.length:=X0
   have s:(us.map D.lit).getD i CV=.lit (us[i]):=UM
   have z:vs.getD i undef=vs[i]:=by simp[Array.getD,r]
   rw[s,z]at j;generalize vs[i]=u at j;cases j;simp
structure Oj (P:Program) (n:Nat) (t:TypeId) (us vs:List Value) (b:Bool):Prop where
 run:∀(d:Nat) (w:World),(Op.equalIn (d+n) t (.agg us.toArray) (.agg vs.toArray)).run P w=.ok b w
def EI {t:BA} {cs:Aw Af} {off:Nat} {v:Af} {size:Nat} (j:DF P t false size) (h:cs[off]? =some v) (w:Ai):(part t cs off).run P w=.ok v w:=by
 simp[part,j.agg,h]
def MX (d:Nat) (xs ys:Aw Af):AA (BA×Nat)->Sem AO
 | []=>pure true
 |f::h=>do
  let a ←part f.1 xs f.2
  let b ←part f.1 ys f.2
  let r ←Op.equalIn d f.1 a b
  if(!r)=true then pure false else MX d xs ys h
def sV (d:Nat) (xs ys:Aw Af):∀(j:AA Field),j.all (fun f=>f.name != "_")=true->Op.eqFields d xs ys j=MX d xs ys (j.map fun f=>(f.type,f.offset))
 | [],_=>rfl
 |f::j,h=>by
  simp only[List.all_cons,CS,bne_iff_ne,ne_eq]at h;simp only[Op.eqFields,Oi,MX,ne_eq,h.1,not_false_eq_true,Kr,sV d xs ys j h.2]
def Qq {d:Nat} {t:BA} {xs ys:Aw Af} {l:AA (BA×Nat)} {b:AO} {w:Ai} (j:P.underlying t=some (.struct (P.fieldsOf t))) (m:P.stoodInHeld t=false) (n:(P.fieldsOf t).toList.all (fun f=>f.name != "_")=true)
 (q:(P.fieldsOf t).toList.map (fun f=>(f.type,f.offset))=l) (h:(MX d xs ys l).run P w=.ok b w):(Op.equalIn (d+1) t (.agg xs) (.agg ys)).run P w=.ok b w:=by
 rw[run_equalIn_struct w d t xs ys j m,sV _ _ _ _ n,q,h]
def Rf (d:Nat) (xs ys:Aw Af) (w:Ai):(MX d xs ys []).run P w=.ok true w:=by simp[MX]
def Hw {d:Nat} {xs ys:Aw Af} {t:BA} {off:Nat} {h:AA (BA×Nat)} {a b:Af} {r rs:AO} {w:Ai} (ha:(part t xs off).run P w=.ok a w) (j:(part t ys off).run P w=.ok b w)
 (m:(Op.equalIn d t a b).run P w=.ok r w) (n:(MX d xs ys h).run P w=.ok rs w):(MX d xs ys ((t,off)::h)).run P w=.ok (r&&rs) w:=by
 unfold MX;simp only[EN,ha,j,m,ES];cases r<;>simp[n]
def RY {t s:BA} {x y:BD} {n:Nat} (us vs:AA Af) {b:AO} (h:Oj P n t us vs b) (hd:n<=10000) (u:P.eqGuardType P.depth t=false) (z:o.op=.binOp .neq t x y s):
 BJ P o [(x,.d (.agg (us.map .lit))),(y,.d (.agg (vs.map .lit)))] es (.d (EG (!b))) es:=
 .pure fun _ _ a w _ _ m=>⟨.bool (!b),by
  have q:=(F7 m).1.Vk;have r:=(F7 m).2.Vk;simp only at q r;have j:(eqGuard .neq t x y (.agg us.toArray) (.agg vs.toArray)).run P w=.ok () w:=by simp[eqGuard,u]
  simp only[execOp,z,q,r,EN,j,ES,Ej,run_neq_struct,(by have :=h.run (10000-n) w;rwa [Nat.sub_add_cancel hd]at this:(Op.equalIn 10000 t (.agg us.toArray) (.agg vs.toArray)).run P w=.ok b w)],.d _ _ (.lit _)⟩
def Es (l:AA Int):AY:=l.foldl (fun r n=>r.push (UInt8.ofNat n.toNat)) ByteArray.empty
def aaN {ok:Nat->Prop} {w:Ai} {H:AA BG} {l:AA Int} {j:AA Af} (h:Eo ok w H (Cj (l.map Cb)) j):j=l.map (.int .u8):=by
 rw[XF]at h;apply List.ext_getElem
 ·simpa using h.1
 intro i s u;have q:i<(l.map fun n=>AP.d (Cb n)).length:=Pv
 have r:=(h.2 i q).2;have m:i<l.length:=JL
 have z:(l.map fun n=>AP.d (Cb n)).getD i .junk=.d (Cb l[i]):=UM
 have I:j.getD i undef=j[i]:=by simp[List.getD,s]
 rw[z,I]at r;have :=r.lit;simpa using this
def ag3 {w:Ai} {v:Af} {m:Nat} {l:AA Int} (h:Ri w v m 1 (l.map (.int .u8))):(Conv.bytesToString v).run P w=.ok (.string (Es l)) w:=by
 rcases h.at_ with⟨ad,c,rfl,n⟩|⟨c,rfl,q⟩
 ·refine run_bytesToString w ad m c l ?_;have j:=h.len;have :=run_loadCells_list (P:=P) w ad (l.map (Value.int .u8)) n;rw[Dn,YF]at j;rw[Dn,j]at this;exact this
 have j:=h.len;rw[q,Nat.zero_mul,Dn]at j;rw[IG j];simp[Conv.bytesToString,Es]
def Value.isSlice:Af->AO
 | .slice _ _ _=>true
 |_=>false
def aft {w:Ai} {v:Af} {m size:Nat} {j:AA Af} (h:Ri w v m size j):Value.isSlice v=true:=by
 rcases h.at_ with⟨_,_,rfl,_⟩|⟨_,rfl,_⟩<;>rfl
def adg {s t e:BA} {v:Af} {w:Ai} {r:AY} (j:P.underlying s=some (.slice e)) (m:P.underlying e=some (.int .u8)) (n:P.underlying t=some .string) (q:Value.isSlice v=true)
 (h:(Conv.bytesToString v).run P w=.ok (.string r) w):(convert s t v).run P w=.ok (.string r) w:=by
 cases v<;>simp[Value.isSlice]at q
 simp[convert,underlying,j,m,n,h]
def vg {s t e:BA} {x:BD} {l:AA Int} (z:P.underlying s=some (.slice e)) (I:P.underlying e=some (.int .u8)) (J:P.underlying t=some .string) (L:o.op=.convert s t x):
 BJ P o [(x,.d (Bj Cb l))] es (.d (BZ (Es l))) es:=
 .pure fun ok H a w _ _ M=>by
  have m:=H9 M;simp only at m;generalize O:a.eval x=v at m;refine⟨.string (Es l),?_,.d _ _ (.lit _)⟩;cases m with
  |d _ _ h=>
   obtain⟨u,j,q⟩:=dK H h (size:=1) (fun y S=>by obtain⟨n,_,rfl⟩:=Pz.1 S;rfl);obtain rfl:=aaN q;have r:=aft j;simp[execOp,L,O,adg z I J r (ag3 j)]
def KU {fn:Fn} {j m:Aw BD} {fi ca:AA AP} (q:j.toList.length=fi.length) (u:m.toList.length=ca.length) (I:o.op=.makeFunc fn j m):
 BJ P o (Di j.toList fi++Di m.toList ca) es (.fn fn fi ca) es:=
 .pure fun ok H a w _ _ r=>by
  have key:∀(xs:Aw BD) (vs:AA AP),xs.toList.length=vs.length->(∀n∈Di xs.toList vs,R ok w H n.2 (a.eval n.1))->∀i,i<vs.length->R ok w H (vs.getD i .junk) ((xs.map a.eval).getD i undef):=by
   intro xs vs q r i J;have z:=jR q r i J
   have s:i<xs.size:=by
     have :xs.size=vs.length:=JL
     omega
   have L:(xs.toList.map a.eval).getD i undef=(xs.map a.eval).getD i undef:=by simp[List.getD,Array.getD,s]
   rw[L]at z;exact z
  refine⟨.func fn (j.map a.eval) (m.map a.eval),by simp[execOp,I,Instr.makeFunc],.fn fn fi ca _ _ JL Pv (key _ _ q fun n h=>r n (by simp[h])) (key _ _ u fun n h=>r n (by simp[h]))⟩
def iP :∀{xs:AA BD} {vs:AA AP} {ys:AA BD} {us:AA AP},xs.length=vs.length->Di (xs++ys) (vs++us)=Di xs vs++Di ys us
 | [],[],_,_,_=>rfl
 | [],_::_,_,_,h=>FQ
 |_::_,[],_,_,h=>FQ
 |x::xs,v::vs,ys,us,h=>by simp[Di,iP (xs:=xs) (vs:=vs) QG]
def fF {ok:Nat->Prop} {w:Ai} {H:AA BG} {a:Act}:∀{us:AA Af} {vs:AA AP},us.length=vs.length->(∀i,i<vs.length->R ok w H (vs.getD i .junk) (us.getD i undef))->∀n∈Di (us.map Operand.const) vs,R ok w H n.2 (a.eval n.1)
 | [],[],_,_,n,j=>by simp[Di]at j
 | [],_::_,h,_,_,_=>FQ
 |_::_,[],h,_,_,_=>FQ
 |u::us,v::vs,m,h,n,j=>by
  simp only[Oi,Di,Hz]at j;rcases j with rfl|j
  ·have :=h 0 Bf;simp at this;exact this
  exact fF (us:=us) (vs:=vs) PS (fun i q=>by simpa using h (i+1) JL) n j
def qI {f:FuncId} {x:BD} {ops:Aw BD} {ats:Aw BA} (srcs:AA Bv) {fi ca dF gB:AA AP} {E E':AA Ad} {m:AP} (I:DN P f gB E m E') (J:Eb P f=true) (L:Je srcs es E E'=true) (M:Uk srcs es E)
 (ha:Gn srcs (fi++dF++ca) gB) (r:ops.toList.length=dF.length) (O:o.op=.call { callee:=.value x,args:=ops,argTypes:=ats }):
 BJ P o ((x,.fn (.func f) fi ca)::Di ops.toList dF) es (m.up srcs es.length) (GH srcs es E'):=by
 intro C ok H a w Q S z;have s:=z (x,.fn (.func f) fi ca) Bf;simp only at s;generalize U:a.eval x=v at s;cases s with
 |fn _ _ _ vs us j q Y Z=>
  unfold Oper.wp
  have he:(execOp a.eval o).run P w=.ok (.enter f ((vs++ops.map a.eval)++us)) w:=by
   have :=aK J (vs++ops.map a.eval++us) w;rw[Array.append_assoc]at this;simp[execOp,O,resolve,U,Deferred.ofValue,invoke,this]
  rw[he,Oper.upon_enter]
  have e:vs++ops.map a.eval++us=((vs.toList.map Operand.const++ops.toList++us.toList.map Operand.const).map a.eval).toArray:=by
   apply Array.ext';simp[Function.comp_def,Act.eval]
  rw[e];have l1:(vs.toList.map Operand.const).length=fi.length:=JE
  refine(sG S srcs I L M ha (by simp at r;simp[j,q,r]) (a:=a) ?_).mono ?_
  ·rw[iP (by simp at r;simp[j,r]),iP l1];intro n h;simp only[List.mem_append]at h;rcases h with(h|h)|h
   ·exact fF JE (fun i u=>by have :=Y i u;simpa[List.getD,IV]using this) n h
   ·exact z n (Ku _ h)
   exact fF JL (fun i u=>by have :=Z i u;simpa[List.getD,IV]using this) n h
  rintro e w' ⟨v,ok',H',rfl,h3,h4,h5,h6⟩;exact⟨v,ok',H',rfl,h3,h4,h5,h6⟩
def R.dfn {ok:Nat->Prop} {w:Ai} {H:AA BG} {f:Fn} {fi ca:AA D} {v:Af} (h:R ok w H (.d (.fn f fi ca)) v):R ok w H (.fn f (fi.map .d) (ca.map .d)) v:=by
 cases h with
 |d _ _ h=>
  cases h with
  |fn _ _ _ vs us q r s u=>
   refine .fn f _ _ vs us JL OZ (fun i m=>?_) (fun i m=>?_)
   ·have j:i<fi.length:=PS
    have n:(fi.map AP.d).getD i .junk=.d (fi.getD i CV):=MQ
    rw[n];exact .d _ _ (s i j)
   have j:i<ca.length:=PS
   have n:(ca.map AP.d).getD i .junk=.d (ca.getD i CV):=MQ
   rw[n];exact .d _ _ (u i j)
def afD {f:FuncId} {x:BD} {ops:Aw BD} {ats:Aw BA} (srcs:AA Bv) {fi ca:AA D} {dF gB:AA AP} {E E':AA Ad} {j:AP} (q:DN P f gB E j E') (r:Eb P f=true) (s:Je srcs es E E'=true) (u:Uk srcs es E)
 (ha:Gn srcs (fi.map .d++dF++ca.map .d) gB) (z:ops.toList.length=dF.length) (I:o.op=.call { callee:=.value x,args:=ops,argTypes:=ats }):
 BJ P o ((x,.d (.fn (.func f) fi ca))::Di ops.toList dF) es (j.up srcs es.length) (GH srcs es E'):=by
 intro C ok H a w Q J m;refine qI (fi:=fi.map .d) (ca:=ca.map .d) srcs q r s u ha z I C ok H a w Q J (fun n h=>?_);rcases Hz.1 h with rfl|h
 ·exact R.dfn (m (x,.d (.fn (.func f) fi ca)) Bf)
 exact m n (Ku _ h)
def KF (S:AA Bv) (es:AA Ad):AA Bv->AA Ad->Prop
 |s::srcs,e::E=>(match s with | .ent k=>es[k]? =some (e.up S es.length)| .nil sz=>∃t,e=.arr t sz [])/\KF S es srcs E
 | [],_=>True
 |_::_,[]=>False
def iH {S:AA Bv} {es:AA Ad} {k:Nat} {e:Ad} {srcs:AA Bv} {E:AA Ad} (h:es[k]? =some (e.up S es.length)) (j:KF S es srcs E):KF S es (.ent k::srcs) (e::E):=⟨h,j⟩
def uP {S:AA Bv} {es:AA Ad}:∀{srcs:AA Bv} {E:AA Ad},KF S es srcs E->∀(i:Nat) (s:Bv),srcs[i]? =some s->match s with | .ent k=>(E[i]?).map (Ad.up S es.length)=es[k]? | .nil sz=>∃e,E[i]? =some (.arr e sz [])
 | [],_,_,i,s,j=>NG
 |_::_,[],h,_,_,_=>h.elim
 |s::srcs,e::E,h,0,m,j=>by
  simp at j;subst j;have n:=h.1;cases s with
  |ent k=>simp only at n;simp[n]
  |nil sz=>obtain⟨t,rfl⟩:=n;exact⟨t,rfl⟩
 |s::srcs,e::E,h,i+1,m,j=>by
  have :=uP h.2 i m JE;cases m with
  |ent k=>simpa using this
  |nil sz=>simpa using this
def fP {es:AA Ad} {srcs:AA Bv} {E:AA Ad} (h:KF srcs es srcs E):Uk srcs es E:=uP h
def acF {f:FuncId} {ops:Aw BD} {ats:Aw BA} (srcs:AA Bv) {dF gB:AA AP} {E E':AA Ad} {j h:AP} (m:DN P f gB E j E') (n:Eb P f=true) (q:Je srcs es E E'=true) (r:KF srcs es srcs E) (ha:Gn srcs dF gB) (s:ops.toList.length=dF.length)
 (u:h=j.up srcs es.length) (z:o.op=.call { callee:=.value (.func f),args:=ops,argTypes:=ats }):BJ P o (Di ops.toList dF) es h (GH srcs es E'):=u▸oQ srcs m n q (fP r) ha s z
def zK {f:FuncId} {x:BD} {ops:Aw BD} {ats:Aw BA} (srcs:AA Bv) (fi ca:AA AP) {dF gB:AA AP} {E E':AA Ad} {j h:AP} (m:DN P f gB E j E') (n:Eb P f=true) (q:Je srcs es E E'=true) (r:KF srcs es srcs E)
 (ha:Gn srcs (fi++dF++ca) gB) (s:ops.toList.length=dF.length) (u:h=j.up srcs es.length) (z:o.op=.call { callee:=.value x,args:=ops,argTypes:=ats }):
 BJ P o ((x,.fn (.func f) fi ca)::Di ops.toList dF) es h (GH srcs es E'):=u▸qI srcs m n q (fP r) ha s z
def adS {f:FuncId} {x:BD} {ops:Aw BD} {ats:Aw BA} (srcs:AA Bv) (fi ca:AA D) {dF gB:AA AP} {E E':AA Ad} {j h:AP} (m:DN P f gB E j E') (n:Eb P f=true) (q:Je srcs es E E'=true) (r:KF srcs es srcs E)
 (ha:Gn srcs (fi.map .d++dF++ca.map .d) gB) (s:ops.toList.length=dF.length) (u:h=j.up srcs es.length) (z:o.op=.call { callee:=.value x,args:=ops,argTypes:=ats }):
 BJ P o ((x,.d (.fn (.func f) fi ca))::Di ops.toList dF) es h (GH srcs es E'):=u▸afD srcs m n q (fP r) ha s z
end
def D8.Vr {ok:Nat->Prop} {w:Ai} {u v:Af} (h:D8 ok w (.lit u) v):v=u:=by cases h;rfl
def DN.plain {P:BU} {f:FuncId} {vs:AA Af} {j:AP} {v:Af} (I:∀ok w H,R ok w H j v)
 (h:∀w,Calls P f vs.toArray w fun x w'=>x=.returned v/\Below w.heap.size w w'):DN P f (vs.map fun u=>.d (.lit u)) [] j []:=by
 intro ok X H w m s J ha
 have e:m=vs.toArray:=by
  refine Array.ext YO fun i L M=>?_;have n:i<vs.length:=by simpa using M
  have z:=ha i X0;simp only[List.getD,Iw,ZQ n,Ic,RF]at z;cases z with |d _ _ h=>have :=D8.Vr h;simpa[Array.getD,L]using this
 rw[e];refine(h w).mono ?_;rintro x w' ⟨rfl,q⟩
 have O:=s.change (ok':=ok) (H':=H) (w':=w') (es':=[]) (fun _=>False) q.os q.tape q.output q.size (fun c S _=>q.block c S) (fun _ h=>h.elim) (fun _ h=>h) (fun _ h=>.inl h) (.refl _) s.hlen (by
  intro k e' h' r U
  simp at r)
 exact⟨v,ok,H,rfl,O.1,I _ _ _⟩
def sF {α:Type} {p:Nat->α->Prop}:∀n,(∀i,i<n->∃x,p i x)->∃l:AA α,l.length=n/\∀i (h:i<l.length),p i l[i]
 |0,_=>⟨[],rfl,fun i h=>FQ⟩
 |n+1,h=>by
  obtain⟨l,j,q⟩:=sF n (fun i m=>h i AL);obtain⟨x,r⟩:=h n AL;refine⟨l++[x],by simp[j],fun i m=>?_⟩;simp at m;by_cases e:i<l.length
  ·rw[List.getElem_append_left e];exact q i e
  have :i=n:=AL
  subst this;rw[List.getElem_append_right AL];simpa[j]using r
def pieces :AA Nat->Nat->AA Af->AA Af
 | [],_,_=>[]
 |n::r,o,cs=>(cs.drop o).take n++pieces r (o+n) cs
def pieces_eq :∀(ns:AA Nat) (o:Nat) (cs:AA Af),cs.length=o+ns.sum->pieces ns o cs=cs.drop o
 | [],o,cs,h=>by simp at h;simp[pieces,h]
 |n::r,o,cs,h=>by
  simp only[List.sum_cons]at h;unfold pieces;rw[pieces_eq r (o+n) cs AL,←dB,dz]
def Ar (w:Ai) (h:AA D) (cs:AA Af):Prop:=cs.length=h.length/\∀j,j<h.length->(h.getD j CV).leaf=true/\D8 (fun b=>b<w.heap.size) w (h.getD j CV) (cs.getD j undef)
def Ar.nil (w:Ai):Ar w [] []:=⟨rfl,fun j h=>FQ⟩
def Ar.append {w:Ai} {m es:AA D} {cs us:AA Af} (h:Ar w m cs) (k:Ar w es us):Ar w (m++es) (cs++us):=by
 refine⟨by simp[h.1,k.1],fun j s=>?_⟩;by_cases e:j<m.length
 ·have n:(m++es).getD j CV=m.getD j CV:=kZ
  have q:(cs++us).getD j undef=cs.getD j undef:=by simp[List.getD,FP (show j<cs.length by rw[h.1];exact e)]
  rw[n,q];exact h.2 j e
 have r:j-m.length<es.length:=by simp at s;omega
 have n:(m++es).getD j CV=es.getD (j-m.length) CV:=by simp[List.getD,H8 (NR e)]
 have q:(cs++us).getD j undef=us.getD (j-m.length) undef:=by
  have u:=h.1;simp only[List.getD,H8 (show cs.length<=j by omega),u]
 rw[n,q];exact k.2 _ r
section
variable {H:Type} {enc:BA×Af->H} {w:Ai} {base:Nat} {spare:Nat->AO} {held:AO} {P:BU} {t:BA}
def Ef {α:Type} (enc:BA×Af->H) (P:BU) (w:Ai) (base:Nat) (spare:Nat->AO) (held:AO) (t:BA) (e:α->D) (V:α->Prop):Prop:=
 ∀Am cs x,DataW.trod enc P w base spare held Am t cs=some x->∃a:α,V a/\Ar w (e a).cells cs
def Ar.one {w:Ai} {x:D} {v:Af} (m:x.cells=[x]) (n:x.leaf=true) (h:D8 (fun b=>b<w.heap.size) w x v):Ar w x.cells [v]:=by
 rw[m];refine⟨rfl,fun j q=>?_⟩
 match j,q with
 |0,_=>exact⟨n,h⟩
def Eh {α:Type} {e:BA} {sz:Nat} {S:α->D} {V:α->Prop} (ht:P.underlying t=some (.slice e)) (hc:P.cellsOf e=sz) (Y:0<sz) (hsz:∀a,(S a).cells.length=sz) (hR:Ef enc P w base spare held e S V):
 Ef enc P w base spare held t (Bj S) (fun l=>l.length<=maxLen/\∀x∈l,V x):=by
 intro Am cs x h;rcases Go.Deep.open_slice ht h with⟨rfl, -⟩|⟨a,len,cap,m,n,D,Pl,rfl, -,hl,hm,hmm, -,hx⟩
 ·exact⟨[],⟨LG _,fun x h=>FQ⟩,.one rfl rfl (.sl0 none 0)⟩
 have hlm:len<=m:=by rw[hmm];split<;>omega
 rw[hc]at hx
 have hex:∀i,i<len->∃y:α,V y/\∃z:AA Af,w.cells? base (a.add (i*sz)) sz=some z/\Ar w (S y).cells z:=by
  intro i r;obtain⟨z,U,h2⟩:=hx i AL;obtain⟨y,h3,I⟩:=hR _ _ _ h2;exact⟨y,h3,z,U,I⟩
 obtain⟨l,hlen,Z⟩:=sF len hex;subst hlen;refine⟨l,⟨AL,fun x hx=>?_⟩,?_⟩
 ·obtain⟨i,r,rfl⟩:=VA hx;exact(Z i r).1
 rcases Nat.eq_zero_or_pos l.length with h0|hlp
 ·have :l=[]:=IG h0;subst this;exact .one rfl rfl (.sl0 _ _)
 have q:∀i,(r:i<l.length)->∀j,j<sz->∃u,w.cell? ((a.add (i*sz)).add j)=some u/\((S l[i]).cells.getD j CV).leaf=true/\D8 (fun b=>b<w.heap.size) w ((S l[i]).cells.getD j CV) u:=by
  intro i r j hj;obtain⟨-,z,U,h2⟩:=Z i r;obtain⟨-,h6,h5⟩:=World.cells?_some U;have hcl:z.length=sz:=by rw[h2.1,hsz]
  have h7:=h5 j hj;rw[ZQ AL]at h7;refine⟨_,h7,?_⟩;have h8:=h2.2 j (by rw[hsz];exact hj);simpa[List.getD,show j<z.length by omega]using h8
 have L:a.spot=none:=by
  obtain⟨u,I, -⟩:=q 0 hlp 0 Y;have e0:(a.add (0*sz)).add 0=a:=by simp[Addr.add]
  rw[e0]at I;unfold World.cell? at I;cases hsp:a.spot with
  |none=>rfl
  |some s=>
   rw[hsp]at I;cases hh:w.heap[a.block]? with
   |none=>rw[hh]at I;simp at I
   |some o=>rw[hh]at I;cases o<;>simp at I
 have hblk:a.block<w.heap.size:=by
  obtain⟨u,I, -⟩:=q 0 hlp 0 Y;have e0:(a.add (0*sz)).add 0=a:=by simp[Addr.add]
  rw[e0]at I;unfold World.cell? at I;apply TW;intro hn;rw[Array.getElem?_eq_none (NR hn)]at I;simp at I
 obtain⟨b,o,s⟩:=a;simp only at L hblk;subst L;have J:(List.map S l).length=l.length:=Dn _;have M:∀i,(r:i<l.length)->(List.map S l).getD i CV=S l[i]:=fun i r=>by simp[List.getD,r]
 have O:∀i j,((⟨b,o,none⟩:Addr).add (i*sz)).add j=⟨b,o+(i*sz+j),none⟩:=fun i j=>by simp only[Addr.add];split<;>split<;>simp_all<;>omega
 refine .one rfl rfl ?_
 have :=D8.sl (ok:=fun b=>b<w.heap.size) (w:=w) (List.map S l) b o cap sz (by rw[J];exact hl) (fun _ _=>hblk) (fun i r=>by rw[J]at r;rw[M i r];exact hsz _)
  (fun i r j hj=>by rw[J]at r;obtain⟨u,_,h2,_⟩:=q i r j hj;rw[M i r];exact h2)
  (fun i r j hj=>by rw[J]at r;obtain⟨u,U,_,_⟩:=q i r j hj;rw[O]at U;rw[U];rfl)
  (fun i r j hj=>by rw[J]at r;obtain⟨u,U,_,h3⟩:=q i r j hj;rw[O]at U;rw[M i r];unfold cellAt;rw[U];exact h3)
 rw[J]at this;exact this
def Cc {k:IntKind} (j:P.underlying t=some (.int k)):Ef enc P w base spare held t (fun n=>D.lit (.int k n)) (fun n:Int=>k.min<=n/\n<=k.max):=by
 intro Am cs x h;obtain⟨n,rfl, -,m⟩:=DataW.trod_int j h;exact⟨n,by simpa[Lit.wf]using m,.one rfl rfl (.lit _)⟩
def EZ (j:P.underlying t=some .string):Ef enc P w base spare held t BZ (fun s=>s.size<=maxLen):=by
 intro Am cs x h;obtain⟨n,rfl, -,m⟩:=DataW.trod_string j h;exact⟨n,m,.one rfl rfl (.lit _)⟩
def UL (j:P.underlying t=some .bool):Ef enc P w base spare held t EG (fun _=>True):=by
 intro Am cs x h;obtain⟨n,rfl, -⟩:=DataW.trod_bool j h;exact⟨n,trivial,.one rfl rfl (.lit _)⟩
def BM {α:Type} {r:Aw Field} {Am:Nat} {cs:AA Af} {x:DataW H×AA MemPlace} (I:P.underlying t=some (.struct r)) (h:DataW.trod enc P w base spare held Am t cs=some x) (i:Nat) (u o n:Nat) (m:(r[i]?).map (fun f=>(f.type,f.offset,P.cellsOf f.type))=some (u,o,n))
 {s:α->D} {V:α->Prop} (J:Ef enc P w base spare held u s V):∃a:α,V a/\Ar w (s a).cells ((cs.drop o).take n):=by
 obtain⟨xs,k, -, -, -,hlen,q⟩:=DataW.trod_struct I h;cases j:r[i]? with
 |none=>rw[j]at m;simp at m
 |some f=>
  rw[j]at m;simp only[Ic,JG,Md]at m;obtain⟨rfl,rfl,rfl⟩:=m;have z:=q i f j;have L:i<r.size:=(JD.1 j).1;rw[ZQ AL]at z;exact J _ _ _ z
def Fh {j:Aw Field} {Am:Nat} {cs:AA Af} {x:DataW H×AA MemPlace} (m:P.underlying t=some (.struct j)) (h:DataW.trod enc P w base spare held Am t cs=some x) (n:Nat) (q:P.cellsOf t=n):cs.length=n:=by
 obtain⟨xs,k, -, -,hlen, -⟩:=DataW.trod_struct m h;rw[hlen,q]
def Fa {cs:AA Af} {j:AA D} (ns:AA Nat) (m:cs.length=ns.sum) (h:Ar w j (pieces ns 0 cs)):Ar w j cs:=by
 rw[pieces_eq ns 0 cs AL]at h;simpa using h
end
def kD {w:Ai} {x:D} {j:AA D} {cs:Aw Af} (n:x=.agg j) (h:Ar w x.cells (Value.agg cs).cells.toList):D8 (fun b=>b<w.heap.size) w x (.agg cs):=by
 subst n;have h':Ar w j cs.toList:=h
 exact .agg j cs (by simpa using h'.1) (fun i m=>(h'.2 i m).1) fun i m=>by
  have :=(h'.2 i m).2;simpa[IV,List.getD]using this
def DN.start {P:BU} {f:FuncId} {xs:AA D} {j:Aw Af} {W:Ai} {x:D} (h:DN P f (xs.map .d) [] (.d x) []) (r:j.size=xs.length) (ha:∀i,i<xs.length->D8 (fun b=>b<W.heap.size) W (xs.getD i CV) (j.getD i undef)):
 Calls P f j W fun e W'=>∃v ok,e=.returned v/\D8 ok W' x v/\Below W.heap.size W W':=by
 refine(h (fun b=>b<W.heap.size) [] [] W j ⟨.refl _ _,fun _ h=>h,fun _ h=>.inl h,fun _ h=>h,.refl _,rfl,fun k e h m=>by simp at m,fun k e h b m=>by simp at m,fun k k' e e' h h' b m=>by simp at m⟩ OZ (fun i s=>?_)).mono ?_
 ·have n:i<xs.length:=SG
  have :(xs.map AP.d).getD i .junk=.d (xs.getD i CV):=by simp[List.getD,n]
  rw[this];exact .d _ _ (ha i n)
 rintro e W' ⟨v,ok',H',rfl,u,q⟩;cases q with
 |d _ _ q=>exact⟨v,ok',rfl,q,u.fr.below⟩
def DN.law {P:BU} {f:FuncId} {xs:AA D} {j:Aw Af} {W:Ai} (h:DN P f (xs.map .d) [] (.d (EG true)) []) (m:j.size=xs.length) (ha:∀i,i<xs.length->D8 (fun b=>b<W.heap.size) W (xs.getD i CV) (j.getD i undef)):
 Calls P f j W fun e W'=>e=.returned (.bool true)/\Below W.heap.size W W':=by
 refine(h.start m ha).mono ?_;rintro e W' ⟨v,ok,rfl,n,q⟩;exact⟨by rw[D8.Vr n],q⟩
end
section
def ady (l:AA Int) (x:Int):AO:=l.contains x
def put (l:AA Int) (x:Int):AA Int:=if ady l x then l else l.takeWhile (decide<| · <x)++x::l.dropWhile (decide<| · <x)
def DK {R:Type} (o:AB R) (Q:R->Prop):Prop:=∃r,o=some r/\Q r
section
variable {R A B α:Type} {Q:R->Prop}
def DK.ret {r:R} (h:Q r):DK (some r) Q:=⟨r,rfl,h⟩
def DK.bind {o:AB A} {f:A->AB R} {P:A->Prop} (h:DK o P) (k:∀x,P x->DK (f x) Q):DK (o.bind f) Q:=by
 obtain⟨x,rfl,j⟩:=h;exact k x j
def DK.bif {b:AO} {x y:AB R} (h:b=true->DK x Q) (j:b=false->DK y Q):DK (bif b then x else y) Q:=by
 cases b with
 |true=>exact h rfl
 |false=>exact j rfl
def DK.eq {o:AB R} {r:R} (h:DK o (· =r)):o=some r:=by obtain⟨x,rfl,rfl⟩:=h;rfl
def DK.of {o:AB R} {r:R} (h:o=some r):DK o (· =r):=⟨r,h,rfl⟩
def ab7 (l:AA α) (i:Nat):BI l (i:Int)=l[i]? :=by unfold BI;rw[EX (jT i)];simp
def DV {l:AA α} {i:Nat} (h:i<l.length):BI l (i:Int)=some l[i]:=by rw[ab7];simp[h]
def zI {b:Nat} {l m:AA α} (h:(l.length+m.length)*b<=140737488355328):F6 b l m=some (l++m):=by unfold F6;rw[EX h]
def wrap_succ (i:Nat) (h:i<9223372036854775807):IntKind.i64.wrap ((i:Int)+1)=((i+1:Nat):Int):=by
 rw[IntKind.wrap_i64];omega
def Jl {x:Int} (h: -9223372036854775808<=x) (j:x<=9223372036854775807):IntKind.i64.wrap x=x:=by
 rw[IntKind.wrap_i64];omega
def rZ {body:(A->AB R)->A->AB R} (I:Nat->A->Prop) (s:∀m a k,I m a->(∀j q,j<m->I j q->DK (k q) Q)->DK (body k a) Q):
 ∀n m a,m<n->I m a->DK (aS body n a) Q
 |0,m,a,h,_=>AL
 |n+1,m,a,h,hi=>s m a _ hi fun j q h' r=>rZ I s n j q AL r
def nC {body:(Int->AB R)->Int->AB R} (N:Nat) (n:N<Am) (I:Nat->Prop) (q:I 0)
 (r:∀i k,i<N->I i->(I (i+1)->DK (k ((i+1:Nat):Int)) Q)->DK (body k (i:Int)) Q) (s:∀k,I N->DK (body k (N:Int)) Q):DK (aS body Am 0) Q:=by
 refine rZ (body:=body) (Q:=Q) (fun m a=>∃i:Nat,a=i/\i+m=N/\I i) ?_ Am N 0 n ⟨0,rfl,AL,q⟩;rintro m a k ⟨i,rfl,z,j⟩ u;by_cases e:i<N
 ·exact r i k e j fun h=>u (m-1) _ AL ⟨i+1,rfl,AL,h⟩
 have :i=N:=AL
 subst this;exact s k j
end
end
end Go.Proofs.YtfmoknlmaldmlaaGreat
section
namespace Go.Proofs
open Go.Proofs.YtfmoknlmaldmlaaGreat
open Go.Shelf
def Tryz.RI:Go.Shelf.Ren:=⟨fun |137=>203|217=>273|266=>341|n=>n,fun |9=>9|5=>5|3=>3|n=>n,fun |n=>n⟩
noncomputable abbrev AZ:=Tryz.prog
def Tryz.lays137:Go.Proofs.Lays.n137 AZ Tryz.RI:={
 mixed:=A8
 f137:=Tryz.func203.trans (CO some A8)
 f217:=Tryz.func273.trans (CO some A8)
 f266:=Tryz.func341.trans (CO some A8)
 t3:=D7
 a3:=Tryz.isAgg3
 z3:=Tryz.sizeOf3
 v3:=Tryz.zeroValue3
 t5:=Tryz.underlying5
 a5:=Tryz.isAgg5
 z5:=Tryz.sizeOf5
 v5:=Tryz.zeroValue5
 t9:=EP
 a9:=Tryz.isAgg9
 z9:=Tryz.sizeOf9
 v9:=Tryz.zeroValue9 }
open Go.RowKit in
def Tryz.strings_IndexByte (s:AY) (c:Int) (w:Ai):
 Calls AZ 203 #[.string s,.int .u8 c] w fun e w'=>e=.returned (.int .i64 (Lib.indexByte s.data.toList c.toNat.toUInt8))/\w'=w:=Any.strings_IndexByte Tryz.lays137 s c w
def Tryz.RJ:Go.Shelf.Ren:=⟨fun |219=>342|217=>273|225=>412|224=>413|267=>414|266=>341|314=>443|n=>n,fun |9=>9|3=>3|4=>4|5=>5|46=>203|146=>370|51=>306|n=>n,fun |1=>0|n=>n⟩
def Tryz.lays219:Go.Proofs.Lays.n219 AZ Tryz.RJ:={
 mixed:=A8
 f217:=Tryz.func273.trans (CO some A8)
 f219:=Tryz.func342.trans (CO some A8)
 f224:=Tryz.func413.trans (CO some A8)
 f225:=Tryz.func412.trans (CO some A8)
 f266:=Tryz.func341.trans (CO some A8)
 f267:=Tryz.func414.trans (CO some A8)
 f314:=Tryz.func443.trans (CO some A8)
 t3:=D7
 a3:=Tryz.isAgg3
 z3:=Tryz.sizeOf3
 v3:=Tryz.zeroValue3
 t4:=P8
 a4:=Tryz.isAgg4
 z4:=Tryz.sizeOf4
 v4:=Tryz.zeroValue4
 t5:=Tryz.underlying5
 a5:=Tryz.isAgg5
 z5:=Tryz.sizeOf5
 v5:=Tryz.zeroValue5
 t9:=EP
 a9:=Tryz.isAgg9
 z9:=Tryz.sizeOf9
 v9:=Tryz.zeroValue9
 t46:=Tryz.underlying203
 a46:=Tryz.isAgg203
 z46:=Tryz.sizeOf203
 v46:=Tryz.zeroValue203
 t51:=Tryz.underlying306
 a51:=Tryz.isAgg306
 z51:=Tryz.sizeOf306
 v51:=Tryz.zeroValue306
 t146:=Tryz.underlying370
 a146:=Tryz.isAgg370
 z146:=Tryz.sizeOf370
 v146:=Tryz.zeroValue370
 g1:=by kernel_rfl }
open Go.RowKit Go.Lib in
def Tryz.stringslite_Index_one (s:AY) (c:UInt8) (w:Ai):
 Calls AZ 342 #[.string s,.string ⟨#[c]⟩] w fun e w'=>e=.returned (.int .i64 (Lib.indexByte s.data.toList c))/\w'=w:=Any.stringslite_Index_one Tryz.lays219 s c w
end Go.Proofs
end
namespace Go.Proofs.YtfmoknlmaldmlaaGreat
open Go.RowKit Go.Proofs.Tryz
section
def strings_IndexByte (s:AY) (c:Int):AB Int:=some (Lib.indexByte s.data.toList c.toNat.toUInt8)
abbrev BL:=DN AZ
def yK (s:AY) (c:Int) (r:Int) (h:strings_IndexByte s c=some r):BL 203 [.d (BZ s),.d (Cb c)] [] (.d (Aq r)) []:=by
 rw[←DU h];exact DN.plain (vs:=[.string s,.int .u8 c]) (v:=.int .i64 (Lib.indexByte s.data.toList c.toNat.toUInt8)) (fun _ _ _=>.d _ _ (.lit _)) fun w=>(Tryz.strings_IndexByte s c w).mono fun e w' ⟨j,m⟩=>⟨j,by rw[m];exact⟨rfl,rfl,rfl,Gt _,fun _ _=>rfl⟩⟩
def YP (s t:AY):AB Int:=match t.data.toList with
 | [c]=>some (Lib.indexByte s.data.toList c)
 |_=>none
def abw (s t:AY) (r:Int) (h:YP s t=some r):BL 342 [.d (BZ s),.d (BZ t)] [] (.d (Aq r)) []:=by
 unfold YP at h;split at h
 ·rename_i c j;rw[←DU h];obtain⟨⟨l⟩⟩:=t;simp only at j;subst j;exact DN.plain (vs:=[.string s,.string ⟨#[c]⟩]) (v:=.int .i64 (Lib.indexByte s.data.toList c)) (fun _ _ _=>.d _ _ (.lit _)) fun w=>(Tryz.stringslite_Index_one s c w).mono fun e w' ⟨m,n⟩=>⟨m,by rw[n];exact⟨rfl,rfl,rfl,Gt _,fun _ _=>rfl⟩⟩
 cases h
structure Ye (P:Program) (t:TypeId) (s:Nat) (z:Value):Prop where
 und:∃n e,P.underlying t=some (.array n e)/\∃i,P.info? e=some i/\i.size=s
 zero:(P.info? t).bind (·.zero)=some z
 one:z.cells.all (·.oneCell')=true
def xH (P:BU) (t:BA) (s:Nat):AO:=
 match P.underlying t with
 |some (.array _ e)=>match P.info? e with
  |some i=>i.size=s
  |none=>false
 |_=>false
def aa1 {P:BU} {t:BA} {s:Nat} {z:Af} (h:xH P t s=true) (j:(P.info? t).bind (·.zero)=some z) (m:z.cells.all (·.oneCell')=true):Ye P t s z:=by
 unfold xH at h;split at h
 ·rename_i n e q;split at h
  ·rename_i i r;exact⟨⟨n,e,q,i,r,RZ h⟩,j,m⟩
  cases h
 cases h
section
variable {P:BU} {o:Oper} {es:AA Ad} {α:Type}
def yQ {t:BA} {j:Aw (Nat×BD)} {s:Nat} {z:Af} (Z:Ye P t s z) (vs:AA AP) (hp:JA (fun i=>some (i*s,s)) (DY z).length j.toList vs=true)
 (hd:(Gh (fun i=>some (i*s,s)) (DY z) j.toList vs).all AP.oZ=true) (ho:o.op=.build t j):
 BJ P o (JQ j.toList vs) es (.d (.agg (FN (Gh (fun i=>some (i*s,s)) (DY z) j.toList vs)))) es:=
 .pure fun ok H a w _ _ hn=>by
  obtain⟨⟨n,e,hu,i,q,hs⟩,hz,h1⟩:=Z;have r:=Zi (P:=P) hz w;have u:(underlying t).run P w=.ok (.array n e) w:=by simp[underlying,hu]
  have I:(sizeOf e).run P w=.ok s w:=by simp[sizeOf,typeInfo,q,hs]
  obtain⟨m,hc,J⟩:=Ws (place:=fun i=>some (i*s,s)) j.toList vs (DY z) z.cells (uF (ok:=ok) (w:=w) (H:=H) h1) hp hn;refine⟨.agg m,?_,.d _ _ ?_⟩
  ·have e:(j.map fun(i,x)=>(i,a.eval x)).toList=j.toList.map fun p=>(p.1,a.eval p.2):=Bf
   simp only[execOp,ho,Instr.build,EN,r,u,I,ES];rw[e,hc];rfl
  rw[ni hd]at J;generalize FN (Gh (fun i=>some (i*s,s)) (DY z) j.toList vs)=xs at J ⊢;obtain⟨U,L⟩:=J;simp only[Dn]at U L
  have Y:∀i,i<xs.length->(xs.map AP.d).getD i .junk=.d (xs.getD i CV):=by
   intro i q;simp[List.getD,q]
  have M:m.size=xs.length:=by simpa using U
  refine .agg xs m M ?_ ?_<;>intro i q
  ·have :=(L i q).1;rw[Y i q]at this;exact this
  have O:=(L i q).2;rw[Y i q]at O;have S:i<m.size:=AL
  have e:m.toList.getD i undef=m.getD i undef:=by simp[List.getD,Array.getD,S]
  rw[e]at O;cases O with |d _ _ h=>exact h
def gY (enc:α->D) (l:AA α):D:=.agg (l.map enc)
def qL {x y:BD} {t e:BA} {n:Nat} {k:IntKind} {i:Int} (enc:α->D) {l:AA α} {a:α} (h:BI l i=some a) (L:P.underlying t=some (.array n e)) (s:DF P e false 1) (hl:l.length=n) (M:o.op=.index t x y):
 BJ P o [(x,.d (gY enc l)),(y,.d (.lit (.int k i)))] es (.d (enc a)) es:=
 .pure fun ok H O w _ _ u=>by
  obtain⟨S,z⟩:=ah h;have m:=(F7 u).1;have I:=(F7 u).2.lit;simp only at m I;have q:=(Ep.1 z).1;have U:(underlying t).run P w=.ok (.array n e) w:=by simp[underlying,L]
  generalize Y:O.eval x=v at m;cases m with
  |d _ _ m=>
   cases m with
   |agg _ vs r Z J=>
    rw[Dn]at r Z J;have j:i.toNat<vs.size:=AL
    refine⟨vs[i.toNat],?_,?_⟩
    ·have hb:0<=i/\i<n:=⟨S,AL⟩
     simp only[execOp,M,Y,I,Instr.index,asIntOf,EN,Ej,U,ES,hb,and_self,Kr,s.size w,part,s.agg w];simp[j]
    have :=J i.toNat q;simp only[Array.getD,j,dif_pos]at this;have e2:(l.map enc).getD i.toNat CV=enc a:=by simp[List.getD,z]
    rw[e2]at this;exact .d _ _ this
def abd {x:BD} {k off:Nat} (m:o.op=.nilCheck x):BJ P o [(x,.ptr k off)] es (.ptr k off) es:=
 .pure fun ok H a w _ _ n=>by
  have j:=H9 n;simp only at j;generalize q:a.eval x=u at j;cases j with
  |ptr _ _ b s h=>exact⟨_,by simp[execOp,m,q],.ptr _ _ b s h⟩
def yj {x:BD} {k i off:Nat} (m:o.op=.nilCheck x):BJ P o [(x,.iG k i off)] es (.iG k i off) es:=
 .pure fun ok H a w _ _ q=>by
  have j:=H9 q;simp only at j;generalize r:a.eval x=u at j;cases j with
  |iG _ _ _ b n cap s h=>exact⟨_,by simp[execOp,m,r],.iG _ _ _ b n cap s h⟩
def abf {x:BD} {cs:AA D} {off:Nat} (n:o.op=.nilCheck x):BJ P o [(x,.d (.ref cs off))] es (.d (.ref cs off)) es:=
 .pure fun ok H a w _ _ q=>by
  have j:=H9 q;simp only at j;generalize r:a.eval x=u at j;cases j with
  |d _ _ h=>cases h with
   |ref _ _ b p m s z I=>exact⟨_,by simp[execOp,n,r],.d _ _ (.ref _ _ b p m s z I)⟩
def vM (n:Nat):D:=.fn (.func n) [] []
end
end
end Go.Proofs.YtfmoknlmaldmlaaGreat
