/- Texts that the proof of WalkHolds leans on, part 1. -/
import Derived.WalkKit
import Derived.Maps.AppendAt
import Derived.Lib.Hide
import Derived.WalkSpells
import Derived.WalkLawsBesides
import Derived.Laws.AppendOwnNone
import Derived.Lib.AppendStr
import Derived.Test.YtohmkffoojdahaaGreatProg
import Derived.ProofKit
import Derived.OpenShut
import Derived.ShutString
import Derived.ChangeOld
import Derived.Below
import Derived.Defers
import Derived.Laws.LoneSync
import Derived.RegionTactic
import Derived.RegionCalls
import Derived.ChangeAlike
import Derived.RangeFuncBox
import Derived.RangeFuncNested
import Derived.RangeFuncBound
import Derived.RangeFuncCalls
import Derived.RangeFuncLeaves
import Derived.Shelf.Abstract
import Derived.Shelf.RegionOpen
import Derived.OwnWalkIn
import Derived.TacticsInMore
import Derived.LoopNIn
import Derived.LoopIn
import Derived.Laws.CopyRow
import Derived.Deep.RegionHeld3
import Derived.Deep.DrawnRows
import Derived.Lib.AppendZerosOnto
import Derived.Deep.MidRow
import Derived.MapKept
import Derived.Carry
import Derived.ScopeJumps
import Derived.Lib.AppendZeros
import Derived.Orders
open List renaming replicate->zP
open Nat renaming reduceAdd->yJ,reduceSub->yK
open Array renaming getD_eq_getD_getElem?->zV
set_option linter.unusedVariables false
set_option linter.unusedSimpArgs false
set_option maxRecDepth 100000
set_option maxHeartbeats 8000000
open Array renaming replicate->dO,getD->dZ,all_eq_true_iff_forall_mem->nT
open Bool renaming false_or->mZ
open ByteArray renaming empty->oR
open Exists renaming intro->nw
open Go renaming Calls->pr,Addr->px,Operand->py,execOp->oB,TypeId->oD,MapEntry->oJ,Oper->oM,Program->oV,maxLen->oo,undef->ou,Act->oy,callFunc->dF,wpList->df,CallsIn->dw,Exit->nF,results->gL,yielded->mR,Tmp->mr
open Go.Act renaming put->pj
open Go.Builtin renaming zeroCells->gK
open Go.Code renaming region->gF
open Go.Deferred renaming ofValue->nh
open Go.Ending renaming returned->mc
open Go.Exit renaming jump->mM
open Go.Fence renaming wide->oS
open Go.Instr renaming findNow->ny,lookup->gE,checkKey->gG,sureAddr->gH,mapUpdate->gM
open Go.MapKept renaming IsKey->dJ
open Go.Oper renaming wp->de
open Go.Region renaming ready->oP,binds->oT,wanted->og
open Go.Result renaming andThen->pv
open Go.RowKit renaming Below->ph
open Go.Value renaming slice->dW,int->mG,oneCell'->mq
open Go.World renaming setCell->oh,frozen?->gQ
open List renaming mem_zipIdx_iff_getElem?->nP,any_eq_true->gS
open Nat renaming pow_le_pow_right->nQ,testBit_xor->mf,pow_succ->mo
open Go.Proofs.Tryz renaming prog->Y3
open Go.Proofs.Tryz
namespace Go.Proofs.YtohmkffoojdahaaGreat
abbrev zX:=@List.cons_append
abbrev zQ:=@List.nil_append
abbrev zL:=@List.length_cons
abbrev zY:=@List.length_nil
abbrev zJ:=@List.map_cons
abbrev qF:=@List.eq_nil_of_length_eq_zero
abbrev yH:=@List.getElem?_take
abbrev zM:=@List.getElem?_eq_getElem
abbrev yE:=@List.append_nil
abbrev zH:=@List.length_append
abbrev qW:=@List.map_append
abbrev zR:=@List.size_toArray
abbrev qS:=@List.push_toArray
abbrev qL:=@List.append_toArray
abbrev zU:=@List.take_succ_eq_append_getElem
abbrev yF:=@List.flatten_append
abbrev qP:=@List.mem_map
abbrev qQ:=@List.getElem?_eq_some_iff
abbrev zI:=@List.map_toArray
abbrev zN:=@List.map_nil
abbrev qB:=@List.take_of_length_le
abbrev zZ:=@List.length_take
abbrev yI:=@List.mem_of_mem_take
abbrev qR:=@List.drop_eq_getElem_cons
abbrev qI:=@List.getElem_mem
abbrev qJ:=@List.take_append_drop
abbrev qM:=@List.mem_cons
abbrev yB:=@List.mem_filter
abbrev yC:=@List.all_eq_true
abbrev yG:=@List.getElem_of_mem
abbrev zB:=@List.getElem_cons_zero
abbrev qC:=@Nat.zero_add
abbrev yL:=@Nat.mul_one
abbrev zG:=@Nat.le_refl
abbrev zT:=@Nat.le_trans
abbrev zO:=@Nat.lt_of_lt_of_le
abbrev zK:=@Array.getElem?_eq_some_iff
abbrev zW:=@Array.length_toList
abbrev zS:=@Array.getElem?_setIfInBounds
abbrev qG:=@Array.replicate_succ
abbrev qH:=@Array.replicate_zero
abbrev dE:=@Array.getElem?_eq_getElem
abbrev dD:=@List.take_length
abbrev dG:=@List.not_mem_nil
abbrev dL:=@List.getElem?_drop
abbrev dY:=@List.foldl_cons
abbrev dp:=@Nat.eq_zero_or_pos
abbrev dq:=@Nat.add_assoc
abbrev nC:=@Nat.mul_le_mul_right
abbrev nG:=@Nat.lt_or_ge
abbrev gP:=@Nat.zero_le
abbrev mK:=@Nat.min_eq_left
abbrev dH:=@Option.map_some
abbrev mF:=@Option.getD_some
abbrev dR:=@UInt8.ofNat
abbrev qO:=@List.append_assoc
abbrev zA:=@List.setIfInBounds_toArray
abbrev zE:=@List.set_cons_succ
abbrev zF:=@List.set_cons_zero
abbrev qD:=@List.length_drop
abbrev qE:=@List.length_map
abbrev yD:=@Array.getElem?_toList
abbrev dU:=@Array.getElem?_modify
abbrev gO:=@Array.getElem?_push
abbrev ow:=@List.getElem?_append_left
abbrev dM:=@List.take_append_of_le_length
abbrev db:=@List.take_take
abbrev dm:=@List.drop_of_length_le
abbrev gT:=@List.drop_drop
abbrev gU:=@List.drop_left
abbrev ga:=@List.drop_zero
abbrev dQ:=@Nat.le_of_lt
abbrev qA:=@List.mem_append
abbrev zD:=@List.getElem_toArray
abbrev zC:=@List.getElem_cons_succ
abbrev qT:=@List.getD_eq_getElem?_getD
abbrev ov:=@Array.getElem?_eq_none
abbrev qU:=@List.getElem?_append_right
abbrev qK:=@List.mem_singleton
abbrev dx:=@Array.getElem?_setIfInBounds_ne
abbrev qZ:=@List.flatten_cons
abbrev qV:=@List.mem_of_mem_drop
abbrev dV:=@List.length_replicate
abbrev da:=@List.getElem_map
abbrev nj:=@List.flatten_nil
abbrev mA:=@List.map_drop
abbrev mB:=@List.map_take
abbrev qN:=@List.getElem?_toArray
abbrev qX:=@List.getElem?_cons_zero
abbrev qY:=@List.getElem?_cons_succ
abbrev gI:=@Nat.le_succ
abbrev dy:=@Int.le_refl
abbrev oZ:=@Bool.and_eq_true
abbrev oE:=@Go.bodyPost_ret
abbrev oL:=@Go.setRow_other
abbrev oN:=@Go.results_tmp2
abbrev om:=@Go.run_underlying
abbrev dN:=@Go.callsIn_of_wp
abbrev dS:=@Go.results_none
abbrev nK:=@Go.info_parts
abbrev nO:=@Go.heap_alloc_new
abbrev gv:=@Go.wpList_append_own
abbrev gw:=@Go.wpList_plain
abbrev pk:=@Go.Lib.hid
abbrev oX:=@Go.MapKept.run_getObj_map
abbrev oq:=@Go.MapKept.run_findKey
abbrev dg:=@Go.MapKept.run_checkKey
abbrev oO:=@Go.Result.andThen_ok
abbrev pf:=@Go.RowKit.Below.refl
abbrev oI:=@Go.RowKit.Below.heap_setCell
abbrev oU:=@Go.Sem.run_pure
abbrev oY:=@Go.Sem.run_bind
abbrev pq:=@Go.World.size_alloc
abbrev gh:=@Go.World.grownBy.refl
abbrev mH:=@Go.World.ownsRow.lt
abbrev mY:=@Go.World.ownsRow.alloc
abbrev od:=@Option.some.injEq
abbrev dK:=@Prod.mk.injEq
abbrev oQ:=@Go.bodyPost_ret_by
abbrev dP:=@Go.MapKept.run_setObj_map
abbrev dj:=@Go.Proofs.enters_of
abbrev nE:=@Go.RowKit.Below.heap_alloc
abbrev oG:=@Go.World.cell?_of_block
abbrev dh:=@Go.World.cell?_setCell_other
abbrev nM:=@Go.World.ownsRow_lit
abbrev dt:=@Go.run_takeDeferred
abbrev du:=@Go.callsIn_of_wp_marks
abbrev gj:=@Go.ready_mono
abbrev gm:=@Go.wpListIn_plain
abbrev gr:=@Go.CallsIn.inRound
abbrev oW:=@Go.Oper.semAt_some
abbrev nu:=@Go.Oper.semAt_plain
abbrev oK:=@Go.World.putObj_heap_other
abbrev nS:=@Go.World.alloc_heap_new
abbrev nY:=@Go.World.putObj_heap_same
abbrev oF:=@Bool.false_eq_true
abbrev oz:=@Go.World.ownsRow_nil
abbrev mL:=@Option.some.inj
abbrev dX:=@Go.Addr.add_lit
abbrev mC:=@Go.ByteArray.toList_eq
abbrev Z8:=And.intro (@List.getElem_toArray Go.Value) (And.intro (@List.getElem_cons_succ Go.Value) (And.intro (@List.getElem_cons_zero Go.Value) (And.intro (@List.setIfInBounds_toArray Go.Value) (And.intro (@List.set_cons_zero Go.Value) (And.intro (@List.set_cons_succ Go.Value) (And.intro (@List.getElem_toArray Go.Oper) (And.intro (@List.getElem_cons_succ Go.Oper) (And.intro (@List.getElem_cons_zero Go.Oper) (And.intro Go.Act.put.eq_1 Go.Act.put.eq_2)))))))))
theorem Z9{α:Sort _}(a:α):∃x,x=a:=⟨_,rfl⟩
abbrev Y0:=@Go.Ending.returned
end Go.Proofs.YtohmkffoojdahaaGreat
open Go.Proofs.YtohmkffoojdahaaGreat
namespace vA
def ZQ:Nat->Nat->List UInt8
 | 0,_=>[]
 | f+1,n=>if n<128 then [dR n] else dR (n%128+128)::ZQ f (n / 128)
def jQ (n:Nat):List UInt8:=ZQ 10 n
def Nf:Nat->Nat->Nat->List UInt8->Option (Nat×Nat)
 | 0,_,_,_=>none
 | _+1,_,_,[]=>none
 | f+1,i,acc,c::r =>
  if i=9/\1<c.toNat then none
  else if 128<=c.toNat then Nf f (i+1) (acc+c.toNat%128*128^i) r
  else if c.toNat=0/\0<i then none
  else some (acc+c.toNat%128*128^i,i+1)
def rd (l:List UInt8):Option (Nat×Nat):=Nf 10 0 0 l
theorem ZA {n:Nat}(h:n<256):(dR n).toNat=n:=by
 simp[UInt8.toNat_ofNat'];omega
theorem Su (f n:Nat):(ZQ f n).length<=f:=by
 induction f generalizing n with
 | zero=>simp[ZQ]
 | succ f ih=>unfold ZQ;split<;>simp;exact ih _
theorem Cg (f n:Nat)(hf:0<f):0<(ZQ f n).length:=by
 cases f with
 | zero=>omega
 | succ f=>unfold ZQ;split<;>simp
theorem xa (n:Nat):(jQ n).length<=10:=Su 10 n
theorem Oi (n:Nat):0<(jQ n).length:=Cg 10 n (by omega)
theorem CT (f:Nat)(n i c:Nat)(r:List UInt8)(hf:f+i=10)(h1:1<=f)(hn:n<2^(7*f-6))(B:n=0->i=0):Nf f i c (ZQ f n++r)=some (c+n*128^i,i+(ZQ f n).length):=by
 induction f generalizing n i c with
 | zero=>omega
 | succ f ih =>
  unfold ZQ
  by_cases k:n<128
  ·rw[if_pos k];have e:(dR n).toNat=n:=ZA (by omega);simp only[zX,zQ,Nf,e,zL,zY];have q:¬ (i=9/\1<n):=by
    rintro⟨A,h⟩;have:f=0:=by omega
    subst this;simp at hn;omega
   rw[if_neg q,if_neg (by omega),if_neg (by omega)];rw[Nat.mod_eq_of_lt k]
  ·rw[if_neg k];have e:(dR (n%128+128)).toNat=n%128+128:=ZA (by omega);have s:1<=f:=by
    rcases dp f with j|j
    ·subst j;simp at hn;omega
    ·exact j
   have x:n / 128<2^(7*f-6):=by
    rw[Nat.div_lt_iff_lt_mul (by omega)];have:2^(7*f-6)*128=2^(7*(f+1)-6):=by rw[show 7*(f+1)-6=(7*f-6)+7 from by omega,Nat.pow_add]
    omega
   simp only[zX,Nf,e,zL];rw[if_neg (by omega),if_pos (by omega),ih (n / 128) (i+1) _ (by omega) s x (by omega)];have u:(n%128+128)%128=n%128:=by omega
   have z:128^(i+1)=128*128^i:=by rw[mo];omega
   rw[u,z];have hd:n%128*128^i+n / 128*(128*128^i)=n*128^i:=by rw[<-Nat.mul_assoc,<-Nat.add_mul];congr 1;omega
   simp only[od,dK];omega
theorem CS (n:Nat)(hn:n<2^64)(r:List UInt8):rd (jQ n++r)=some (n,(jQ n).length):=by
 have:=CT 10 n 0 0 r (by omega) (by omega) (by simpa using hn) (λ_=>rfl);simpa[rd,jQ] using this
theorem Ev (f i e:Nat)(l:List UInt8)(n k:Nat)(hf:f+i=10)(ha:e<128^i)(h:Nf f i e l=some (n,k)):n<2^64/\i+1<=k/\k<=i+l.length:=by
 induction f generalizing i e l with
 | zero=>simp[Nf] at h
 | succ f ih =>
  cases l with
  | nil=>simp[Nf] at h
  | cons c r =>
   have hc:c.toNat<256:=c.toNat_lt;have hs:e+c.toNat%128*128^i<128^(i+1):=by
    have h1:c.toNat%128<=127:=by omega
    have h2:c.toNat%128*128^i<=127*128^i:=nC _ h1;have s:128^(i+1)=128^i*128:=mo ..;omega
   simp only[Nf] at h;split at h
   ·cases h
   ·rename_i h9
    split at h
    ·obtain⟨q,x,z⟩:=ih (i+1) _ r (by omega) hs h;refine⟨q,by omega,?_⟩;simp only[zL];omega
    ·rename_i h128
     split at h
     ·cases h
     ·simp only[od,dK] at h;obtain⟨rfl,rfl⟩:=h;refine⟨?_,by omega,by simp⟩
      by_cases j:i=9
      ·subst j;have u:c.toNat<=1:=by omega
       have:c.toNat%128*128^9<=1*128^9:=nC _ (by omega);simp at this ha ⊢;omega
      ·have:128^(i+1)<=128^9:=nQ (by omega) (by omega);simp at this;omega
theorem Yw {l:List UInt8}{n k:Nat}(h:rd l=some (n,k)):n<2^64/\1<=k/\k<=l.length:=by
 have:=Ev 10 0 0 l n k (by omega) (by simp) h;omega
def zx (k n:Nat):List UInt8:=(List.range k).map λi=>dR (n / 256^(k-1-i))
def xI (l:List UInt8):Nat:=l.foldl (λa c=>256*a+c.toNat) 0
theorem ya (k n:Nat):(zx k n).length=k:=by simp[zx]
theorem MQ (k n:Nat):zx (k+1) n=dR (n / 256^k)::zx k n:=by
 unfold zx;rw[List.range_succ_eq_map,zJ,List.map_map];simp only[Nat.add_sub_cancel,Nat.sub_zero,List.cons.injEq,true_and];apply List.map_congr_left;intro i c;simp at c;simp only[Function.comp];rw[show k-(i+1)=k-1-i from by omega]
theorem CR (l:List UInt8)(a:Nat):l.foldl (λa c=>256*a+c.toNat) a=a*256^l.length+xI l:=by
 induction l generalizing a with
 | nil=>simp[xI]
 | cons c l ih =>
  rw[xI,dY,dY,ih,ih (256*0+c.toNat),zL,mo,Nat.add_mul,Nat.add_mul];rw[show 256*a*256^l.length=a*(256^l.length*256) from by rw[Nat.mul_comm 256 a,Nat.mul_assoc,Nat.mul_comm 256]];simp;omega
theorem MC (c:UInt8)(l:List UInt8):xI (c::l)=c.toNat*256^l.length+xI l:=by
 rw[xI,dY,CR];simp
theorem Uh (l:List UInt8):xI l<256^l.length:=by
 induction l with
 | nil=>simp[xI]
 | cons c l ih =>
  rw[MC,zL,mo];have h1:c.toNat<=255:=by have:=c.toNat_lt;omega
  have h2:c.toNat*256^l.length<=255*256^l.length:=nC _ h1;omega
theorem Ep (k n:Nat):xI (zx k n)=n%256^k:=by
 induction k with
 | zero=>simp[zx,xI,Nat.mod_one]
 | succ k ih =>
  rw[MQ,MC,ya,ih];have e:(dR (n / 256^k)).toNat=n / 256^k%256:=by simp[UInt8.toNat_ofNat']
  rw[e,mo,Nat.mod_mul];rw[Nat.mul_comm (256^k)];omega
def LA:Nat:=0xedb88320
def sh (x:Nat):Nat:=if x%2=1 then (x / 2) ^^^ LA else x / 2
def DO:Nat->Nat->Nat
 | 0,x=>x
 | k+1,x=>DO k (sh x)
def GQ (s:Nat)(c:UInt8):Nat:=DO 8 (s ^^^ c.toNat)
def JY (s:Nat)(l:List UInt8):Nat:=l.foldl GQ s
def RA (l:List UInt8):Nat:=JY 4294967295 l ^^^ 4294967295
theorem Pg (x i:Nat):(sh x).testBit i=(x.testBit (i+1) ^^ (x.testBit 0&&LA.testBit i)):=by
 unfold sh
 by_cases h:x%2=1
 ·rw[if_pos h,mf,Nat.testBit_div_two];simp[Nat.testBit_zero,h]
 ·rw[if_neg h,Nat.testBit_div_two];simp[Nat.testBit_zero,h]
theorem uI (x y:Nat):sh (x ^^^ y)=sh x ^^^ sh y:=by
 apply Nat.eq_of_testBit_eq;intro i;rw[Pg,mf,mf,mf,Pg,Pg];cases x.testBit (i+1)<;>cases y.testBit (i+1)<;>cases x.testBit 0<;>cases y.testBit 0<;>cases LA.testBit i<;>rfl
theorem AH (k x y:Nat):DO k (x ^^^ y)=DO k x ^^^ DO k y:=by
 induction k generalizing x y with
 | zero=>rfl
 | succ k ih=>simp only[DO];rw[uI,ih]
theorem wS {x:Nat}(h:x<4294967296):sh x<4294967296:=by
 unfold sh;split
 ·have:x / 2<2^32:=by omega
  have h2:LA<2^32:=by decide
  have:=Nat.xor_lt_two_pow this h2;simpa using this
 ·omega
theorem CM (k:Nat){x:Nat}(h:x<4294967296):DO k x<4294967296:=by
 induction k generalizing x with
 | zero=>exact h
 | succ k ih=>exact ih (wS h)
theorem Nk {x y:Nat}(c:x<4294967296)(e:y<4294967296):x ^^^ y<4294967296:=by
 have:=Nat.xor_lt_two_pow (n:=32) (by simpa using c) (by simpa using e);simpa using this
theorem CG {s:Nat}(h:s<4294967296)(c:UInt8):GQ s c<4294967296 :=
 CM 8 (Nk h (by have:=c.toNat_lt;omega))
theorem Mz {s:Nat}(h:s<4294967296)(l:List UInt8):JY s l<4294967296:=by
 induction l generalizing s with
 | nil=>exact h
 | cons c l ih=>exact ih (CG h c)
theorem CN (x:Nat)(k:Nat):DO k (x*2^k)=x:=by
 induction k generalizing x with
 | zero=>simp[DO]
 | succ k ih =>
  simp only[DO];have h2:x*2^(k+1)=2*(x*2^k):=by rw[mo];rw[<-Nat.mul_assoc];omega
  have:sh (x*2^(k+1))=x*2^k:=by unfold sh;rw[if_neg (by omega)];omega
  rw[this,ih]
theorem Fz (s:Nat)(c:UInt8):GQ s c=(s / 256) ^^^ DO 8 ((s%256) ^^^ c.toNat):=by
 unfold GQ;have hs:s=(s / 256*2^8) ^^^ (s%256):=by
  apply Nat.eq_of_testBit_eq;intro i;rw[mf,show (256:Nat)=2^8 from rfl,Nat.testBit_mod_two_pow,Nat.testBit_mul_two_pow,Nat.testBit_div_two_pow]
  by_cases h:i<8
  ·have f:¬ 8<=i:=by omega
   simp[h,f]
  ·have f:8<=i:=by omega
   have e:i-8+8=i:=by omega
   simp[h,f,e]
 conv=>lhs;rw[hs,Nat.xor_assoc,AH,CN]
theorem Vn (s:Nat)(a b:List UInt8):JY s (a++b)=JY (JY s a) b:=by simp[JY,List.foldl_append]
end vA
namespace Go.Proofs.YtohmkffoojdahaaGreat
section
open Go Go.RowKit
abbrev Y4:=List UInt8
abbrev Y5:=Option Addr
abbrev Y7:=Array Value
abbrev Y8:=List Value
abbrev Z0 (n:Nat):Value:=.pointer (some ⟨n,0,none⟩)
abbrev Z1 (w W:World):Prop:=Below w.heap.size w W
abbrev Z2 (n:Int):Value:=.int .i64 n
abbrev Z3:Value:=.slice none 0 0
abbrev Z4 (g n c:Nat):Value:=.slice (some ⟨g,0,none⟩) n c
abbrev Z5:=Calls Y3
@[reducible] def b8 (c:UInt8):Value:=.int .u8 (c.toNat:Int)
theorem Yj:(Y3.info? 5).map (λi=>(i.zero,i.size,i.bytes))=some (some (.int .u8 0),1,1):=by kernel_rfl
def yZ (w:World)(base:Nat)(v:Value)(l:Y4):Prop:=w.ownsRow base 5 1 v l.length (l.map b8)
def yU (w0:World)(l:Y4)(e:Ending)(w':World):Prop :=
 ∃v,e=Y0 v/\yZ w' w0.heap.size v l/\ph w0.heap.size w0 w'
theorem yZ.nil (w:World)(base:Nat):yZ w base (.slice none 0 0) []:=World.ownsRow_nil _ _ _ _
theorem yZ.form {w:World}{base:Nat}{v:Value}{l:Y4}(h:yZ w base v l):(v=.slice none 0 0/\l=[])∨∃g cap,v=.slice (some ⟨g,0,none⟩) l.length cap/\base<=g/\g<w.heap.size/\l.length<=cap:=by
 rcases h.2 with⟨h1,h2⟩|⟨g,cap,cur,hv,hb,hg,hle,_⟩
 ·exact .inl ⟨h1,qF h2⟩
 ·exact .inr ⟨g,cap,hv,hb,(zK.1 hg).1,hle⟩
theorem yZ.at_ {w:World}{base:Nat}{v:Value}{l:Y4}(h:yZ w base v l)(hl:0<l.length):∃g cap,v=.slice (some ⟨g,0,none⟩) l.length cap/\base<=g/\g<w.heap.size/\l.length<=cap:=by
 rcases h.form with⟨_,rfl⟩|h
 ·simp at hl
 ·exact h
structure qq (w:World)(B:Nat)(A:Y5)(c:Nat)(l:Y4):Prop where
 le:l.length<=c
 max:c<=9223372036854775807
 nil:A=none->c=0
 rC:0<l.length->∃g o,A=some ⟨g,o,none⟩/\g<B/\∀j (h:j<l.length),w.cell? ⟨g,o+j,none⟩=some (.int .u8 (l[j].toNat:Int))
theorem qq.rE {w w':World}{B:Nat}{A:Y5}{c:Nat}{l:Y4}(h:qq w B A c l)(k:∀p:px,p.block<B->w'.cell? p=w.cell? p):qq w' B A c l :=
 ⟨h.le,h.max,h.nil,λhl=>by
  obtain⟨g,o,f,e,hc⟩:=h.rC hl
  exact⟨g,o,f,e,λj i=>(k _ e).trans (hc j i)⟩⟩
theorem qq.below {w w':World}{B:Nat}{A:Y5}{c:Nat}{l:Y4}(h:qq w B A c l)(e:ph B w w'):qq w' B A c l:=h.rE λ_ f=>e.cell f
theorem qq.drew {w:World}{B:Nat}{A:Y5}{c:Nat}{l:Y4}(h:qq w B A c l):qq w.drew B A c l:=⟨h.le,h.max,h.nil,h.rC⟩
theorem qq.more {w:World}{B e:Nat}{A:Y5}{c:Nat}{l:Y4}(h:qq w B A c l)(hB:B<=e):qq w e A c l :=
 ⟨h.le,h.max,h.nil,λhl=>by
  obtain⟨g,o,f,i,hc⟩:=h.rC hl
  exact⟨g,o,f,by omega,hc⟩⟩
theorem yZ.inB {w:World}{base:Nat}{v:Value}{l:Y4}(h:yZ w base v l):∃A c,v=.slice A l.length c/\qq w w.heap.size A c l:=by
 rcases h.2 with⟨h1,h2⟩|⟨g,cap,cur,hv,hb,hg,hle,hm,hs,ht⟩
 ·obtain rfl:=qF h2;exact⟨none,0,h1,by simp,by omega,λ_=>rfl,λh=>by simp at h⟩
 ·refine⟨_,cap,hv,hle,by unfold oo at hm;omega,λh=>by simp at h,λ_=>⟨g,0,rfl,(zK.1 hg).1,λj e => ?_⟩⟩;rw[qC,cell_of_row w g j cur _ (0,0) hg];have:=congrArg (λx=>x[j]?) ht;simp only[yH,List.getElem?_map,zM e,dH] at this;rw[if_pos (by omega)] at this;simpa using this
def kh (A:Y5)(c n:Nat):Y5:=if c=n then A else A.map (·.add n)
theorem qq.drop {w:World}{B:Nat}{A:Y5}{c:Nat}{l:Y4}(h:qq w B A c l)(n:Nat)(hn:n<=l.length):qq w B (kh A c n) (c-n) (l.drop n):=by
 have h1:=h.le;have h2:=h.max;refine⟨by simp;omega,by omega,?_,?_⟩
 ·intro e;unfold kh at e;split at e
  ·omega
  ·have:=h.nil (by simpa using e);omega
 ·intro hl;simp at hl;obtain⟨g,o,rfl,f,hc⟩:=h.rC (by omega);refine⟨g,o+n,?_,f,?_⟩
  ·unfold kh;rw[if_neg (by omega)]
   by_cases k:n=0<;>simp[Addr.add,k]
  ·intro j i;simp at i;have:=hc (n+j) (by omega);rw[dq,this];simp
theorem qq.take {w:World}{B:Nat}{A:Y5}{c:Nat}{l:Y4}(h:qq w B A c l)(n:Nat)(c':Nat)(hn:n<=l.length)(hc:n<=c')(q:c'<=c):qq w B A c' (l.take n):=by
 have h2:=h.max;refine⟨by simp;omega,by omega,λe=>by have:=h.nil e;omega,?_⟩;intro hl;simp at hl;obtain⟨g,o,rfl,i,f⟩:=h.rC (by omega);refine⟨g,o,rfl,i,λj k => ?_⟩;simp at k;rw[f j (by omega)];simp
def Jz (l:Y4):ByteArray:=⟨l.toArray⟩
theorem ZB (l:Y4):(Jz l).size=l.length:=rfl
theorem CF (l:Y4):(Jz l).data.toList=l:=rfl
theorem Kz (s:ByteArray):s=Jz s.data.toList:=by cases s;simp[Jz]
theorem Fy (l:Y4):strOfNums (l.map λx=>(x.toNat:Int))=Jz l:=by
 have e:(l.map λx=>(x.toNat:Int)).map (λn=>dR n.toNat)=l:=by
  rw[List.map_map]
  conv=>rhs;rw[<-List.map_id l]
  apply List.map_congr_left;intro x _;simp
 unfold strOfNums Jz;rw[e]
theorem qq.string {w:World}{B:Nat}{A:Y5}{c:Nat}{l:Y4}(h:qq w B A c l):(convert 129 9 (.slice A l.length c)).run Y3 w=.ok (.string (Jz l)) w:=by
 rcases A with _|a
 ·have:=h.nil rfl;have h1:=h.le;obtain rfl:l=[]:=qF (by omega);exact run_convert_bytes_nil (P:=Y3) w _ 5 underlying129 underlying5 _ _ _ underlying9
 ·rcases dp l.length with e|e
  ·obtain rfl:=qF e;have hl:(loadCells a ([]:List Int).length).run Y3 w=.ok ((([]:List Int)).map (mG .u8)).toArray w :=
    run_loadCells_list (P:=Y3) w a [] (λj v q=>by simp at q)
   rw[run_convert_bytes_string w _ _ 5 _ _ c underlying129 underlying5 underlying9,zY];have:=run_bytesToString (P:=Y3) w a 0 c [] hl;rw[this];exact congrArg (λs=>Result.ok (Value.string s) w) (show oR=Jz [] from rfl)
  ·obtain⟨g,o,k,_,hc⟩:=h.rC e;obtain rfl:a=⟨g,o,none⟩:=by simpa using k
   have:=run_convert_bytes_arg (P:=Y3) w 129 5 underlying129 underlying5 g o l.length c (l.map λx=>(x.toNat:Int)) (by simp) (λi f=>by rw[hc i f];simp[List.getD,f]) 9 underlying9;rw[this,Fy]
section
variable {w:World}{ops:Array oM}{rest:List oM}{o:oM}{a:oy}{Q:nF->oy->World->Prop}
theorem Ug (C:o.guard=none)(s x:py)(I:o.op=.call {callee:=.builtin .append,args:=#[s,x],argTypes:=#[129,129]})
  (base:Nat) (v:Value) (l:Y4) (hs:a.eval s=v) (z:yZ w base v l) (B:Nat) (A:Y5) (c:Nat) (f:Y4) (M:a.eval x=.slice A f.length c) (q:qq w B A c f)
  (aC:l.length+f.length<=140737488355328) (S:base<=w.heap.size)
  (h:∀i w',yZ w' base i (l++f)->w.grownBy w' v.ownBlock->df Y3 ops Q rest (a.put o.dst i) w'):df Y3 ops Q (o::rest) a w:=by
 obtain⟨N,F,Z,aA,aB⟩:=nK Yj;have aD:=q.le;rcases A with _|k
 ·have T:=q.nil rfl;obtain rfl:f=[]:=qF (by omega);subst T;refine wpList_append_own_none (w:=w) C s x _ I base _ N 1 underlying129 F v l.length (l.map b8) hs z M ?_;exact h v w (by rw[yE];exact z) (gh _ _)
 ·have V:∀j u,(f.map b8)[j]?=some u->w.cell? (k.add j)=some u:=by
   intro j u hu;have G:j<f.length:=by
    rcases nG j f.length with h|h
    ·exact h
    ·rw[List.getElem?_eq_none (by simpa using h)] at hu;cases hu
   obtain⟨g,o',O,_,hc⟩:=q.rC (by omega);obtain rfl:k=⟨g,o',none⟩:=by simpa using O
   have e:(⟨g,o',none⟩:px).add j=⟨g,o'+j,none⟩:=by unfold Addr.add;split<;>simp_all
   rw[e,hc j G];simpa[G,b8] using hu
  refine gv w C s x _ I base _ N (.int .u8 0) 1 1 underlying129 F Z aA aB rfl (by decide) v l.length (l.map b8) hs z k f.length c (f.map b8) M (by simp) V (by simp[b8,mq]) (by unfold oo;omega) (by omega) S ?_;intro i w' X U _;refine h i w' ?_ U;unfold yZ;simpa using X
theorem AE (k:o.guard=none)(s x:py)(z:o.op=.call {callee:=.builtin .append,args:=#[s,x],argTypes:=#[129,9]})
  (base:Nat) (v:Value) (l:Y4) (hs:a.eval s=v) (A:yZ w base v l) (st:ByteArray) (B:a.eval x=.string st)
  (M:l.length+st.size<=140737488355328) (j:base<=w.heap.size)
  (h:∀c w',yZ w' base c (l++st.data.toList)->w.grownBy w' v.ownBlock->df Y3 ops Q rest (a.put o.dst c) w'):df Y3 ops Q (o::rest) a w:=by
 obtain⟨I,u,C,F,G⟩:=nK Yj;refine Lib.wpList_append_own_string w k s x _ _ z base _ I underlying129 underlying9 u C F G v l.length (l.map b8) hs A st B (by unfold oo;omega) (by omega) j ?_;intro c w' f q _;refine h c w' ?_ q;unfold yZ;have e:Lib.strCells st=st.data.toList.map b8:=rfl;rw[e] at f;have i:(l++st.data.toList).length=l.length+st.size:=by rw[zH,zW];rfl
 rw[i,qW];exact f
theorem Fe (k:o.guard=none)(x y:py)(u:o.op=Op.makeSlice 129 x y)(base:Nat)(i f:IntKind)(n:Nat)(z:a.eval x=.int i (n:Int))(A:a.eval y=.int f (n:Int))
  (hn:n<=140737488355328) (j:base<=w.heap.size)
  (h:∀w',yZ w' base (.slice (some ⟨w.heap.size,0,none⟩) n n) (zP n 0)->w.grownBy w' none->df Y3 ops Q rest (a.put o.dst (.slice (some ⟨w.heap.size,0,none⟩) n n)) w'):df Y3 ops Q (o::rest) a w:=by
 obtain⟨G,s,B,C,F⟩:=nK Yj;refine wpList_make_full w k x y _ u base _ G (.int .u8 0) 1 underlying129 s B C i f n n n z A rfl rfl (by rw[F];omega) (by unfold oo;omega) j ?_;intro w' c q;refine h w' ?_ q;have e:(madeCells (mG .u8 0).cells (n*1)).toList=(zP n (0:UInt8)).map b8:=by rw[yL,show (mG .u8 0).cells=#[.int .u8 0] from rfl,toList_madeCells_one];simp[b8]
 rw[e] at c;unfold yZ;simpa using c
end
theorem yZ.set {w:World}{base g n c:Nat}{l:Y4}(h:yZ w base (.slice (some ⟨g,0,none⟩) n c) l)(j x:Nat)(f:x<256):yZ (w.setCell ⟨g,j,none⟩ (.int .u8 (x:Int))) base (.slice (some ⟨g,0,none⟩) n c) (l.set j (dR x)):=by
 rcases h.form with⟨h1,_⟩|⟨g',cap',h1,_,_,_⟩
 ·cases h1
 ·injection h1 with h2 h3 h4
  subst h3;have:=(World.ownsRow.stored (w:=w) h j (.int .u8 (x:Int))).1;unfold yZ;rw[List.length_set,List.map_set];have e:b8 (dR x)=.int .u8 (x:Int):=by simp[b8];omega
  rw[e];exact this
theorem yZ.cell {w:World}{base g n c:Nat}{l:Y4}(h:yZ w base (.slice (some ⟨g,0,none⟩) n c) l)(j:Nat)(e:j<l.length):w.cell? ⟨g,j,none⟩=some (.int .u8 (l[j].toNat:Int)):=by
 rcases h.form with⟨h1,_⟩|⟨g',cap',h1,_,_,_⟩
 ·cases h1
 ·injection h1 with h2 h3 h4
  subst h3;have:=World.ownsRow.cellAt (w:=w) h j (by omega);rw[this];simp[b8,e]
theorem yZ.free {w:World}{base g n c:Nat}{l:Y4}(h:yZ w base (.slice (some ⟨g,0,none⟩) n c) l)(j:Nat):w.frozen? ⟨g,j,none⟩=false:=by
 rcases h.form with⟨h1,_⟩|⟨g',cap',h1,_,_,_⟩
 ·cases h1
 ·injection h1 with h2 h3 h4
  subst h3;exact World.ownsRow.frozenAt (w:=w) h j
def za (w:World)(g:Nat)(t:oD)(cs:Y7):Prop:=w.heap[g]?=some (.cells cs t (0,0))
section
variable {w w':World}{g:Nat}{t:oD}{cs:Y7}
theorem za.lt (h:za w g t cs):g<w.heap.size:=(zK.1 h).1
theorem za.cell (h:za w g t cs)(i:Nat):w.cell? ⟨g,i,none⟩=cs[i]?:=cell_of_row w g i cs t (0,0) h
theorem za.free (h:za w g t cs)(i:Nat):w.frozen? ⟨g,i,none⟩=false:=by
 unfold za at h;simp[gQ,h]
theorem za.set (h:za w g t cs)(i:Nat)(u:Value):za (w.setCell ⟨g,i,none⟩ u) g t (cs.setIfInBounds i u):=by
 unfold za at h ⊢;simp[oh,Array.getElem?_modify,h]
theorem za.other (h:za w g t cs){p:px}(c:g≠p.block)(u:Value):za (w.setCell p u) g t cs:=(oI w p u g c).trans h
theorem za.drew (h:za w g t cs):za w.drew g t cs:=h
theorem za.alloc (h:za w g t cs)(o:Obj):za (w.alloc o) g t cs:=(Below.heap_alloc w o g h.lt).trans h
theorem za.new (w:World)(t:oD)(cs:Y7):za (w.alloc (.cells cs t)) w.heap.size t cs:=nO w _
theorem za.below {B:Nat}(h:za w g t cs)(c:ph B w w')(e:g<B):za w' g t cs:=(c.block g e).trans h
theorem za.grown {row:Option Nat}(h:za w g t cs)(c:w.grownBy w' row)(e:some g≠row):za w' g t cs:=(c.block g h.lt e).trans h
end
theorem za.inB {w:World}{g:Nat}{l:Y4}(h:za w g 5 (l.map b8).toArray)(B:Nat)(hB:g<B)(e:l.length<=9223372036854775807):qq w B (some ⟨g,0,none⟩) l.length l :=
 ⟨zG _,e,(λh=>by cases h),λ_=>⟨g,0,rfl,hB,λj c=>by
  rw[h.cell,qC]
  simp[c,b8]⟩⟩
theorem vt (w:World)(b i:Nat)(v:Value):w.grownBy (w.setCell ⟨b,i,none⟩ v) (some b) :=
 ⟨rfl,rfl,rfl,by simp[oh],λk _ c=>oI _ _ _ k (λe=>c (by rw[e]))⟩
theorem zz {a b c:World}{row:Option Nat}(h:a.grownBy b row)(k:b.grownBy c row):a.grownBy c row :=
 ⟨k.os.trans h.os,k.tape.trans h.tape,k.output.trans h.output,zT h.size k.size,λi e f=>(k.block i (zO e h.size) f).trans (h.block i e f)⟩
theorem yP (w:World)(row:Option Nat):w.grownBy w.drew row:=⟨rfl,rfl,rfl,zG _,λ_ _ _=>rfl⟩
theorem Qy (w:World)(v:Value)(t:oD):(w.alloc (.cells #[v] t)).cell? ⟨w.heap.size,0,none⟩=some v:=by
 simp
theorem Gk (w:World)(c:Y7)(t:oD)(i:Nat):(w.alloc (.cells c t)).frozen? ⟨w.heap.size,i,none⟩=false:=by
 unfold gQ;rw[nO];simp
theorem tE:∀m,m<256->m ||| 128=m%128+128:=by decide +kernel
theorem Nz (n:Nat):bits .or .u8 ((n:Int)%256) 128=((n%128+128:Nat):Int):=by
 have e:(n:Int)%256=((n%256:Nat):Int):=by omega
 rw[e];have:=u8_or_nat (n%256) 128 (by omega) (by omega);rw[tE _ (by omega)] at this;have h2:(((128:Nat)):Int)=128:=rfl;rw[h2] at this;rw[this];congr 1;omega
theorem YK (w:World)(T:oD)(cs:Y7):∃W,W=w.alloc (.cells cs T)/\ph w.heap.size w W/\za W w.heap.size T cs:=⟨_,rfl,(pf _ w).alloc (zG _) _,za.new w T cs⟩
theorem Bp (w:World)(T:oD)(cs:Y7)(U:oD)(ds:Y7):∃W,W=(w.alloc (.cells cs T)).alloc (.cells ds U)/\ph w.heap.size w W/\za W w.heap.size T cs/\za W (w.heap.size+1) U ds :=
 ⟨_,rfl,((pf _ w).alloc (zG _) _).alloc (by simp) _,(za.new w T cs).alloc _,by
  have:=za.new (w.alloc (.cells cs T)) U ds;rw[pq] at this
  exact this⟩
end
section
open Go Go.RowKit vA
theorem Dp {w:World}{a:px}{v:Value}(h:w.cell? a=some v):a.block<w.heap.size:=by
 simp only[World.cell?] at h
 by_cases c:a.block<w.heap.size
 ·exact c
 ·exfalso;simp[Array.getElem?_eq_none (Nat.le_of_not_lt c)] at h
end
section
open Go vA Go.ChangeShapes Go.WideShapes Go.ChangeAt Go.RowKit
section
variable {H:Type}{enc:oD×Value->H}{W:World}{r:Reach}{b0 b1:Nat}{spare:Nat->Bool}{held:Bool}{v:Value}{d:DataW H}{p:List MemPlace}
end
end
section
open Go Go.RowKit vA
theorem AT {f n:Nat}(hf:1<=f)(h:n<128):ZQ f n=[dR n]:=by
 cases f with
 | zero=>omega
 | succ f=>unfold ZQ;rw[if_pos h]
def Kq (n0 n f:Nat)(pre:Y4):Prop:=pre++ZQ f n=jQ n0/\n<2^(7*f-6)/\1<=f/\pre.length+f=10
theorem Kq.start {c:Nat}(h:c<2^64):Kq c c 10 []:=⟨rfl,by simpa using h,by omega,by simp⟩
theorem Kq.last {n0 n f:Nat}{c:Y4}(h:Kq n0 n f c)(e:n<128):c++[dR n]=jQ n0:=by
 rw[<-AT h.2.2.1 e];exact h.1
theorem Kq.next {e n f:Nat}{i:Y4}(h:Kq e n f i)(q:128<=n):Kq e (n / 128) (f-1) (i++[dR (n%128+128)]):=by
 obtain⟨h1,h2,j,k⟩:=h;cases f with
 | zero=>omega
 | succ f =>
  have hf:1<=f:=by
   rcases dp f with c|c
   ·subst c;simp at h2;omega
   ·exact c
  refine⟨?_,?_,by simpa using hf,by simp;omega⟩
  ·rw[<-h1]
   conv=>rhs;unfold ZQ
   rw[if_neg (by omega)];simp
  ·rw[Nat.div_lt_iff_lt_mul (by omega)];have:2^(7*f-6)*128=2^(7*(f+1)-6):=by rw[show 7*(f+1)-6=(7*f-6)+7 from by omega,Nat.pow_add]
   simp only[Nat.add_sub_cancel];omega
theorem YT (l:Y4)(n:Nat)(h:n<256):l.map b8++[.int .u8 (n:Int)]=(l++[dR n]).map b8:=by
 simp[b8];omega
theorem KR (e:Nat)(hn:e<2^64)(w:World):pr Y3 287 #[.int .u64 e] w (yU w (jQ e)):=by
 obtain⟨G,A,B,C,F⟩:=nK Yj;have hs:=pk (Kq.start hn);clear hn
 go_enter func287,ntmps287
 go_wp2_with fail
 go_loopw [0,2] (λa v wr=>∃(n f:Nat) (c:Y4),Hid (Kq e n f c)/\c.length<=10/\a=.int .u64 n/\yZ wr w.heap.size v c/\ph w.heap.size w wr)
  (λa _ _=>(intOf a).toNat)
 case atStart=>exact⟨e,10,[],hs,by simp,rfl,yZ.nil _ _,pf _ _⟩
 case round =>
  obtain⟨n,f,c,x,hl,rfl,i,hB⟩:=hrel;have u:=hB.size;have O:=Nz n
  by_cases M:n<128
  ·go_wp2_with (at_builtin;refine gv _ rfl _ _ 129 rfl w.heap.size 5 G (.int .u8 0) 1 1 underlying129 A B C F rfl (by decide) _ _ _ rfl (mY i _) ⟨wr.heap.size,0,none⟩ 1 1 _ rfl rfl (cell_one_new _ _ _) (by simp[mq]) (by unfold oo;omega) (by omega) (by simp;omega) ?_;intro I N h j _)
   go_ret;have s:=x.out.last M;refine⟨I,rfl,?_,(hB.alloc u _).grown j (by simp;omega) (λk q=>(mH i k q).1)⟩;rw[YT c n (by omega),s] at h;unfold yZ;rw[show (jQ e).length=c.length+1 from by rw[<-s];simp];exact h
  ·go_wp2_with (at_builtin;refine gv _ rfl _ _ 129 rfl w.heap.size 5 G (.int .u8 0) 1 1 underlying129 A B C F rfl (by decide) _ _ _ rfl (mY i _) ⟨wr.heap.size,0,none⟩ 1 1 _ rfl rfl (cell_one_new _ _ _) (by simp[mq]) (by unfold oo;omega) (by omega) (by simp;omega) ?_;intro I N h j _)
   have z:=x.out.next (by omega);refine⟨⟨n / 128,f-1,c++[dR (n%128+128)],pk z,?_,by go_num,?_,?_⟩,by simp[intOf];omega⟩
   ·have:=z.2.2.2;omega
   ·rw[show ((n:Int)%128+128)=((n%128+128:Nat):Int) from by omega,YT c _ (by omega)] at h;unfold yZ;simpa using h
   ·exact(hB.alloc u _).grown j (by simp;omega) (λk q=>(mH i k q).1)
theorem disable (w:World):(dF 386 #[]).run Y3 w=.ok (.value (.tuple #[])) w:=run_call_mark0 func386 (by kernel_rfl) (by kernel_rfl) (by kernel_rfl) .disable (by kernel_rfl) w
theorem enable (w:World):(dF 388 #[]).run Y3 w=.ok (.value (.tuple #[])) w:=run_call_mark0 func388 (by kernel_rfl) (by kernel_rfl) (by kernel_rfl) .enable (by kernel_rfl) w
theorem acquire (a:px)(w:World):(dF 389 #[.pointer (some a)]).run Y3 w=.ok (.value (.tuple #[])) w:=run_call_marked func389 (by kernel_rfl) (by kernel_rfl) (by kernel_rfl) .acquire (by kernel_rfl) a w
theorem releaseMerge (a:px)(w:World):(dF 391 #[.pointer (some a)]).run Y3 w=.ok (.value (.tuple #[])) w:=run_call_marked func391 (by kernel_rfl) (by kernel_rfl) (by kernel_rfl) .releaseMerge (by kernel_rfl) a w
theorem GJ (a:px)(x:Value)(u:FrameMode)(w:World)(hc:w.cell? a=some x)(j:w.frozen? a=false):CallsD Y3 381 #[.pointer (some a),.bool true] u w λe h w'=>h=u/\(e=Y0 (.tuple #[])/\w'=w.drew.setCell a (.int .u32 1)):=by
 have c:w.drew.cell? a=some x:=by go_simp
 have f:w.drew.frozen? a=false:=by go_simp
 have i:=run_call_store (P:=Y3) func384 (by kernel_rfl) (by kernel_rfl) (by kernel_rfl) (by kernel_rfl) (k:=.u32) (y:=1) c f
 go_enter_d func381,ntmps381
 go_wp2
 go_region_calls
 all_goals (go_end0;exact⟨rfl,rfl⟩)
theorem US (a:px)(u:FrameMode)(w:World)(hc:w.cell? a=some (.int .i32 1))(c:w.frozen? a=false):CallsD Y3 380 #[.pointer (some a)] u w λe f w'=>f=u/\(e=Y0 (.tuple #[])/\w'=w.setCell a (.int .i32 0)):=by
 have hd:=disable;have j:=enable;have k:=releaseMerge;have h:=run_call_add (P:=Y3) func392 (by kernel_rfl) (by kernel_rfl) (by kernel_rfl) .i32 (by kernel_rfl) (y:=-1) (s:=0) hc c (by simp[go_sem];rfl);have i:=run_convert_to_unsafe (P:=Y3) (src:=456) (dst:=359) underlying456 underlying359 (by kernel_rfl) hc
 go_enter_d func380,ntmps380
 go_wp2;go_end0;go_wp2;go_end0;exact⟨rfl,rfl⟩
theorem Ig (a:px)(w:World)(hc:w.cell? a=some (.int .i32 0))(f:w.frozen? a=false):pr Y3 379 #[.pointer (some a)] w λe w'=>e=Y0 (.tuple #[])/\w'=w.setCell a (.int .i32 1):=by
 have hd:=disable;have j:=enable;have ha:=acquire;have h:=run_call_cas_hit (P:=Y3) func387 (by kernel_rfl) (by kernel_rfl) (by kernel_rfl) .i32 (by kernel_rfl) (y:=1) hc f;have c:(w.setCell a (.int .i32 1)).cell? a=some (.int .i32 1):=World.cell?_setCell_same w a _ hc;have i:=run_convert_to_unsafe (P:=Y3) (src:=456) (dst:=359) underlying456 underlying359 (by kernel_rfl) c
 go_enter func379,ntmps379
 go_wp2
 first|go_end0|(simp only[Exit.inBlock,Exit.then];refine oE (dS rfl _ _ _) rfl ?_)|refine oE (dS rfl _ _ _) rfl ?_
 go_wp2;go_end0;exact⟨rfl,rfl⟩
theorem VV (a:px)(d:Nat)(w:World)(hc:w.cell? a=some (.int .u32 d)):pr Y3 374 #[.pointer (some a)] w λe w'=>e=Y0 (.bool ((d:Int) != 0))/\w=w':=by
 have hl:=run_call_load (P:=Y3) func378 (by kernel_rfl) (by kernel_rfl) (by kernel_rfl) .u32 (by kernel_rfl) hc
 go_enter func374,ntmps374
 go_wp2;go_ret;exact⟨rfl,rfl⟩
theorem Im (b o k:Nat)(h:k<=1000000)(w:World)(hc:w.cell? ⟨b,o,none⟩=some (.int .i64 k))(c:w.frozen? ⟨b,o,none⟩=false):pr Y3 118 #[.pointer (some ⟨b,o,none⟩),.int .i64 1] w λe w'=>e=Y0 (.int .i64 ((k:Int)+1))/\w.setCell ⟨b,o,none⟩ (.int .i64 ((k:Int)+1))=w':=by
 have f:=run_call_add (P:=Y3) func194 (by kernel_rfl) (by kernel_rfl) (by kernel_rfl) .i64 (by kernel_rfl) (y:=1) (s:=(k:Int)+1) hc c (by
  have:=IntWalk.i64_in ((k:Int)+1) (by omega)
  simp[go_sem,this])
 go_enter func118,ntmps118
 go_wp2;go_ret;exact⟨rfl,rfl⟩
theorem uJ {y:Nat}(h:y%2=1):sh y=(y / 2) ^^^ LA:=by unfold sh;rw[if_pos h]
theorem AG {y:Nat}(h:¬ y%2=1):sh y=y / 2:=by unfold sh;rw[if_neg h]
theorem Nj {y:Nat}(c:y<4294967296):bits .xor .u32 ((y:Int) / 2) 3988292384=((y / 2 ^^^ LA:Nat):Int):=u32_xor_nat (y / 2) 3988292384 (by omega) (by omega)
theorem Bu {x:Nat}(c:x<4294967296):bits .xor .u32 IntKind.u32.max (x:Int)=((x ^^^ 4294967295:Nat):Int):=by
 have e:IntKind.u32.max=((4294967295:Nat):Int):=rfl;rw[e,u32_xor_nat _ _ (by omega) c,Nat.xor_comm]
structure DA (cs0:Y7)(k:Nat)(cs:Y7):Prop where
 size:cs.size=260
 c0:cs[0]?=cs0[0]?
 c1:cs[1]?=cs0[1]?
 c2:cs[2]?=cs0[2]?
 many:cs[3]?=some (.int .i64 (k:Int))
 to:∀j,j<k->cs[4+j]?=some (.int .u32 (DO 8 j:Int))
theorem DA.next {c cs:Y7}{k:Nat}(h:DA c k cs)(i:k<256):DA c (k+1) ((cs.setIfInBounds (4+k) (.int .u32 (DO 8 k:Int))).setIfInBounds 3 (.int .i64 ((k:Int)+1))):=by
 have hs:=h.size;refine⟨by simp[hs],?_,?_,?_,?_,?_⟩
 ·rw[zS,if_neg (by omega),zS,if_neg (by omega)];exact h.c0
 ·rw[zS,if_neg (by omega),zS,if_neg (by omega)];exact h.c1
 ·rw[zS,if_neg (by omega),zS,if_neg (by omega)];exact h.c2
 ·simp[hs]
 ·intro j f;rw[zS,if_neg (by omega),zS]
  by_cases e:j=k
  ·subst e;rw[if_pos rfl,if_pos (by omega)]
  ·rw[if_neg (by omega)];exact h.to j (by omega)
theorem wH {y:Nat}(c:y<4294967296):bits .and .u32 (y:Int) 1=((y%2:Nat):Int):=by
 have:=u32_and_nat y 1 c (by omega);rw[Nat.and_one_is_mod] at this;exact this
theorem LO (b:Nat)(f:Y7)(w:World)(F:za w b 403 f)(C:DA f 0 f):pr Y3 361 #[.pointer (some ⟨b,0,none⟩)] w λe w'=>e=Y0 (.tuple #[])/\(∃cs,za w' b 403 cs/\DA f 256 cs)/\w.grownBy w' (some b):=by
 go_enter func361,ntmps361
 go_wp2_with fail
 go_loopw [5] (λi wr=>∃(k:Nat) (cs:Y7),k<=256/\i=.int .i64 k/\Hid (za wr b 403 cs/\DA f k cs)/\w.grownBy wr (some b)) (λi _=>256-(intOf i).toNat)
 case atStart=>exact⟨0,f,by omega,rfl,pk ⟨F,C⟩,gh _ _⟩
 case round =>
  obtain⟨k,cs,hk,rfl,c,A⟩:=hrel
  by_cases O:k<256
  ·have S:=c.out.2.size;have N:∃u,cs[4+k]?=some u:=⟨cs[4+k]'(by omega),dE (by omega)⟩;obtain⟨u,hu⟩:=N;have U:wr.cell? ⟨b,4+k,none⟩=some u:=(c.out.1.cell _).trans hu;have V:wr.frozen? ⟨b,4+k,none⟩=false:=c.out.1.free _;clear S hu
   go_wp2_with fail
   go_loop [3,10] (λs i=>∃j y:Nat,j<=8/\i=.int .i64 j/\y<4294967296/\s=.int .u32 y/\Hid (DO (8-j) y=DO 8 k)) (λ_ i=>8-(intOf i).toNat)
   case atStart=>exact⟨0,k,by omega,rfl,by omega,rfl,pk rfl⟩
   case round =>
    obtain⟨j,y,X,rfl,z,rfl,h⟩:=hrel
    by_cases Z:j<8
    ·have hn:Hid (DO (8-(j+1)) (sh y)=DO 8 k):=by have:=h.out;rw[show 8-j=(8-(j+1))+1 from by omega] at this;exact pk this
     have B:=wS z;have T:=wH z;clear h
     by_cases q:y%2=1
     ·have hs:Hid (sh y=(y / 2) ^^^ LA):=pk (uJ q);have G:((((y%2:Nat):Int))==1)=true:=by rw[beq_iff_eq];omega
      have aA:=Nj z;clear q
      go_wp2_with fail
      exact⟨⟨j+1,sh y,by omega,by go_num,B,by rw[hs.out],hn⟩,by simp[intOf];omega⟩
     ·have hs:Hid (sh y=y / 2):=pk (AG q);have G:((((y%2:Nat):Int))==1)=false:=by rw[beq_eq_false_iff_ne];omega
      clear q
      go_wp2_with fail
      exact⟨⟨j+1,sh y,by omega,by go_num,B,by rw[hs.out];go_num,hn⟩,by simp[intOf];omega⟩
    ·have hn:Hid (y=DO 8 k):=by have:=h.out;rw[show 8-j=0 from by omega] at this;exact pk this
     clear h;have x:=c.out.1.set (4+k) (.int .u32 (y:Int));have I:(wr.setCell ⟨b,4+k,none⟩ (.int .u32 (y:Int))).cell? ⟨b,3,none⟩=some (.int .i64 (k:Int)):=by rw[x.cell,zS,if_neg (by omega)];exact c.out.2.many
     have M:=x.free 3
     go_wp2_with (go_at_call 118;refine(Im b 3 k (by omega) _ I M).mono ?_;rintro e w' ⟨rfl,rfl⟩)
     refine⟨⟨k+1,_,by omega,by go_num,pk ⟨x.set 3 _,?_⟩,zz A (zz (vt _ _ _ _) (vt _ _ _ _))⟩,by simp[intOf];omega⟩;rw[hn.out];exact c.out.2.next O
  ·obtain rfl:k=256:=by omega
   go_wp2_with fail
   go_end0;exact⟨rfl,⟨cs,c.out⟩,A⟩
structure JO (d:Nat)(cs:Y7):Prop where
 size:cs.size=260
 c0:cs[0]?=some (.int .u32 (d:Int))
 c1:cs[1]?=some (.int .i32 0)
 dd:d=0∨d=1
 many:d=0->cs[3]?=some (.int .i64 0)
 to:d=1->∀j,j<256->cs[4+j]?=some (.int .u32 (DO 8 j:Int))
theorem Rt (b:Nat)(k:Y7)(w:World)(s:za w b 403 k)(i:JO 0 k):pr Y3 375 #[.pointer (some ⟨b,0,none⟩),.func (.func 361) #[.pointer (some ⟨b,0,none⟩)] #[]] w λe w' =>
   e=Y0 (.tuple #[])/\(∃cs,za w' b 403 cs/\JO 1 cs)/\w.grownBy w' (some b):=by
 have S:w.cell? ⟨b,1,none⟩=some (.int .i32 0):=(s.cell 1).trans i.c1;have T:=s.free 1;have c:=s.set 1 (.int .i32 1);have O:(w.setCell ⟨b,1,none⟩ (.int .i32 1)).cell? ⟨b,0,none⟩=some (.int .u32 ((0:Nat):Int)):=by rw[c.cell,zS,if_neg (by omega)];exact i.c0
 have X:=i.size
 have B:DA (k.setIfInBounds 1 (.int .i32 1)) 0 (k.setIfInBounds 1 (.int .i32 1)):=⟨by simp[X],rfl,rfl,rfl,by
  rw[zS,if_neg (by omega)]
  exact i.many rfl,λj A=>by omega⟩
 have M:=LO b _ _ c B;clear B c
 go_enter_defers func375,ntmps375
 go_wp2_with (first
  | (go_at_call 379;refine(Ig ⟨b,1,none⟩ _ S T).mono ?_;rintro e w' ⟨rfl,rfl⟩)
  | (go_at_call 374;refine(VV ⟨b,0,none⟩ 0 _ O).mono ?_;rintro e w' ⟨rfl,rfl⟩)
  | (go_at_call 361;refine M.mono ?_;rintro e C ⟨rfl,⟨x,c,q⟩,U⟩))
 have V:=q.size;have F:x[0]?=some (.int .u32 ((0:Nat):Int)):=by rw[q.c0,zS,if_neg (by omega)];exact i.c0
 have G:x[1]?=some (.int .i32 1):=by rw[q.c1,zS,if_pos rfl,if_pos (by omega)]
 have u:=c.drew.set 0 (.int .u32 1);have N:=u.set 1 (.int .i32 0);refine leaves_cons (f:=381) (args:=#[.pointer (some ⟨b,0,none⟩),.bool true]) (by simp) (by simp[go_sem]) ?_;refine(GJ ⟨b,0,none⟩ (.int .u32 0) .returning _ ((c.cell 0).trans F) (c.free 0)).mono ?_;rintro e Z aA ⟨rfl,rfl,rfl⟩;refine leaves_cons (f:=380) (args:=#[.pointer (some ⟨b,1,none⟩)]) (by simp[settle]) (by simp[go_sem]) ?_;refine(US ⟨b,1,none⟩ _ _ (by rw[u.cell,zS,if_neg (by omega)];exact G) (u.free 1)).mono ?_;rintro e Z aA ⟨rfl,rfl,rfl⟩;have z:(∃cs,za ((C.drew.setCell ⟨b,0,none⟩ (.int .u32 1)).setCell ⟨b,1,none⟩ (.int .i32 0)) b 403 cs/\JO 1 cs)/\w.grownBy ((C.drew.setCell ⟨b,0,none⟩ (.int .u32 1)).setCell ⟨b,1,none⟩ (.int .i32 0)) (some b):=by
  refine⟨⟨_,N,⟨by simp[V],?_,?_,.inr rfl,λh=>by omega,λ_ j A => ?_⟩⟩,?_⟩
  ·rw[zS,if_neg (by omega),zS,if_pos rfl,if_pos (by omega)];rfl
  ·rw[zS,if_pos rfl,if_pos (by simp;omega)]
  ·rw[zS,if_neg (by omega),zS,if_neg (by omega)];exact q.to j A
  ·exact zz (vt _ _ _ _) (zz U (zz (yP _ _) (zz (vt _ _ _ _) (vt _ _ _ _))))
 have I:=pk z;clear z;simp[Leaves,settle,gL,Tryz.results375];exact I.out
theorem LF (b d:Nat)(f:Y7)(w:World)(h:za w b 403 f)(c:JO d f):pr Y3 360 #[.pointer (some ⟨b,0,none⟩),.func (.func 361) #[.pointer (some ⟨b,0,none⟩)] #[]] w λe w' =>
   e=Y0 (.tuple #[])/\(∃cs,za w' b 403 cs/\JO 1 cs)/\w.grownBy w' (some b):=by
 have i:w.cell? ⟨b,0,none⟩=some (.int .u32 (d:Int)):=(h.cell 0).trans c.c0;rcases c.dd with rfl|rfl
 ·have j:=Rt b _ _ h c;have q:(((0:Nat):Int) != 0)=false:=by decide
  go_enter func360,ntmps360
  go_wp2_with (first
   | (go_at_call 374;refine(VV ⟨b,0,none⟩ 0 _ i).mono ?_;rintro e w' ⟨rfl,rfl⟩)
   | (go_at_call 375;refine j.mono ?_;rintro e u ⟨rfl,k,s⟩))
  go_end0;exact⟨rfl,k,s⟩
 ·have q:(((1:Nat):Int) != 0)=true:=by decide
  go_enter func360,ntmps360
  go_wp2_with (go_at_call 374;refine(VV ⟨b,0,none⟩ 1 _ i).mono ?_;rintro e w' ⟨rfl,rfl⟩)
  go_end0;exact⟨rfl,⟨f,h,c⟩,gh _ _⟩
theorem PY (b d:Nat)(f:Y7)(s:Nat)(c:UInt8)(hs:s<4294967296)(w:World)(u:za w b 403 f)(q:JO d f):pr Y3 327 #[.pointer (some ⟨b,0,none⟩),.int .u32 s,.int .u8 (c.toNat:Int)] w λe w' =>
   e=Y0 (.int .u32 (GQ s c:Int))/\(∃cs,za w' b 403 cs/\JO 1 cs)/\w.grownBy w' (some b):=by
 have h:=LF b d f w u q;have C:=c.toNat_lt;have B:(s%256) ^^^ c.toNat<256:=by have:=Nat.xor_lt_two_pow (n:=8) (show s%256<2^8 from by omega) (show c.toNat<2^8 from by omega);simpa using this
 have I:bits .xor .u8 ((s:Int)%256) (c.toNat:Int)=(((s%256) ^^^ c.toNat:Nat):Int):=by have:=u8_xor_nat (s%256) c.toNat (by omega) (by omega);rw[<-this];congr 1
 have j:=Fz s c;generalize A:(s%256) ^^^ c.toNat=x at *;clear A;have G:bits .xor .u32 ((s:Int) / 256) (DO 8 x:Int)=(GQ s c:Int):=by have:=u32_xor_nat (s / 256) (DO 8 x) (by omega) (CM 8 (by omega));rw[j,<-this];congr 1
 clear j
 go_enter func327,ntmps327
 go_wp2_with (go_at_call 360;refine h.mono ?_;clear h;rintro e M ⟨rfl,⟨k,i,h1⟩,z⟩;have F:=(i.cell (4+x)).trans (h1.to rfl x B))
 go_ret;exact⟨rfl,⟨k,i,h1⟩,z⟩
theorem za.kept {W W':World}{row:Option Nat}{g:Nat}{t:oD}{cs:Y7}(h:za W g t cs)(f:W.grownBy W' row)(i:∀r,row=some r->∃o:Obj,W.heap[r]?=some o/\o.isCells=false):za W' g t cs :=
 h.grown f (λe=>by
  obtain⟨o,c,hc⟩:=i g e.symm;rw[h] at c;injection c with c
  subst c
  cases hc)
theorem za.boxed {W:World}{g:Nat}{t:oD}{v:Value}(h:za W g t #[v]):W.cell? ⟨g,0,none⟩=some v:=by rw[h.cell];rfl
theorem za.others {W W':World}{b:Nat}{t:oD}{cs:Y7}(h:za W b t cs)(f:W.grownBy W' (some b)):KeepsOthers W W' :=
 KeepsOthers.of_grownBy f (λj o e c=>by
  injection e with e
  subst e;rw[h] at c;injection c with c
  subst c
  rfl)
end
section
open Go Go.RowKit vA Go.Shelf
attribute [local go_sem] Oper.semAt_some
abbrev xC (w0:World)(n₀:Nat):={x:(Y5×Nat)×Y4 // qq w0 n₀ x.1.1 x.1.2 x.2}
def xC.val {w0:World}{n₀:Nat}(p:xC w0 n₀):Value:=.slice p.1.1.1 p.1.2.length p.1.1.2
def xC.l {w0:World}{n₀:Nat}(p:xC w0 n₀):Y4:=p.1.2
structure Nd (w:World)(B:Nat)(A:Y5)(c:Nat)(ls:List (xC w B)):Prop where
 le:ls.length<=c
 max:c<=9223372036854775807
 rC:0<ls.length->∃g o,A=some ⟨g,o,none⟩/\g<B/\∀j (h:j<ls.length),w.cell? ⟨g,o+j,none⟩=some ls[j].val
section
variable {w0:World}{n₀:Nat}
theorem Mn (n:Nat)(aC:1<=n)(l f b off G:Nat)(zs:List (xC w0 n₀))(aB:zs.length<=9223372036854775807)(T:b<n₀)(J q:List (xC w0 n₀)->World->Prop)
  (S:∀c x W,J c W->c.length<zs.length->YieldAt oS (n-1) Y3 l #[x.val] W λe W' =>
   (e=Y0 (.bool true)/\J (c++[x]) W'/\ph n₀ W W')∨(e=Y0 (.bool false)/\q (c++[x]) W'))
  (W:World) (aA:W.cell? ⟨f,0,none⟩=some (.slice (some ⟨b,off,none⟩) zs.length G)) (hc:∀j (h:j<zs.length),W.cell? ⟨b,off+j,none⟩=some zs[j].val) (I:J [] W) :
  dw oS n Y3 359 #[.func (.yield l) #[] #[],.pointer (some ⟨f,0,none⟩)] W λe W'=>(∃v,e=Y0 v) /\
   ((∃F,F=zs/\J F W')∨(∃c,c <+: zs/\q c W')):=by
 refine dN func359 rfl trivial ?_ rfl;simp only[ntmps359,zR,zL,zY,yJ,yK,qG,qH,qS,qL,zQ,zX]
 gi_wp2
 gi_loopw [7] (λi wr=>∃k:Nat,k<=zs.length/\i=.int .i64 k/\J (zs.take k) wr/\ph n₀ W wr)
  (λi _=>zs.length-(intOf i).toNat)
 case atStart=>exact⟨0,gP _,rfl,by simpa using I,pf _ _⟩
 case round =>
  obtain⟨k,hk,rfl,s,A⟩:=hrel
  by_cases z:k<zs.length
  ·have U:wr.cell? ⟨b,off+k,none⟩=some zs[k].val:=(A.cell (p:=⟨b,off+k,none⟩) T).trans (hc k z);obtain⟨fn,tmps,assign,body,X,O⟩:=S _ zs[k] wr s (by simp;omega);have B:zs.take k++[zs[k]]=zs.take (k+1):=(zU z).symm;have u:=pk B;clear B;have C:zs[k].val=.slice zs[k].1.1.1 zs[k].1.2.length zs[k].1.1.2:=rfl;rw[C] at U X;clear C hc
   gi_wp2
   refine O.mono ?_;rintro e Z (⟨rfl,M,V⟩|⟨rfl,N⟩)
   ·gi_wp2
    go_roundw
    case rel=>exact⟨k+1,by omega,by simp,by rw[<-u.out];exact M,A.trans V⟩
    case measure=>simp[intOf];omega
   ·gi_wp2
    refine oE (dS rfl _ _ _) rfl ?_;exact⟨⟨_,rfl⟩,.inr ⟨_,by rw[u.out];exact List.take_prefix _ _,N⟩⟩
  ·obtain rfl:k=zs.length:=by omega
   gi_wp2
   go_end0;exact⟨⟨_,rfl⟩,.inl ⟨_,dD,s⟩⟩
theorem DJ (n:Nat)(l c:Nat)(A:Y5)(f:Nat)(J:List (xC w0 n₀)->World->Prop)(W:World)(k:W.cell? ⟨c,0,none⟩=some (.slice A 0 f))(h:J [] W):dw oS n Y3 359 #[.func (.yield l) #[] #[],.pointer (some ⟨c,0,none⟩)] W λe W'=>(∃v,e=Y0 v)/\J [] W':=by
 refine dN func359 rfl trivial ?_ rfl;simp only[ntmps359,zR,zL,zY,yJ,yK,qG,qH,qS,qL,zQ,zX]
 gi_wp2
 gi_loopw [7] (λi wr=>i=.int .i64 0/\J [] wr) (λ_ _=>0)
 case atStart=>exact⟨rfl,h⟩
 case round =>
  obtain⟨rfl,j⟩:=hrel
  gi_wp2
  go_end0;exact⟨⟨_,rfl⟩,j⟩
theorem EZ (n:Nat)(a:Y5)(len c:Nat)(w:World):dw oS n Y3 326 #[.slice a len c] w λe w'=>e=Y0 (.func (.func 359) #[] #[.pointer (some ⟨w.heap.size,0,none⟩)])/\w.alloc (.cells #[.slice a len c] 142)=w':=by
 refine dN func326 rfl trivial ?_ rfl;simp only[ntmps326,zR,zL,zY,yJ,yK,qG,qH,qS,qL,zQ,zX]
 gi_wp2
 go_ret;exact⟨rfl,rfl⟩
theorem Mm (n:Nat)(N:1<=n)(f:Nat)(A:Y5)(c:Nat)(zs:List (xC w0 n₀))(h:Nd w0 n₀ A c zs)(w:World)(G:ph n₀ w0 w)(C:f<w.heap.size)(O:n₀<=w.heap.size)
  (hc:w.cell? ⟨f,0,none⟩=some (.slice A zs.length c)) :
  SeqStopsK oS n Y3 359 #[.pointer (some ⟨f,0,none⟩)] (λx:xC w0 n₀=>#[x.val]) (ph n₀) (λT=>T=zs) (λS=>S <+: zs) zs.length w:=λl J B W s _ _ F q=>by
 have u:=(s.cell (p:=⟨f,0,none⟩) C).trans hc;have U:=h.le;have V:=h.max;rcases dp zs.length with k|k
 ·obtain rfl:=qF k;exact(DJ n l f A c J W u q).mono λe W' ⟨M,i⟩=>⟨M,.inl ⟨_,rfl,i⟩⟩
 ·obtain⟨g,o,rfl,z,I⟩:=h.rC k;exact Mn n N l f g o c zs (by omega) z J B F W u (λj i=>((G.trans (s.mono O)).cell z).trans (I j i)) q
end
theorem CC:JO 0 zeroCells403 :=
 ⟨by kernel_rfl,by kernel_rfl,by kernel_rfl,.inl rfl,λ_=>by kernel_rfl,λh=>by omega⟩
theorem uH (n:Nat)(hn:4<=n)(w:World)(A:Y5)(c:Nat)(zs:List (xC w w.heap.size))(hI:Nd w w.heap.size A c zs):dw oS n Y3 291 #[.slice A zs.length c] w λe W'=>e=Y0 (.int .u32 (RA (zs.map xC.l).flatten:Int))/\ph w.heap.size w W':=by
 have h1:1<=n:=by omega
 refine callsIn_of_wp_marks func291 rfl trivial ?_ rfl;simp only[ntmps291,zR,zL,zY,yJ,yK,qG,qH,qS,qL,zQ,zX]
 gi_wp2_with (refine⟨trivial,?_⟩;gi_at_call 326;refine(EZ (n-1) _ _ _ _).mono ?_;rintro e w' ⟨rfl,rfl⟩)
 have b0:za ((((w.alloc (.cells zeroCells403 403)).alloc (.cells #[.pointer (some ⟨w.heap.size,0,none⟩)] 391)).alloc (.cells #[.int .u32 4294967295] 148)).alloc (.cells #[.slice A zs.length c] 142)) w.heap.size 403 zeroCells403:=(((za.new _ _ _).alloc _).alloc _).alloc _;have b1:za ((((w.alloc (.cells zeroCells403 403)).alloc (.cells #[.pointer (some ⟨w.heap.size,0,none⟩)] 391)).alloc (.cells #[.int .u32 4294967295] 148)).alloc (.cells #[.slice A zs.length c] 142)) (w.heap.size+1) 391 #[.pointer (some ⟨w.heap.size,0,none⟩)]:=by
  have:=((za.new (w.alloc (.cells zeroCells403 403)) 391 #[.pointer (some ⟨w.heap.size,0,none⟩)]).alloc (.cells #[.int .u32 4294967295] 148)).alloc (.cells #[.slice A zs.length c] 142)
  rwa [pq] at this
 have b2:za ((((w.alloc (.cells zeroCells403 403)).alloc (.cells #[.pointer (some ⟨w.heap.size,0,none⟩)] 391)).alloc (.cells #[.int .u32 4294967295] 148)).alloc (.cells #[.slice A zs.length c] 142)) (w.heap.size+1+1) 148 #[.int .u32 4294967295]:=by
  have:=(za.new ((w.alloc (.cells zeroCells403 403)).alloc (.cells #[.pointer (some ⟨w.heap.size,0,none⟩)] 391)) 148 #[.int .u32 4294967295]).alloc (.cells #[.slice A zs.length c] 142)
  rwa [pq,pq] at this
 have b3:((((w.alloc (.cells zeroCells403 403)).alloc (.cells #[.pointer (some ⟨w.heap.size,0,none⟩)] 391)).alloc (.cells #[.int .u32 4294967295] 148)).alloc (.cells #[.slice A zs.length c] 142)).cell? ⟨w.heap.size+1+1+1,0,none⟩=some (.slice A zs.length c):=by
  have:=Qy (((w.alloc (.cells zeroCells403 403)).alloc (.cells #[.pointer (some ⟨w.heap.size,0,none⟩)] 391)).alloc (.cells #[.int .u32 4294967295] 148)) (.slice A zs.length c) 142
  rwa [pq,pq,pq] at this
 have U:ph w.heap.size w ((((w.alloc (.cells zeroCells403 403)).alloc (.cells #[.pointer (some ⟨w.heap.size,0,none⟩)] 391)).alloc (.cells #[.int .u32 4294967295] 148)).alloc (.cells #[.slice A zs.length c] 142)) :=
  ((((pf _ w).alloc (zG _) _).alloc (by simp) _).alloc (by simp;omega) _).alloc (by simp;omega) _
 have aO:((((w.alloc (.cells zeroCells403 403)).alloc (.cells #[.pointer (some ⟨w.heap.size,0,none⟩)] 391)).alloc (.cells #[.int .u32 4294967295] 148)).alloc (.cells #[.slice A zs.length c] 142)).heap.size=w.heap.size+4:=by simp
 generalize aF:((((w.alloc (.cells zeroCells403 403)).alloc (.cells #[.pointer (some ⟨w.heap.size,0,none⟩)] 391)).alloc (.cells #[.int .u32 4294967295] 148)).alloc (.cells #[.slice A zs.length c] 142))=W0 at *;clear aF;refine wpIn_rangeFunc_ownG rfl h1 (gf:=359) (lb:=#[.pointer (some ⟨w.heap.size+1+1+1,0,none⟩)]) rfl trivial (enters_of func359 (by kernel_rfl) rfl)
  (Mm (n-1) (by omega) (w.heap.size+1+1+1) A c zs hI W0 U (by omega) (by omega) b3) belowK_t (belowK_b (by omega)) (pf _ _) (λ_=>rfl)
  (λf W=>((∃d cs,za W w.heap.size 403 cs/\JO d cs)/\za W (w.heap.size+1) 391 #[.pointer (some ⟨w.heap.size,0,none⟩)]/\za W (w.heap.size+1+1) 148 #[.int .u32 (JY 4294967295 (f.map xC.l).flatten:Int)])/\ph w.heap.size w W)
  (λ_ _ _=>False)
  (OwnFrom.and (Own.from (λs A B row hs u O=>⟨by obtain⟨d,cs,h1,h2⟩:=hs.1;exact⟨d,cs,h1.kept u O,h2⟩,hs.2.1.kept u O,hs.2.2.kept u O⟩) _) (ownFrom_below (zG _) (by omega)))
  (λ_ _ _ _ _ hs _ _=>hs)
  ⟨⟨⟨0,_,b0,CC⟩,b1,b2⟩,U⟩
  (λx => {tmps:=#[.slice A zs.length c,ou,.int .u32 0,.pointer (some ⟨w.heap.size+1,0,none⟩),.pointer (some ⟨w.heap.size+1+1,0,none⟩),.slice x.1.1.1 x.1.2.length x.1.1.2,ou,ou,.agg zeroCells403,.pointer (some ⟨w.heap.size,0,none⟩),.slice A zs.length c,.func (.func 359) #[] #[.pointer (some ⟨w.heap.size+1+1+1,0,none⟩)],.slice x.1.1.1 x.1.2.length x.1.1.2,ou,ou,ou,ou,ou,ou,ou,ou,ou,ou,ou,ou,ou],defers:=[]}) ?assign ?body ?done ?stop
 case assign =>
  intro l x W K C;have hv:x.val=.slice x.1.1.1 x.1.2.length x.1.1.2:=rfl;dsimp only[hv]
  gi_wp2
  exact C
 case body =>
  rintro l f x W ⟨⟨⟨d,cs,q,F⟩,hP,j⟩,hB⟩ _;have S:=x.2;have aP:=S.le;have aQ:=S.max;have aJ:1<=n-1-1:=by omega
  have hF:(f++[x]).map xC.l=f.map xC.l++[x.1.2]:=by simp[xC.l]
  have V:JY 4294967295 ((f++[x]).map xC.l).flatten=JY (JY 4294967295 (f.map xC.l).flatten) x.1.2:=by rw[hF,yF,Vn];simp
  have I:=Mz (s:=4294967295) (by omega) (f.map xC.l).flatten;have HF:=pk V;clear hF V;generalize JY 4294967295 (f.map xC.l).flatten=M at *
  gi_wp2_with fail
  gi_loopw [15] (λi wr=>∃k:Nat,k<=x.1.2.length/\i=.int .i64 k/\(∃d cs,za wr w.heap.size 403 cs/\JO d cs)/\za wr (w.heap.size+1) 391 #[.pointer (some ⟨w.heap.size,0,none⟩)]/\za wr (w.heap.size+1+1) 148 #[.int .u32 (JY M (x.1.2.take k):Int)]/\ph w.heap.size W wr/\KeepsOthers W wr)
   (λi _=>x.1.2.length-(intOf i).toNat)
  case atStart=>exact⟨0,by omega,rfl,⟨d,cs,q,F⟩,hP,j,pf _ _,KeepsOthers.refl _⟩
  case round =>
   obtain⟨k,Z,rfl,⟨d,cs,q,F⟩,hP,j,z,X⟩:=hrel
   by_cases aA:k<x.1.2.length
   ·obtain⟨g,o,T,u,hc⟩:=S.rC (by omega);have aM:wr.cell? ⟨g,o+k,none⟩=some (.int .u8 (x.1.2[k].toNat:Int)):=((hB.trans z).cell (p:=⟨g,o+k,none⟩) u).trans (hc k aA);have aI:=Mz I (x.1.2.take k);have aB:JY M (x.1.2.take (k+1))=GQ (JY M (x.1.2.take k)) x.1.2[k]:=by rw[zU aA,Vn];rfl
    have HN:=pk aB;clear aB hc I;generalize JY M (x.1.2.take k)=sk at *;have aK:=hP.boxed;have aH:=j.boxed;rw[T];clear T
    gi_wp2_with (refine⟨trivial,?_⟩;gi_at_call 327;refine(CallsIn.inRound l (callsIn_wide.2 (PY w.heap.size d cs sk x.1.2[k] aI _ q F))).mono ?_;rintro e w' ⟨rfl,⟨aC,aG,h1⟩,G⟩;have N:=j.grown G (by simp;omega);have aE:=hP.grown G (by simp);have aL:=N.boxed;have aN:=N.free 0)
    have aD:ph w.heap.size wr w':=(pf _ _).grown G (by have:=q.lt;omega) (λk Z=>by cases Z;exact zG _);refine⟨⟨k+1,by omega,by go_num,⟨1,aC,aG.other (by simp;omega) _,h1⟩,aE.other (by simp) _,?_,(z.trans aD).setCell (p:=⟨w.heap.size+1+1,0,none⟩) (by simp;omega) _,(X.trans (q.others G)).trans (KeepsOthers.setCell _ _ _)⟩,by simp[intOf];omega⟩;rw[HN.out];exact N.set 0 _
   ·obtain rfl:k=x.1.2.length:=by omega
    gi_wp2_with fail
    rw[dD] at j;refine⟨X.from _,z,⟨⟨⟨d,cs,q,F⟩,hP,?_⟩,hB.trans z⟩⟩;rw[HF.out];exact j
 case done =>
  rintro D ys W hD rfl ⟨⟨q,hP,j⟩,hB⟩ C;have aH:=j.boxed;have I:=Mz (s:=4294967295) (by omega) (ys.map xC.l).flatten;have hinv:=Bu I
  gi_wp2
  refine⟨by simp,.inl ⟨_,_,rfl,run_takeDeferred C,?_⟩⟩;exact⟨_,results_tmp rfl _ _ _,rfl,hB.trans (belowK_b (w:=w) (zG _) W D _ _ (by omega) C rfl rfl)⟩
 case stop =>
  rintro D c f W _ _ h _;exact h.elim
theorem Dz (w:World)(A:Y5)(c:Nat)(zs:List (xC w w.heap.size))(f:Nd w w.heap.size A c zs):pr Y3 291 #[.slice A zs.length c] w λe W'=>e=Y0 (.int .u32 (RA (zs.map xC.l).flatten:Int))/\ph w.heap.size w W' :=
 callsIn_wide.1 (uH 4 (zG _) w A c zs f)
theorem PX (W:World)(A:Y5)(c:Nat)(l:Y4)(h:qq W W.heap.size A c l):pr Y3 291 #[.slice (some ⟨W.heap.size,0,none⟩) 1 1] (W.alloc (.cells #[.slice A l.length c] 129)) λe W'=>e=Y0 (.int .u32 (RA l:Int))/\ph W.heap.size W W':=by
 have f:ph W.heap.size W (W.alloc (.cells #[.slice A l.length c] 129)):=(pf _ _).alloc (zG _) _;have h1:qq (W.alloc (.cells #[.slice A l.length c] 129)) (W.alloc (.cells #[.slice A l.length c] 129)).heap.size A c l:=(h.below f).more (by simp)
 have H:=Dz (W.alloc (.cells #[.slice A l.length c] 129)) (some ⟨W.heap.size,0,none⟩) 1 [⟨((A,c),l),h1⟩] ⟨by simp,by omega,λ_=>⟨W.heap.size,0,rfl,by simp,λj i=>by
  obtain rfl:j=0:=by simpa using i
  exact Qy _ _ _⟩⟩
 refine H.mono ?_;rintro e W' ⟨rfl,hB⟩;exact⟨by simp[xC.l],f.trans (hB.mono (by simp))⟩
theorem PW (W:World)(A f:Y5)(c c2:Nat)(l l2:Y4)(k:qq W W.heap.size A c l)(q:qq W W.heap.size f c2 l2):pr Y3 291 #[.slice (some ⟨W.heap.size,0,none⟩) 2 2] (W.alloc (.cells #[.slice A l.length c,.slice f l2.length c2] 129)) λe W'=>e=Y0 (.int .u32 (RA (l++l2):Int))/\ph W.heap.size W W':=by
 have h:ph W.heap.size W (W.alloc (.cells #[.slice A l.length c,.slice f l2.length c2] 129)):=(pf _ _).alloc (zG _) _;have h1:qq (W.alloc (.cells #[.slice A l.length c,.slice f l2.length c2] 129)) (W.alloc (.cells #[.slice A l.length c,.slice f l2.length c2] 129)).heap.size A c l:=(k.below h).more (by simp);have h2:qq (W.alloc (.cells #[.slice A l.length c,.slice f l2.length c2] 129)) (W.alloc (.cells #[.slice A l.length c,.slice f l2.length c2] 129)).heap.size f c2 l2:=(q.below h).more (by simp);have i:=za.new W 129 #[.slice A l.length c,.slice f l2.length c2]
 have H:=Dz (W.alloc (.cells #[.slice A l.length c,.slice f l2.length c2] 129)) (some ⟨W.heap.size,0,none⟩) 2 [⟨((A,c),l),h1⟩,⟨((f,c2),l2),h2⟩] ⟨by simp,by omega,λ_=>⟨W.heap.size,0,rfl,by simp,λj s=>by
  rw[i.cell];rcases(show j=0∨j=1 from by simp at s;omega) with rfl|rfl
  ·rfl
  ·rfl⟩⟩
 refine H.mono ?_;rintro e W' ⟨rfl,hB⟩;exact⟨by simp[xC.l],h.trans (hB.mono (by simp))⟩
end
section
open Go Go.RowKit vA
theorem za.setRow {w:World}{g:Nat}{t:oD}{cs:Y7}(h:za w g t cs)(cs':Y7):za (w.setRow g cs') g t cs':=setRow_heap w g cs cs' t (0,0) h
theorem za.rB {w:World}{g k:Nat}{t:oD}{cs:Y7}(h:za w g t cs)(c:g≠k)(cs':Y7):za (w.setRow k cs') g t cs:=(oL w k g cs' c).trans h
theorem zf {B:Nat}{w0 w:World}(c:ph B w0 w){g:Nat}(e:B<=g)(cs:Y7):ph B w0 (w.setRow g cs) :=
 c.trans ⟨rfl,rfl,rfl,by simp[World.setRow],λk f=>oL w g k cs (by omega)⟩
def yv (l:Y4)(o n:Nat)(src:Y4):Y4:=l.take o++src.take n++l.drop (o+min src.length n)
theorem MV {w:World}{g o:Nat}{l src:Y4}{A:Y5}{c B f dCap:Nat}(ty:oD){T:oD}(h:za w g T (l.map b8).toArray)(z:qq w B A c src)(S:o+f<=l.length):(Builtin.copy_ #[129,129] ty #[.slice (some ⟨g,o,none⟩) f dCap,.slice A src.length c]).run Y3 w=.ok (.int .i64 ((min src.length f:Nat):Int)) (w.setRow g ((yv l o f src).map b8).toArray):=by
 obtain⟨Z,u,V,O,X⟩:=nK Yj;have hs:(Y3.info? 5).map (·.size)=some 1:=by rw[u];simp[O]
 rcases dp src.length with k|k
 ·obtain rfl:=qF k;have e:yv l o f []=l:=by simp[yv]
  rw[e,setRow_self w g _ _ _ h];rcases A with _|F
  ·obtain rfl:=z.nil rfl;have:=run_copy_nil (P:=Y3) w 129 129 ty 5 ⟨g,o,none⟩ f dCap underlying129 (by rw[u];rfl);simpa[goInt] using this
  ·have:=run_copy_row (P:=Y3) w 129 129 ty 5 g o f dCap F 0 c _ _ [] underlying129 hs h (by simp) (by simp) (by simp;omega) (by simp);have G:((l.map b8).toArray.toList.take o++[]++(l.map b8).toArray.toList.drop (o+([]:Y8).length)).toArray=(l.map b8).toArray:=by simp
   rw[G,setRow_self w g _ _ _ h] at this;simpa[goInt] using this
 ·obtain⟨i,s,rfl,U,hc⟩:=z.rC k;have:=run_copy_row (P:=Y3) w 129 129 ty 5 g o f dCap ⟨i,s,none⟩ src.length c _ _ ((src.take f).map b8) underlying129 hs h (by simp[Nat.min_comm]) ?_ (by simp;omega) (λv N=>by obtain⟨x,_,rfl⟩:=qP.1 N;rfl)
  ·rw[this];simp[goInt,yv,Nat.min_comm,List.map_take,List.map_drop]
  ·intro j v q;have C:j<(src.take f).length:=by have:=(qQ.1 q).1;simpa using this
   have M:j<src.length:=by simp at C;omega
   have I:(⟨i,s,none⟩:px).add j=⟨i,s+j,none⟩:=by cases j<;>simp[Addr.add]
   rw[I,hc j M];rw[List.getElem?_map,zM C,List.getElem_take] at q;simpa[b8] using q
section
variable {w:World}{ops:Array oM}{rest:List oM}{o:oM}{a:oy}{Q:nF->oy->World->Prop}
theorem Je {K:oy->World->Prop}(d s:py)(k:o.op=.call {callee:=.builtin .copy,args:=#[d,s],argTypes:=#[129,129]})
  (g off:Nat) (l src:Y4) (A:Y5) (c B e dCap:Nat) (hd:a.eval d=.slice (some ⟨g,off,none⟩) e dCap) (hs:a.eval s=.slice A src.length c)
  {T:oD} (f:za w g T (l.map b8).toArray) (j:qq w B A c src) (i:off+e<=l.length)
  (h:K (a.put o.dst (.int .i64 ((min src.length e:Nat):Int))) (w.setRow g ((yv l off e src).map b8).toArray)):o.wp Y3 a w K Q:=by
 have q:=MV (dCap:=dCap) o.type f j i;unfold de oB;simp only[k,resolve,invoke,builtin,oY,oU,oO,zI,zJ,zN,hd,hs,q];exact h
theorem Fg (k:o.guard=none)(d s:py)(u:o.op=.call {callee:=.builtin .copy,args:=#[d,s],argTypes:=#[129,129]})
  (g off:Nat) (l src:Y4) (A:Y5) (c B e dCap:Nat) (hd:a.eval d=.slice (some ⟨g,off,none⟩) e dCap) (hs:a.eval s=.slice A src.length c)
  {T:oD} (i:za w g T (l.map b8).toArray) (q:qq w B A c src) (j:off+e<=l.length)
  (h:df Y3 ops Q rest (a.put o.dst (.int .i64 ((min src.length e:Nat):Int))) (w.setRow g ((yv l off e src).map b8).toArray)):df Y3 ops Q (o::rest) a w :=
 gw k λ_ f=>Je d s u g off l src A c B e dCap hd hs i q j (f _ _ h)
end
theorem yZ.blk {w:World}{base g:Nat}{l:Y4}(h:yZ w base (.slice (some ⟨g,0,none⟩) l.length l.length) l):za w g 5 (l.map b8).toArray/\base<=g:=by
 rcases h.2 with⟨h1,_⟩|⟨g',cap,cur,hv,hb,hg,hle,_,hs,ht⟩
 ·cases h1
 ·injection hv with e1 e2 e3
  injection e1 with e1
  injection e1 with e1 _ _
  subst e1 e3;refine⟨?_,hb⟩;have e:cur.toList=l.map b8:=by rw[<-ht,qB];simp;omega
  have c:cur=(l.map b8).toArray:=by rw[<-e]
  unfold za;rw[hg,c]
theorem yZ.later {w w':World}{base:Nat}{v:Value}{l:Y4}(h:yZ w base v l)(hB:ph w.heap.size w w'):yZ w' base v l:=by
 refine⟨h.1,?_⟩;rcases h.2 with h|⟨g,e,cur,h1,h2,c,f⟩
 ·exact .inl h
 ·exact .inr ⟨g,e,cur,h1,h2,(hB.block g (zK.1 c).1).trans c,f⟩
theorem yZ.sL {w:World}{base:Nat}{v:Value}{l:Y4}(h:yZ w base v l):∀r,v.ownBlock=some r->base<=r:=by
 intro r c;rcases h.form with⟨rfl,_⟩|⟨g,cap,rfl,hb,_⟩
 ·cases c
 ·injection c with c
  subst c;exact hb
theorem zl {w w':World}{B:Nat}{row:Option Nat}(c:w.grownBy w' row)(hB:B<=w.heap.size)(f:∀r,row=some r->B<=r):ph B w w' :=
 ⟨c.os,c.tape,c.output,c.size,λk h=>c.block k (by omega) (λe=>by have:=f k e.symm;omega)⟩
section
variable {w:World}{ops:Array oM}{o:oM}{a:oy}{K:oy->World->Prop}{Q:nF->oy->World->Prop}{E:Prop}
theorem GK (j:o.guard=none)(d s:py)(q:o.op=.call {callee:=.builtin .copy,args:=#[d,s],argTypes:=#[129,129]})
  (g off:Nat) (l src:Y4) (A:Y5) (c B e dCap:Nat) (hd:a.eval d=.slice (some ⟨g,off,none⟩) e dCap) (hs:a.eval s=.slice A src.length c)
  {T:oD} (f:za w g T (l.map b8).toArray) (k:qq w B A c src) (i:off+e<=l.length)
  (h:K (a.put o.dst (.int .i64 ((min src.length e:Nat):Int))) (w.setRow g ((yv l off e src).map b8).toArray)) :
  if og o (mR ops a.tmps)=true then de Y3 o a w K Q else E:=by
 have u:og o (mR ops a.tmps)=true:=by simp[og,j]
 rw[if_pos u];exact Je d s q g off l src A c B e dCap hd hs f k i h
end
theorem za.range {w:World}{g:Nat}{t:oD}{cs:Y7}(h:za w g t cs):w.rangeAt g 0 cs.toList:=λj v c=>by
 rw[qC,h.cell];simpa using c
structure yx (P:oV)(T:oD)(n:Nat):Prop where
 desc:∃d,P.underlying T=some d/\d.isRow=true
 size:(P.info? T).map (·.size)=some n
theorem Qi {P:oV}{w:World}{g:Nat}{T t:oD}{cs:Y7}(c:yx P T cs.size)(e:za w g t cs):(loadVar T ⟨g,0,none⟩).run P w=.ok (.agg cs) w:=by
 obtain⟨d,hu,hd⟩:=c.desc;have:=run_loadVar_mid (P:=P) w g 0 T cs.toList d e.range hu hd (by simpa using c.size);simpa using this
theorem Qt {P:oV}{w:World}{g:Nat}{T t:oD}{cs cs':Y7}(f:yx P T cs.size)(j:za w g t cs)(hs:cs'.size=cs.size)(h1:∀v∈cs'.toList,v.oneCell'=true):(storeVar T ⟨g,0,none⟩ (.agg cs')).run P w=.ok () (w.setRow g cs'):=by
 have h:=run_storeCells_at (P:=P) g 0 t cs'.toList 0 cs w j (by simp;omega) h1;have e:(cs.toList.take (0+0)++cs'.toList++cs.toList.drop (0+0+cs'.toList.length)).toArray=cs':=by simp[List.drop_of_length_le,hs]
 rw[e] at h;have c:=f.size;cases hq:P.info? T with
 | none=>simp[hq] at c
 | some i =>
  have k:cs'.size=i.size:=by simp[hq] at c;omega
  simp[storeVar,sizeOf,typeInfo,hq,Value.cells,k,h]
section
variable {P:oV}{w:World}{ops:Array oM}{rest:List oM}{o:oM}{a:oy}{Q:nF->oy->World->Prop}
theorem LD {K:oy->World->Prop}(T:oD)(x:py)(f:o.op=.load T x)(g:Nat){t:oD}{cs:Y7}(i:a.eval x=.pointer (some ⟨g,0,none⟩)){n:Nat}(c:yx P T n)(e:za w g t cs)(hn:cs.size=n)
  (h:K (a.put o.dst (.agg cs)) w):o.wp P a w K Q:=by
 unfold de oB;simp only[f,i,Instr.loadAt,gH,oY,oU,oO,Qi (hn▸c) e];exact h
theorem Ss {K:oy->World->Prop}(T:oD)(x y:py)(f:o.op=.store T x y)(g:Nat){t:oD}{cs cs':Y7}(i:a.eval x=.pointer (some ⟨g,0,none⟩))(j:a.eval y=.agg cs'){n:Nat}(c:yx P T n)(e:za w g t cs)(hn:cs.size=n)
  (hs:cs'.size=cs.size) (h1:∀v∈cs'.toList,v.oneCell'=true) (h:K (a.put o.dst ou) (w.setRow g cs')):o.wp P a w K Q:=by
 unfold de oB;simp only[f,i,j,Instr.storeAt,gH,oY,oU,oO,Qt (hn▸c) e hs h1];exact h
theorem yV (i:o.guard=none)(T:oD)(x:py)(j:o.op=.load T x)(g:Nat){t:oD}{cs:Y7}(k:a.eval x=.pointer (some ⟨g,0,none⟩)){n:Nat}(e:yx P T n)(f:za w g t cs)(hn:cs.size=n)
  (h:df P ops Q rest (a.put o.dst (.agg cs)) w):df P ops Q (o::rest) a w :=
 gw i λ_ c=>LD T x j g k e f hn (c _ _ h)
theorem zt (i:o.guard=none)(T:oD)(x y:py)(j:o.op=.store T x y)(g:Nat){t:oD}{cs cs':Y7}(k:a.eval x=.pointer (some ⟨g,0,none⟩))(q:a.eval y=.agg cs'){n:Nat}(e:yx P T n)(f:za w g t cs)(hn:cs.size=n)
  (hs:cs'.size=cs.size) (h1:∀v∈cs'.toList,v.oneCell'=true) (h:df P ops Q rest (a.put o.dst ou) (w.setRow g cs')):df P ops Q (o::rest) a w :=
 gw i λ_ c=>Ss T x y j g k q e f hn hs h1 (c _ _ h)
theorem vW {T:oD}{x y:py}{g:Nat}{t:oD}{cs cs':Y7}{n:Nat}(c:yx P T n)(e:za w g t cs)(hs:cs'.size=cs.size)(h1:∀v∈cs'.toList,v.oneCell'=true)(h:df P ops Q rest (a.put o.dst ou) (w.setRow g cs'))(f:o.guard=none:=by rfl)(i:o.op=.store T x y:=by rfl)(j:a.eval x=.pointer (some ⟨g,0,none⟩):=by rfl)(k:a.eval y=.agg cs':=by rfl)(hn:cs.size=n:=by rfl):df P ops Q (o::rest) a w :=
 zt f T x y i g j k c e hn hs h1 h
theorem xA {T:oD}{x:py}{g:Nat}{t:oD}{cs:Y7}{n:Nat}(c:yx P T n)(e:za w g t cs)(h:df P ops Q rest (a.put o.dst (.agg cs)) w)(f:o.guard=none:=by rfl)(i:o.op=.load T x:=by rfl)(j:a.eval x=.pointer (some ⟨g,0,none⟩):=by rfl)(hn:cs.size=n:=by rfl):df P ops Q (o::rest) a w :=
 yV f T x i g j c e hn h
end
theorem yM {fn:Func}{P:oV}{a:oy}{w:World}{g:Nat}{T t:oD}{cs:Y7}(k:mr)(h:fn.results=#[.cell k T])(i:a.eval (.tmp k)=.pointer (some ⟨g,0,none⟩)){n:Nat}(c:yx P T n)(f:za w g t cs)(hn:cs.size=n):(gL fn a.tmps).run P w=.ok (.agg cs) w:=by
 have e:a.tmps.getD k ou=.pointer (some ⟨g,0,none⟩):=i;unfold gL;simp only[h];simp[-zV,e,asAddr,Qi (hn▸c) f]
theorem vi {fn:Func}{P:oV}{a:oy}{w:World}{g:Nat}{T t:oD}{cs:Y7}{v:Value}(k m:mr)(h:fn.results=#[.cell k T,.tmp m])(j:a.eval (.tmp k)=.pointer (some ⟨g,0,none⟩))(q:a.eval (.tmp m)=v){n:Nat}(f:yx P T n)(i:za w g t cs)(hn:cs.size=n):(gL fn a.tmps).run P w=.ok (.tuple #[.agg cs,v]) w:=by
 have e:a.tmps.getD k ou=.pointer (some ⟨g,0,none⟩):=j;have c:a.tmps.getD m ou=v:=q;unfold gL;simp only[h];simp[-zV,e,c,asAddr,Qi (hn▸f) i,pv]
theorem Zb (l:Y4):∀v∈(l.map b8).toArray.toList,v.oneCell'=true:=by
 intro v c;simp at c;obtain⟨x,_,rfl⟩:=c;rfl
theorem jj:yx Y3 317 64:=⟨⟨_,underlying317,rfl⟩,by kernel_rfl⟩
theorem yw:yx Y3 173 4:=⟨⟨_,underlying173,rfl⟩,by kernel_rfl⟩
structure yp (w:World)(B sz:Nat)(A:Y5)(n c:Nat)(cs:Y8):Prop where
 le:n<=c
 max:c<=9223372036854775807
 nil:A=none->c=0
 len:cs.length=n*sz
 one:∀v∈cs,v.oneCell'=true
 rC:0<n->∃g o,A=some ⟨g,o,none⟩/\g<B/\w.rangeAt g o cs
theorem yp.rE {w w':World}{B sz:Nat}{A:Y5}{n c:Nat}{cs:Y8}(h:yp w B sz A n c cs)(k:∀p:px,p.block<B->w'.cell? p=w.cell? p):yp w' B sz A n c cs :=
 ⟨h.le,h.max,h.nil,h.len,h.one,λhl=>by
  obtain⟨g,o,f,e,hc⟩:=h.rC hl
  exact⟨g,o,f,e,λj v i=>(k _ e).trans (hc j v i)⟩⟩
theorem yp.below {w w':World}{B sz:Nat}{A:Y5}{n c:Nat}{cs:Y8}(h:yp w B sz A n c cs)(e:ph B w w'):yp w' B sz A n c cs:=h.rE λ_ f=>e.cell f
theorem yp.more {w:World}{B e sz:Nat}{A:Y5}{n c:Nat}{cs:Y8}(h:yp w B sz A n c cs)(hB:B<=e):yp w e sz A n c cs :=
 ⟨h.le,h.max,h.nil,h.len,h.one,λhl=>by
  obtain⟨g,o,f,i,hc⟩:=h.rC hl
  exact⟨g,o,f,by omega,hc⟩⟩
theorem yp.grow {w w':World}{sz:Nat}{A:Y5}{n c:Nat}{cs:Y8}(h:yp w w.heap.size sz A n c cs)(e:ph w.heap.size w w'):yp w' w'.heap.size sz A n c cs:=(h.below e).more e.size
theorem yp.mt (w:World)(B sz:Nat):yp w B sz none 0 0 []:=⟨zG _,by omega,λ_=>rfl,by simp,(λv h=>by cases h),λh=>by omega⟩
theorem yp.take {w:World}{B sz:Nat}{A:Y5}{n c:Nat}{cs:Y8}(h:yp w B sz A n c cs)(k c':Nat)(s:k<=n)(hc:k<=c')(i:c'<=c):yp w B sz A k c' (cs.take (k*sz)) :=
 ⟨hc,zT i h.max,λe=>by have:=h.nil e;omega,by rw[zZ,h.len];exact mK (nC _ s),λv x=>h.one v (yI x),λz=>by
  obtain⟨g,o,e,q,u⟩:=h.rC (by omega);refine⟨g,o,e,q,λj v f=>u j v ?_⟩;rw[yH] at f;split at f
  ·exact f
  ·cases f⟩
theorem yp.elem {w:World}{B sz g o:Nat}{n c:Nat}{cs:Y8}(h:yp w B sz (some ⟨g,o,none⟩) n c cs)(j:Nat)(u:j<n):w.rangeAt g (o+j*sz) ((cs.drop (j*sz)).take sz):=by
 obtain⟨q,o',e,s,k⟩:=h.rC (by omega);injection e with e
 injection e with e1 e2
 subst e1 e2;intro i v f;rw[yH] at f;split at f
 ·rw[dL] at f;rw[dq];exact k _ v f
 ·cases f
theorem qn {w:World}{base:Nat}{T:oD}{sz:Nat}{v:Value}{n:Nat}{cs:Y8}(h:w.ownsRow base T sz v n cs)(h1:∀v∈cs,v.oneCell'=true):∃A c,v=.slice A n c/\yp w w.heap.size sz A n c cs:=by
 rcases h.2 with⟨e1,e2⟩|⟨g,cap,cur,hv,hb,hg,hle,hm,hs,ht⟩
 ·subst e2;exact⟨none,0,e1,zG _,by omega,λ_=>rfl,h.1,h1,λh=>by omega⟩
 ·refine⟨_,cap,hv,hle,by unfold oo at hm;omega,(λe=>by cases e),h.1,h1,λ_=>⟨g,0,rfl,(zK.1 hg).1,λj u f => ?_⟩⟩;rw[qC,cell_of_row w g j cur _ (0,0) hg];rw[<-ht,yH] at f;split at f
  ·simpa using f
  ·cases f
theorem zh {w:World}{base:Nat}{T:oD}{sz:Nat}{v:Value}{n:Nat}{cs:Y8}(h:w.ownsRow base T sz v n cs):∀r,v.ownBlock=some r->base<=r:=by
 intro r c;rcases h.2 with⟨rfl,_⟩|⟨g,cap,cur,rfl,hb,_⟩
 ·cases c
 ·injection c with c
  subst c;exact hb
theorem kJ {w:World}{base:Nat}{T:oD}{sz:Nat}{v:Value}{n:Nat}{cs:Y8}(h:w.ownsRow base T sz v n cs):∀r,v.ownBlock=some r->r<w.heap.size:=by
 intro r c;rcases h.2 with⟨rfl,_⟩|⟨g,cap,cur,rfl,hb,hg,_⟩
 ·cases c
 ·injection c with c
  subst c;exact(zK.1 hg).1
theorem ql {w w':World}{base:Nat}{T:oD}{sz:Nat}{v:Value}{n:Nat}{cs:Y8}(h:w.ownsRow base T sz v n cs)(hB:∀r,v.ownBlock=some r->w'.heap[r]?=w.heap[r]?):w'.ownsRow base T sz v n cs:=by
 refine⟨h.1,?_⟩;rcases h.2 with h|⟨g,c,cur,h1,h2,e,f⟩
 ·exact .inl h
 ·exact .inr ⟨g,c,cur,h1,h2,(hB g (by rw[h1];rfl)).trans e,f⟩
theorem qw {w w':World}{base:Nat}{T:oD}{sz:Nat}{v:Value}{n:Nat}{cs:Y8}(h:w.ownsRow base T sz v n cs)(hB:ph w.heap.size w w'):w'.ownsRow base T sz v n cs :=
 ql h λr c=>hB.block r (kJ h r c)
theorem yS {w:World}{b c:Nat}{T:oD}{sz:Nat}{v:Value}{n:Nat}{cs:Y8}(h:w.ownsRow b T sz v n cs)(i:c<=b):w.ownsRow c T sz v n cs:=by
 refine⟨h.1,?_⟩;rcases h.2 with h|⟨g,e,cur,h1,h2,f⟩
 ·exact .inl h
 ·exact .inr ⟨g,e,cur,h1,by omega,f⟩
structure Zj (S T:oD)(sz by_:Nat)(z:Value):Prop where
 rX:Y3.underlying S=some (.slice T)
 inf:(Y3.info? T).map (λi=>(i.zero,i.size,i.bytes))=some (some z,sz,by_)
 zs:z.cells.size=sz
 pos:0<sz
section
variable {w:World}{ops:Array oM}{rest:List oM}{o:oM}{a:oy}{Q:nF->oy->World->Prop}
theorem xy (I:o.guard=none){S T:oD}{sz C:Nat}{z:Value}(i:Zj S T sz C z)(s x:py)(N:o.op=.call {callee:=.builtin .append,args:=#[s,x],argTypes:=#[S,S]})
  (base:Nat) (v:Value) (n:Nat) (cs:Y8) (hs:a.eval s=v) (G:w.ownsRow base T sz v n cs) (B:Nat) (A:Y5) (m c:Nat) (f:Y8) (O:a.eval x=.slice A m c) (e:yp w B sz A m c f)
  (hm:n+m<=oo) (Z:(n+m)*C<=140737488355328) (X:base<=w.heap.size)
  (h:∀k w',w'.ownsRow base T sz k (n+m) (cs++f)->w.grownBy w' v.ownBlock->df Y3 ops Q rest (a.put o.dst k) w'):df Y3 ops Q (o::rest) a w:=by
 obtain⟨U,M,aF,aG,aH⟩:=nK i.inf;have aI:=e.le;rcases A with _|q
 ·have aA:=e.nil rfl;obtain rfl:m=0:=by omega
  obtain rfl:f=[]:=qF (by rw[e.len];omega);subst aA;refine wpList_append_own_none (w:=w) I s x _ N base _ U sz i.rX M v n cs hs G O ?_;exact h v w (by rw[yE];exact G) (gh _ _)
 ·have aD:∀j u,f[j]?=some u->w.cell? (q.add j)=some u:=by
   intro j u hu;have aC:0<m:=by
    rcases dp m with F|F
    ·subst F;have:=e.len;obtain rfl:f=[]:=qF (by omega);simp at hu
    ·exact F
   obtain⟨g,o',V,_,hr⟩:=e.rC aC;obtain rfl:q=⟨g,o',none⟩:=by simpa using V
   rw[Addr.add_mid];exact hr j u hu
  refine gv w I s x _ N base _ U z sz C i.rX M aF aG aH i.zs i.pos v n cs hs G q m c f O e.len aD e.one hm Z X ?_;intro k w' aE aB _;exact h k w' aE aB
theorem yX {P:oV}{ρ:py->Value}{T:oD}{k g off:Nat}{cs:Y8}{x:py}(c:yx P T k)(h:w.rangeAt g off cs)(e:cs.length=k)(f:o.op=.load T x)(i:ρ x=.pointer (some ⟨g,off,none⟩)):(oB ρ o).run P w=.ok (.value (.agg cs.toArray)) w:=by
 obtain⟨d,hu,hd⟩:=c.desc;have:=run_loadVar_mid (P:=P) w g off T cs d h hu hd (by rw[c.size,e]);simp only[oB,f,i,Instr.loadAt,gH,oY,oU,oO,this]
end
theorem za.sa {w:World}{g:Nat}{t:oD}{cs:Y7}(h:za w g t cs)(k:Nat){n:Nat}:w.rangeAt g k ((cs.toList.drop k).take n):=λj v c=>by
 rw[yH] at c;split at c
 ·rw[dL] at c;rw[h.cell];simpa using c
 ·cases c
theorem GV {w:World}(ty:oD){S T:oD}{sz s:Nat}{z:Value}(h:Zj S T sz s z)(base:Nat)(v:Value)(n:Nat)(cs:Y8)(C:w.ownsRow base T sz v n cs)(B:Nat)(A:Y5)(m c:Nat)(f:Y8)(e:yp w B sz A m c f)
  (V:n+m<=oo) (O:(n+m)*s<=140737488355328) (N:base<=w.heap.size) :
  ∃k w',(Builtin.append_ #[S,S] ty #[v,.slice A m c]).run Y3 w=.ok k w'/\w'.ownsRow base T sz k (n+m) (cs++f)/\w.grownBy w' v.ownBlock:=by
 obtain⟨G,F,aA,aB,aC⟩:=nK h.inf;have aD:=e.le;rcases A with _|q
 ·have U:=e.nil rfl;obtain rfl:m=0:=by omega
  obtain rfl:f=[]:=qF (by rw[e.len];omega);subst U;have i:=run_append_owned_none (P:=Y3) w base S ty T G sz h.rX F v n cs C;exact⟨v,w,i,by rw[yE];exact C,gh _ _⟩
 ·have Z:∀j u,f[j]?=some u->w.cell? (q.add j)=some u:=by
   intro j u hu;have X:0<m:=by
    rcases dp m with x|x
    ·subst x;have:=e.len;obtain rfl:f=[]:=qF (by omega);simp at hu
    ·exact x
   obtain⟨g,o',M,_,i⟩:=e.rC X;obtain rfl:q=⟨g,o',none⟩:=by simpa using M
   rw[Addr.add_mid];exact i j u hu
  obtain⟨k,w',i,h2,I,_,_⟩:=run_append_own_at (P:=Y3) w base S ty T G z sz s h.rX F aA aB aC h.zs h.pos v n cs C q m c f e.len Z e.one V O N;exact⟨k,w',i,h2,I⟩
section
variable {w:World}{ops:Array oM}{o:oM}{a:oy}{Q:nF->oy->World->Prop}{K:oy->World->Prop}{E:Prop}
theorem VA (C:o.guard=none){S T:oD}{sz i:Nat}{z:Value}(k:Zj S T sz i z)(s x:py)(I:o.op=.call {callee:=.builtin .append,args:=#[s,x],argTypes:=#[S,S]})
  (base:Nat) (v:Value) (n:Nat) (cs:Y8) (hs:a.eval s=v) (M:w.ownsRow base T sz v n cs) (B:Nat) (A:Y5) (m c:Nat) (f:Y8) (U:a.eval x=.slice A m c) (F:yp w B sz A m c f)
  (G:n+m<=oo) (u:(n+m)*i<=140737488355328) (q:base<=w.heap.size)
  (h:∀e w',w'.ownsRow base T sz e (n+m) (cs++f)->w.grownBy w' v.ownBlock->K (a.put o.dst e) w'):if og o (mR ops a.tmps)=true then de Y3 o a w K Q else E:=by
 have O:og o (mR ops a.tmps)=true:=by simp[og,C]
 rw[if_pos O];obtain⟨e,w',N,h2,j⟩:=GV (w:=w) o.type k base v n cs M B A m c f F G u q;unfold de oB;simp only[I,resolve,invoke,builtin,oY,oU,oO,zI,zJ,zN,hs,U,N];exact h e w' h2 j
end
def zw (w:World)(r:Nat)(es:Array oJ)(clock:Nat):Prop:=w.heap[r]?=some (.map es clock)
theorem zw.lt {w:World}{r:Nat}{es:Array oJ}{clock:Nat}(h:zw w r es clock):r<w.heap.size:=(zK.1 h).1
theorem zw.below {w w':World}{B r:Nat}{es:Array oJ}{clock:Nat}(h:zw w r es clock)(hB:ph B w w')(c:r<B):zw w' r es clock:=(hB.block r c).trans h
theorem zw.grown {w w':World}{r:Nat}{es:Array oJ}{clock:Nat}{row:Option Nat}(h:zw w r es clock)(c:w.grownBy w' row)(e:some r≠row):zw w' r es clock:=(c.block r h.lt e).trans h
def setMap (w:World)(r:Nat)(es:Array oJ)(clock:Nat):World:={w with heap:=w.heap.setIfInBounds r (.map es clock)}
theorem zw.set {w:World}{r:Nat}{es:Array oJ}{clock:Nat}(h:zw w r es clock)(es':Array oJ)(clock':Nat):zw (setMap w r es' clock') r es' clock':=(MapKept.heap_set (o':=.map es' clock') h).1
theorem vM {w:World}{r:Nat}{es:Array oJ}{clock:Nat}(h:zw w r es clock)(es':Array oJ)(c:Nat):w.grownBy (setMap w r es' c) (some r) :=
 ⟨rfl,rfl,rfl,by simp[setMap],λk _ f=>(MapKept.heap_set (o':=.map es' c) h).2 k (λe=>f (by rw[e]))⟩
theorem za.sN {w:World}{g q:Nat}{t:oD}{cs:Y7}{i:Array oJ}{f:Nat}(h:za w g t cs)(k:zw w q i f)(es':Array oJ)(c:Nat):za (setMap w q es' c) g t cs:=by
 have s:g≠q:=by intro e;subst e;have j:w.heap[g]?=some (.cells cs t (0,0)):=h;rw[show w.heap[g]?=some (.map i f) from k] at j;cases j
 exact((MapKept.heap_set (o':=.map es' c) k).2 g s).trans h
section
variable {P:oV}{w:World}{mty kt et:oD}{d:TypeDesc}{r clock:Nat}{es:Array oJ}{key val:Value}
theorem SI (f:P.underlying mty=some (.map kt et))(hd:P.underlying kt=some d)(e:dJ d key)(c:zw w r es clock)(hf:ny d key es.toList 0=some none):(gM mty (.map (some r)) key val).run P w=.ok () (setMap w r (es.push {key:=key,val:=val,born:=clock}) (clock+1)):=by
 have hc:(gG false 10000 kt key).run P w=.ok () w:=dg hd e false 9999;simp[gM,om f,oX c,hc,oq hd hf,MapKept.run_setObj_map _ c,pv,setMap]
theorem RC (f:P.underlying mty=some (.map kt et))(hd:P.underlying kt=some d)(e:dJ d key)(c:zw w r es clock){i:Nat}{v:Value}(hf:ny d key es.toList 0=some (some (i,v))):(gE mty (.map (some r)) key false).run P w=.ok v w:=by
 have hc:(gG es.isEmpty 10000 kt key).run P w=.ok () w:=dg hd e _ 9999;simp[gE,om f,oX c,hc,oq hd hf,pv]
end
section
variable {P:oV}{w:World}{ops:Array oM}{rest:List oM}{o:oM}{a:oy}{Q:nF->oy->World->Prop}{mty kt et:oD}{d:TypeDesc}{r clock:Nat}{es:Array oJ}{key val:Value}
theorem Qq (e:o.guard=none)(f:o.op=.makeMap mty none)(h:zw (w.alloc (.map #[] 0)) w.heap.size #[] 0->df P ops Q rest (a.put o.dst (.map (some w.heap.size))) (w.alloc (.map #[] 0))):df P ops Q (o::rest) a w :=
 gw e λ_ c=>by unfold de oB;simp only[f,Option.map_none,run_makeMap,oY,oO,oU];exact c _ _ (h (nO w _))
theorem XO (q:o.guard=none)(m x y:py)(c:o.op=.insert mty m x y∨o.op=.mapUpdate mty m x y)(u:P.underlying mty=some (.map kt et))(hd:P.underlying kt=some d)(s:dJ d key)(f:a.eval m=.map (some r))(i:a.eval x=key)(j:a.eval y=val)
  (e:zw w r es clock) (hf:ny d key es.toList 0=some none)
  (h:∀w',zw w' r (es.push {key:=key,val:=val,born:=clock}) (clock+1)->w.grownBy w' (some r)->df P ops Q rest (a.put o.dst ou) w'):df P ops Q (o::rest) a w :=
 gw q λ_ k=>by unfold de oB;rcases c with c|c<;>simp only[c,f,i,j,SI u hd s e hf,oY,oO,oU]<;>exact k _ _ (h _ (e.set _ _) (vM e _ _))
theorem za.rS {w w':World}{g r:Nat}{t:oD}{cs:Y7}{es:Array oJ}{clock:Nat}(h:za w g t cs)(i:zw w r es clock)(f:w.grownBy w' (some r)):za w' g t cs:=by
 refine h.grown f (λe => ?_);injection e with e
 subst e;have c:w.heap[g]?=some (.cells cs t (0,0)):=h;rw[show w.heap[g]?=some (.map es clock) from i] at c;cases c
end
def AK (l:Y4):Value :=
 match rd l with
 | some (n,k) => .tuple #[.int .u64 (n:Int),.int .i64 (k:Int),.int .i64 0]
 | none => .tuple #[.int .u64 0,.int .i64 0,.int .i64 130]
theorem GW {l:Y4}{n k:Nat}(h:rd l=some (n,k)):AK l=.tuple #[.int .u64 (n:Int),.int .i64 (k:Int),.int .i64 0]:=by unfold AK;rw[h]
theorem KK {l:Y4}(h:rd l=none):AK l=.tuple #[.int .u64 0,.int .i64 0,.int .i64 130]:=by unfold AK;rw[h]
def DB (l:Y4)(acc k:Nat):Prop:=Nf (10-k) k acc (l.drop k)=rd l/\acc<128^k/\k<=10
theorem DB.start (l:Y4):DB l 0 0:=⟨rfl,by simp,by omega⟩
theorem DB.unfold {l:Y4}{c k:Nat}(h:DB l c k)(e:k<l.length)(f:k<10):rd l=if k=9/\1<l[k].toNat then none else if 128<=l[k].toNat then Nf (10-(k+1)) (k+1) (c+l[k].toNat%128*128^k) (l.drop (k+1))
   else if l[k].toNat=0/\0<k then none else some (c+l[k].toNat%128*128^k,k+1):=by
 rw[<-h.1,qR e,show 10-k=(10-(k+1))+1 from by omega];rfl
theorem DB.out {l:Y4}{e k:Nat}(h:DB l e k)(c:l.length<=k∨10<=k):rd l=none:=by
 rw[<-h.1];rcases c with c|c
 ·rw[List.drop_eq_nil_of_le c];cases 10-k<;>rfl
 ·rw[show 10-k=0 from by omega];rfl
theorem DB.next {l:Y4}{c k:Nat}(h:DB l c k)(e:k<l.length)(f:k<9)(hc:128<=l[k].toNat):DB l (c+l[k].toNat%128*128^k) (k+1):=by
 refine⟨?_,?_,by omega⟩
 ·rw[h.unfold e (by omega),if_neg (by omega),if_pos hc]
 ·have h1:l[k].toNat%128<=127:=by omega
  have h2:l[k].toNat%128*128^k<=127*128^k:=nC _ h1;have:=h.2.1;omega
theorem wT {e c k:Nat}(hc:c<256)(B:k<10)(x:k=9->c<=1)(ha:e<128^k):bits .or .u64 (e:Int) (IntKind.u64.wrap (IntKind.u64.wrap (bits .andNot .u8 (c:Int) 128)*2^(7*k)))=((e+c%128*128^k:Nat):Int):=by
 have h:bits .andNot .u8 (c:Int) 128=((c%128:Nat):Int):=by have:=u8_andNot_nat c 128 hc (by omega);have h2:(((128:Nat)):Int)=128:=rfl;rw[h2] at this;rw[this,show 255-128=2^7-1 from rfl,Nat.and_two_pow_sub_one_eq_mod]
 have f:(128:Nat)^k=2^(7*k):=by rw[Nat.pow_mul]
 have A:128^k<=128^9:=nQ (by omega) (by omega);have z:c%128*128^k<18446744073709551616:=by
  by_cases s:k=9
  ·have:c%128*128^k<=1*128^9:=by subst s;exact nC _ (by have:=x rfl;omega)
   simp at this;omega
  ·have u:128^k<=128^8:=nQ (by omega) (by omega);have:c%128*128^k<=127*128^8:=Nat.mul_le_mul (by omega) u;simp at this;omega
 have i:IntKind.u64.wrap ((c%128:Nat):Int)=((c%128:Nat):Int):=by rw[IntKind.wrap_u64];omega
 have j:(((c%128:Nat):Int))*2^(7*k)=((c%128*128^k:Nat):Int):=by rw[f];push_cast;rfl
 have q:IntKind.u64.wrap ((c%128*128^k:Nat):Int)=((c%128*128^k:Nat):Int):=by rw[IntKind.wrap_u64];omega
 rw[h,i,j,q,u64_or_nat _ _ (by simp at A;omega) z];congr 1;rw[Nat.or_comm,nat_join (7*k) _ _ (by rw[f];exact Nat.mul_mod_left _ _) (by rw[<-f];exact ha)];omega
def uj (l:Y4)(a:oy):Prop:=rd l=none/\∃u0 u1 u2 u3 u4 u5 u6 u7 u8 u9 u10 u11 u12 u13 u14 u15 u16 u17 u18 u19 u20 u21 u22 u23 u24 u25 u26 u27 u28 u29 u30 u31 u32 u33 u34 u35 u36 u37 u38 u39 u40 u41 u42 u43:Value,a={tmps:=#[u0,u1,u2,u3,u4,u5,u6,u7,u8,u9,u10,u11,u12,u13,u14,u15,u16,u17,u18,u19,u20,u21,u22,u23,u24,u25,u26,u27,u28,u29,u30,u31,u32,u33,u34,u35,u36,u37,u38,u39,u40,u41,u42,u43],defers:=[]}
theorem UU (w:World)(g o c:Nat)(l:Y4)(hl:0<l.length)(hc:l.length<=c)(hm:c<=9223372036854775807)(G:∀j (h:j<l.length),w.cell? ⟨g,o+j,none⟩=some (.int .u8 (l[j].toNat:Int))):pr Y3 313 #[.slice (some ⟨g,o,none⟩) l.length c] w λe w'=>e=Y0 (AK l)/\w=w':=by
 go_enter func313,ntmps313
 go_wp2_with fail
 refine wp_scope_jumps (rest:=?rest) 0 (λa w'=>uj l a/\w=w') (λ_ _=>0) ?hf ?first ?pass
 case hf=>exact rfl
 case pass =>
  rintro a w' ⟨⟨hn,u0,u1,u2,u3,u4,u5,u6,u7,u8,u9,u10,u11,u12,u13,u14,u15,u16,u17,u18,u19,u20,u21,u22,u23,u24,u25,u26,u27,u28,u29,u30,u31,u32,u33,u34,u35,u36,u37,u38,u39,u40,u41,u42,aF,rfl⟩,rfl⟩;have O:=pk (KK hn);clear hn;go_wp2;simp only[mM];go_wp2
  go_ret3
  exact⟨by rw[O.out];rfl,rfl⟩
 case first =>
  go_wp2_with fail
  all_goals
   go_loop [2,13] (λa i=>∃(z k:Nat),i=.int .i64 k/\k<=l.length/\k<=10/\a=.int .u64 z/\Hid (DB l z k)) (λ_ i=>l.length-(intOf i).toNat)
   case atStart=>exact⟨0,0,rfl,by omega,by omega,rfl,pk (DB.start l)⟩
   case round =>
    obtain⟨z,k,rfl,hk,aE,rfl,f⟩:=hrel
    by_cases T:k<l.length/\k<10
    ·obtain⟨h1,h2⟩:=T;have aD:=G k h1;clear G;have N:=(l[k]).toNat_lt;have hu:=pk (f.out.unfold h1 h2)
     by_cases q:k=9/\1<l[k].toNat
     ·have hn:Hid (rd l=none):=by have:=hu.out;rw[if_pos q] at this;exact pk this
      clear hu f;obtain⟨s,q⟩:=q;subst s
      go_wp2_with fail
      go_step3
      exact⟨rfl,⟨hn.out,by repeat (first|exact rfl|apply nw)⟩,rfl⟩
     ·by_cases hB:128<=l[k].toNat
      ·have U:=pk (f.out.next h1 (by omega) hB);have V:=wT N h2 (by omega) f.out.2.1;clear hu f;have s:¬ (k:Int)=9:=by omega
       clear q
       go_wp2_with fail
       refine⟨⟨_,k+1,by go_num,by omega,by omega,rfl,U⟩,by simp[intOf];omega⟩
      ·by_cases A:l[k].toNat=0/\0<k
       ·have hn:Hid (rd l=none):=by have:=hu.out;rw[if_neg q,if_neg hB,if_pos A] at this;exact pk this
        clear hu f;obtain⟨B,S⟩:=A;have s:(k:Int)<9∨(k:Int)=9:=by omega
        clear q;rcases s with s|s
        ·go_wp2_with fail
         go_step3
         exact⟨rfl,⟨hn.out,by repeat (first|exact rfl|apply nw)⟩,rfl⟩
        ·obtain rfl:k=9:=by omega
         go_wp2_with fail
         go_step3
         exact⟨rfl,⟨hn.out,by repeat (first|exact rfl|apply nw)⟩,rfl⟩
       ·have hn:Hid (rd l=some (z+l[k].toNat%128*128^k,k+1)):=by have:=hu.out;rw[if_neg q,if_neg hB,if_neg A] at this;exact pk this
        have V:=wT N h2 (by omega) f.out.2.1;have C:k=9->l[k].toNat<=1:=by omega
        clear hu f;have I:=pk (GW hn.out);clear hn;have M:∀x:Value,x=AK l->mc x=mc (AK l):=λx X=>by rw[X]
        have F:=pk M;have u:l[k].toNat<1->k<=0:=by omega
        clear M q A
        by_cases s:k<9
        ·clear C
         by_cases B:l[k].toNat<1
         ·have S:k<=0:=u B;have Z:((l[k].toNat:Int)==0)=true:=by rw[beq_iff_eq];omega
          clear u B
          go_wp2_with fail
          all_goals
           simp only[mM];go_wp2
           go_ret3
           exact⟨F.out _ (by rw[I.out];rfl),rfl⟩
         ·clear u
          go_wp2_with fail
          all_goals
           simp only[mM];go_wp2
           go_ret3
           exact⟨F.out _ (by rw[I.out];rfl),rfl⟩
        ·have aB:l[k].toNat<=1:=C (by omega);have aC:1<=l[k].toNat:=by
          rcases nG l[k].toNat 1 with h|h
          ·have:=u h;omega
          ·exact h
         have aA:((k:Int)==9)=true:=by rw[beq_iff_eq];omega
         clear u C
         go_wp2_with fail
         all_goals
          simp only[mM];go_wp2
          go_ret3
          exact⟨F.out _ (by rw[I.out];rfl),rfl⟩
    ·have hn:=pk (KK (f.out.out (by omega)));clear G f
     go_wp2_with fail
     go_step3
     go_wp2_with fail
     simp only[mM];go_wp2
     go_ret3
     exact⟨by rw[hn.out];rfl,rfl⟩
theorem VF (w:World)(A:Y5)(c:Nat):pr Y3 313 #[.slice A 0 c] w λe w'=>e=Y0 (AK [])/\w=w':=by
 go_enter func313,ntmps313
 go_wp2_with fail
 refine wp_scope_straight ?_
 go_wp2_with fail
 refine wp_loop_rounds 1 ?_;rw[rounds_succ]
 go_wp2_with fail
 go_step3
 go_wp2_with fail
 rw[Exit.noGoto_ret];go_wp2
 go_ret3
 exact⟨rfl,rfl⟩
theorem Yv (w:World)(B:Nat)(A:Y5)(c:Nat)(l:Y4)(h:qq w B A c l):pr Y3 313 #[.slice A l.length c] w λe w'=>e=Y0 (AK l)/\w=w':=by
 rcases dp l.length with f|f
 ·obtain rfl:=qF f;exact VF w A c
 ·obtain⟨g,o,rfl,_,hc⟩:=h.rC f;exact UU w g o c l f h.le h.max hc

theorem Zw (w:World)(g o:Nat)(A:Y5)(len c n:Nat)(f:len<=9223372036854775807)(hc:w.cell? ⟨g,o,none⟩=some (.slice A len c)):pr Y3 263 #[.pointer (some ⟨g,o,none⟩),.int .u64 n] w λe w'=>e=Y0 (.bool (decide (n<=len)))/\w=w':=by
 go_enter func263,ntmps263
 go_wp2;go_ret;exact⟨rfl,rfl⟩
theorem GH (w:World)(g o:Nat)(A:Y5)(len c n:Nat)(i:len<=c)(h:c<=9223372036854775807)(hn:n<=len)(hc:w.cell? ⟨g,o,none⟩=some (.slice A len c))(hf:w.frozen? ⟨g,o,none⟩=false):pr Y3 264 #[.pointer (some ⟨g,o,none⟩),.int .i64 n] w λe w'=>e=Y0 (.slice A n n)/\w.setCell ⟨g,o,none⟩ (.slice (kh A c n) (len-n) (c-n))=w':=by
 by_cases f:c=n
 ·obtain rfl:len=c:=by omega
  subst f
  go_enter func264,ntmps264
  go_wp2;go_ret;refine⟨rfl,?_⟩;simp[kh]
 ·go_enter func264,ntmps264
  go_wp2;go_ret;refine⟨rfl,?_⟩;simp[kh,f]
theorem En (l:Y4)(c:UInt8):xI (l++[c])=256*xI l+c.toNat:=by simp[xI]
theorem ZE {l:Y4}{k:Nat}(c:k<l.length):xI (l.take (k+1))=256*xI (l.take k)+l[k].toNat:=by
 rw[zU c,En]
theorem RE {l:Y4}{k m:Nat}(c:k<=m)(e:m<=8):xI (l.take k)<18446744073709551616:=by
 have h1:=Uh (l.take k);have h2:256^(l.take k).length<=256^8:=nQ (by omega) (by simp;omega);omega
theorem CQ {l:Y4}{k m:Nat}(c:k<m)(e:m<=8):IntKind.u64.wrap (256*(xI (l.take k):Int))=256*(xI (l.take k):Int):=by
 have h1:=Uh (l.take k);have h2:256^(l.take k).length<=256^7:=nQ (by omega) (by simp;omega);rw[IntKind.wrap_u64];omega
theorem AI {l:Y4}{k m:Nat}(hl:k<l.length)(c:k<m)(e:m<=8):bits .or .u64 (IntKind.u64.wrap ((xI (l.take k):Int)*256)) (l[k].toNat:Int)=(xI (l.take (k+1)):Int):=by
 have f:=CQ (l:=l) c e;rw[Int.mul_comm,f];have hc:=l[k].toNat_lt;have h1:=RE (l:=l) (show k+1<=m from c) e;rw[ZE hl] at h1;have h2:=u64_or_nat (256*xI (l.take k)) l[k].toNat (by omega) (by omega);rw[show 256*(xI (l.take k):Int)=((256*xI (l.take k):Nat):Int) from by omega,h2,ZE hl];congr 1;exact nat_join 8 _ _ (by omega) (by omega)
def Lr (m:Nat)(l:Y4):Value:=if l.length<m then .tuple #[.int .u64 0,.int .i64 130] else .tuple #[.int .u64 (xI (l.take m):Int),.int .i64 0]
theorem JI (w:World)(g B:Nat)(A:Y5)(c:Nat)(l:Y4)(m:Nat)(x:m<=8)(hB:B<=g)(h:qq w B A c l)(hc:w.cell? ⟨g,0,none⟩=some (.slice A l.length c))(hf:w.frozen? ⟨g,0,none⟩=false):pr Y3 198 #[.pointer (some ⟨g,0,none⟩),.int .i64 m] w λe w'=>e=Y0 (Lr m l)/\ph g w w':=by
 have M:=h.le;have N:=h.max;unfold Lr
 by_cases hs:l.length<m
 ·rw[if_pos hs];have hd:decide (m<=l.length)=false:=by simp;omega
  go_enter func198,ntmps198
  go_wp2_with (first|(go_at_call 263;refine(Zw _ g 0 A l.length c m (by omega) hc).mono ?_;rintro e w' ⟨rfl,rfl⟩))
  go_ret2
  exact⟨rfl,pf _ _⟩
 ·rw[if_neg hs];have hd:decide (m<=l.length)=true:=by simp;omega
  have q:qq (w.setCell ⟨g,0,none⟩ (.slice (kh A c m) (l.length-m) (c-m))) B A c l:=h.rE λp z=>World.cell?_setCell_other w _ p _ (λe=>by subst e;simp at z;omega)
  go_enter func198,ntmps198
  go_wp2_with (first|(go_at_call 263;refine(Zw _ g 0 A l.length c m (by omega) hc).mono ?_;rintro e w' ⟨rfl,rfl⟩)|(go_at_call 264;refine(GH _ g 0 A l.length c m (by omega) (by omega) (by omega) hc hf).mono ?_;rintro e w' ⟨rfl,rfl⟩))
  clear hc;have j:ph g w (w.setCell ⟨g,0,none⟩ (.slice (kh A c m) (l.length-m) (c-m))):=(pf g w).setCell (p:=⟨g,0,none⟩) (zG g) _;generalize w.setCell ⟨g,0,none⟩ (.slice (kh A c m) (l.length-m) (c-m))=W at *
  go_loop [4,21] (λs i=>∃k:Nat,k<=m/\i=.int .i64 k/\s=.int .u64 (xI (l.take k):Int)) (λ_ i=>m-(intOf i).toNat)
  case atStart=>exact⟨0,by omega,rfl,rfl⟩
  case round =>
   obtain⟨k,I,rfl,rfl⟩:=hrel
   by_cases u:k<m
   ·have f:k<l.length:=by omega
    obtain⟨C,o,rfl,_,hc⟩:=q.rC (by omega);have G:=hc k f;clear hc;have F:=(l[k]).toNat_lt;have h1:=AI f u x
    go_wp2_with fail
    refine⟨⟨k+1,by omega,by go_num,rfl⟩,by simp[intOf];omega⟩
   ·obtain rfl:k=m:=by omega
    go_wp2_with fail
    go_ret2
    exact⟨rfl,j⟩
def VO (l:Y4):Value:=if l.length<4 then .tuple #[.int .u32 0,.int .i64 130] else .tuple #[.int .u32 (xI (l.take 4):Int),.int .i64 0]
theorem Ot {m:Nat}{l:Y4}(h:l.length<m):Lr m l=.tuple #[.int .u64 0,.int .i64 130]:=by unfold Lr;rw[if_pos h]
theorem Rg {m:Nat}{l:Y4}(h:¬ l.length<m):Lr m l=.tuple #[.int .u64 (xI (l.take m):Int),.int .i64 0]:=by unfold Lr;rw[if_neg h]
theorem NC {l:Y4}(h:l.length<4):VO l=.tuple #[.int .u32 0,.int .i64 130]:=by unfold VO;rw[if_pos h]
theorem VN {l:Y4}(h:¬ l.length<4):VO l=.tuple #[.int .u32 (xI (l.take 4):Int),.int .i64 0]:=by unfold VO;rw[if_neg h]
theorem UW (w:World)(A:Y5)(c:Nat)(l:Y4)(h:qq w w.heap.size A c l):pr Y3 225 #[.slice A l.length c] w λe w'=>e=Y0 (Lr 8 l)/\ph w.heap.size w w':=by
 have f:ph w.heap.size w (w.alloc (Obj.cells #[dW A l.length c] 279)):=(pf _ _).alloc (zG _) _;have H:=JI (w.alloc (Obj.cells #[dW A l.length c] 279)) w.heap.size w.heap.size A c l 8 (by omega) (zG _) (h.below f) (Qy _ _ _) (Gk _ _ _ _)
 by_cases hs:l.length<8
 ·rw[Ot hs] at H ⊢
  go_enter func225,ntmps225
  go_wp2_with (go_at_call 198;refine H.mono ?_;rintro e w' ⟨rfl,i⟩)
  go_ret2
  exact⟨rfl,f.trans i⟩
 ·rw[Rg hs] at H ⊢
  go_enter func225,ntmps225
  go_wp2_with (go_at_call 198;refine H.mono ?_;rintro e w' ⟨rfl,i⟩)
  go_ret2
  exact⟨rfl,f.trans i⟩
theorem Qw (w:World)(A:Y5)(c:Nat)(l:Y4)(h:qq w w.heap.size A c l):pr Y3 120 #[.slice A l.length c] w λe w'=>e=Y0 (VO l)/\ph w.heap.size w w':=by
 have f:ph w.heap.size w (w.alloc (Obj.cells #[dW A l.length c] 279)):=(pf _ _).alloc (zG _) _;have H:=JI (w.alloc (Obj.cells #[dW A l.length c] 279)) w.heap.size w.heap.size A c l 4 (by omega) (zG _) (h.below f) (Qy _ _ _) (Gk _ _ _ _)
 by_cases hs:l.length<4
 ·rw[Ot hs] at H;rw[NC hs]
  go_enter func120,ntmps120
  go_wp2_with (go_at_call 198;refine H.mono ?_;rintro e w' ⟨rfl,i⟩)
  go_ret2
  exact⟨rfl,f.trans i⟩
 ·rw[Rg hs] at H;rw[VN hs];have j:xI (l.take 4)<4294967296:=by have h1:=Uh (l.take 4);have h2:256^(l.take 4).length<=256^4:=nQ (by omega) (by simp;omega);omega
  go_enter func120,ntmps120
  go_wp2_with (go_at_call 198;refine H.mono ?_;rintro e w' ⟨rfl,i⟩)
  go_ret2
  exact⟨rfl,f.trans i⟩
def Ef (l:Y4):Y4:=jQ l.length++l
theorem yZ.below {w0 w w':World}{v:Value}{l:Y4}(h:yZ w w0.heap.size v l)(c:ph w0.heap.size w0 w)(e:w.grownBy w' v.ownBlock):ph w0.heap.size w0 w' :=
 c.grown e c.size (λk f=>(mH h k f).1)
theorem RB (l:Y4)(hl:l.length<=1000000000)(w:World):pr Y3 269 #[.string (Jz l)] w (yU w (Ef l)):=by
 have j:=ZB l;have hn:=xa l.length
 go_enter func269,ntmps269
 go_wp2_with fail
 refine(KR l.length (by omega) _).mono ?_;rintro e k ⟨v,rfl,c,hB⟩
 go_wp2_with (at_builtin;refine AE rfl _ _ rfl w.heap.size v (jQ l.length) rfl c (Jz l) rfl (by omega) hB.size ?_;intro i w' h f)
 go_ret;exact⟨i,rfl,h,c.below hB f⟩
def Pq (l:Y4):Option (Y4×Nat) :=
 match rd l with
 | some (n,k)=>if n<=l.length-k then some ((l.drop k).take n,k+n) else none
 | none=>none
def GY (l:Y4):Value :=
 match Pq l with
 | some (s,k) => .tuple #[.string (Jz s),.int .i64 (k:Int),.int .i64 0]
 | none => .tuple #[.string (Jz []),.int .i64 0,.int .i64 130]
theorem uP {l:Y4}(h:rd l=none):GY l=.tuple #[.string (Jz []),.int .i64 0,.int .i64 130]:=by unfold GY Pq;rw[h]
theorem uO {l:Y4}{n k:Nat}(h:rd l=some (n,k))(hn:¬ n<=l.length-k):GY l=.tuple #[.string (Jz []),.int .i64 0,.int .i64 130]:=by unfold GY Pq;rw[h];simp only[if_neg hn]
theorem uN {l:Y4}{n k:Nat}(h:rd l=some (n,k))(hn:n<=l.length-k):GY l=.tuple #[.string (Jz ((l.drop k).take n)),.int .i64 ((k:Int)+(n:Int)),.int .i64 0]:=by unfold GY Pq;rw[h];simp only[if_pos hn];rfl
theorem VE (w:World)(A:Y5)(c:Nat)(l:Y4)(h:qq w w.heap.size A c l):pr Y3 315 #[.slice A l.length c] w λe w'=>e=Y0 (GY l)/\ph w.heap.size w w':=by
 have I:=h.le;have M:=h.max;have H:=Yv w _ A c l h;have j:∀u,ph w.heap.size w (w.alloc (Obj.cells #[u] 279)):=λu=>(pf _ _).alloc (zG _) _
 rcases f:rd l with _|⟨n,k⟩
 ·rw[KK f] at H;have i:=pk (uP f);clear f
  go_enter func315,ntmps315
  go_wp2_with (first|(go_at_call 313;refine H.mono ?_;clear H;rintro e w' ⟨rfl,rfl⟩))
  go_ret3
  exact⟨by rw[i.out];rfl,j _⟩
 ·rw[GW f] at H;obtain⟨F,G,B⟩:=Yw f;have hcut:(if c=k then A else Option.map (λx=>x.add k) A)=kh A c k:=rfl;have q:qq w w.heap.size (kh A c k) (c-k) (l.drop k):=h.drop k B;have C:(l.drop k).length=l.length-k:=by simp
  clear F
  by_cases hs:n<=l.length-k
  ·have i:=pk (uN f hs);have hd:decide (n<=l.length-k)=true:=by simp[hs]
   have s:=q.take n n (by omega) (zG _) (by omega);have N:∀W,ph w.heap.size w W->(convert 129 9 (.slice (kh A c k) n n)).run Y3 W=.ok (.string (Jz ((l.drop k).take n))) W:=by
    intro W z;have:=(s.below z).string
    rwa [zZ,C,mK hs] at this
   clear f q s
   go_enter func315,ntmps315
   go_wp2_with (first
    | (go_at_call 313;refine H.mono ?_;clear H;rintro e w' ⟨rfl,rfl⟩)
    | (go_at_call 263;refine(Zw _ w.heap.size 0 (kh A c k) (l.length-k) (c-k) n (by omega) (Qy _ _ _)).mono ?_;rintro e w' ⟨rfl,rfl⟩)
    | (go_at_call 264;refine(GH _ w.heap.size 0 (kh A c k) (l.length-k) (c-k) n (by omega) (by omega) (by omega) (Qy _ _ _) (Gk _ _ _ _)).mono ?_;rintro e w' ⟨rfl,rfl⟩))
   go_ret3
   exact⟨by rw[i.out];rfl,by first|exact j _|exact(j _).setCell (p:=⟨w.heap.size,0,none⟩) (zG _) _⟩
  ·have i:=pk (uO f hs);have hd:decide (n<=l.length-k)=false:=by simp;omega
   clear f q
   go_enter func315,ntmps315
   go_wp2_with (first
    | (go_at_call 313;refine H.mono ?_;clear H;rintro e w' ⟨rfl,rfl⟩)
    | (go_at_call 263;refine(Zw _ w.heap.size 0 (kh A c k) (l.length-k) (c-k) n (by omega) (Qy _ _ _)).mono ?_;rintro e w' ⟨rfl,rfl⟩))
   go_ret3
   exact⟨by rw[i.out];rfl,j _⟩
structure Br (w:World)(A:Y5)(xs:List Int):Prop where
 rC:0<xs.length->∃g o,A=some ⟨g,o,none⟩/\∀j (h:j<xs.length),w.cell? ⟨g,o+j,none⟩=some (.int .i64 xs[j])
theorem zg (n:Int)(h0 : -9223372036854775808<=n:=by omega)(h1:n<9223372036854775808:=by omega):IntKind.i64.wrap n=n:=by
 simp[IntKind.wrap,IntKind.bits,IntKind.signed];split<;>omega
theorem UZ (w:World)(A:Y5)(c:Nat)(xs:List Int)(h:Br w A xs)(N:xs.length<=9223372036854775807)(p:Int->Bool)(f:FuncId)(lb:Y7)(F:∀args w,(dF f args).run Y3 w=.ok (.enter f args) w)
  (hf:∀x,pr Y3 f (#[.int .i64 x]++lb) w λe w'=>e=Y0 (.bool (p x))/\w=w') :
  pr Y3 199 #[.slice A xs.length c,.func (.func f) #[] lb] w λe w'=>(∃k:Int,e=Y0 (.int .i64 k)/\decide (0<=k)=xs.any p)/\w=w':=by
 go_enter func199,ntmps199
 go_wp2_with fail
 go_loop [8] (λi=>∃k:Nat,k<=xs.length/\i=.int .i64 k/\Hid ((xs.take k).any p=false)) (λi=>xs.length-(intOf i).toNat)
 case atStart=>exact⟨0,gP _,rfl,pk (by simp)⟩
 case round =>
  obtain⟨k,I,rfl,s⟩:=hrel
  by_cases q:k<xs.length
  ·obtain⟨g,o,rfl,hc⟩:=h.rC (by omega);have G:=hc k q;have H:=hf xs[k];clear hc hf;have M:IntKind.i64.wrap ((k:Int)+1)=(k:Int)+1:=zg _;have u:p xs[k]=false->(xs.take (k+1)).any p=false:=by intro j;rw[zU q,List.any_append,s.out];simp[j]
   have z:p xs[k]=true->xs.any p=true:=λj=>List.any_eq_true.2 ⟨xs[k],qI q,j⟩
   cases j:p xs[k] with
   | true =>
    have C:=z j;rw[j] at H
    go_wp2_with fail
    refine H.mono ?_;clear H;rintro e w' ⟨rfl,rfl⟩;go_wp2;go_ret;exact⟨⟨(k:Int),rfl,by rw[C];simp⟩,rfl⟩
   | false =>
    have hn:=pk (u j);rw[j] at H;clear u z
    go_wp2_with fail
    refine H.mono ?_;clear H;rintro e w' ⟨rfl,rfl⟩;go_wp2;refine⟨⟨k+1,by omega,by go_num,hn⟩,by simp[intOf];omega⟩
  ·obtain rfl:k=xs.length:=by omega
   have hn:=s.out;rw[dD] at hn;have B:=pk hn;clear hn s hf;go_wp2;go_ret;exact⟨⟨-1,rfl,by rw[B.out];simp⟩,rfl⟩
theorem DH (w:World)(a b:px)(c f x:Int)(ha:w.cell? a=some (.int .i64 c))(h:w.cell? b=some (.int .i64 f)):pr Y3 323 (#[.int .i64 x]++#[.pointer (some a),.pointer (some b)]) w λe w'=>e=Y0 (.bool (decide (x<c)||decide (f<x)))/\w=w':=by
 by_cases h1:x<c
 ·go_enter func323,ntmps323
  go_wp2;go_ret;exact⟨by simp[h1],rfl⟩
 ·go_enter func323,ntmps323
  go_wp2;go_ret;have h2:decide (x<c)=false:=decide_eq_false (by omega);exact⟨by rw[h2,mZ];rfl,rfl⟩
def YA (lo hi:Int)(xs:List Int):Bool:=!xs.any (λx=>decide (x<lo)||decide (hi<x))
theorem Gw (e c x:Int):YA e c [x]=decide (e<=x/\x<=c):=by
 simp only[YA,List.any_cons,List.any_nil,Bool.or_false]
 by_cases h1:x<e<;>by_cases h2:c<x<;>simp[h1,h2]<;>omega
theorem Cv (e c x y:Int):YA e c [x,y]=(YA e c [x]&&YA e c [y]):=by
 simp[YA,Bool.not_or]
theorem KE (w:World)(A:Y5)(c:Nat)(xs:List Int)(h:Br w A xs)(z:∀g o,A=some ⟨g,o,none⟩->g<w.heap.size)(G:xs.length<=9223372036854775807)(i f:Int):pr Y3 289 #[.int .i64 i,.int .i64 f,.slice A xs.length c] w λe w'=>e=Y0 (.bool (YA i f xs))/\ph w.heap.size w w':=by
 have q:ph w.heap.size w ((w.alloc (.cells #[.int .i64 i] 3)).alloc (.cells #[.int .i64 f] 3)):=((pf _ _).alloc (zG _) _).alloc (by simp) _;have b0:=(za.new w 3 #[.int .i64 i]).alloc (.cells #[.int .i64 f] 3);have b1:=za.new (w.alloc (.cells #[.int .i64 i] 3)) 3 #[.int .i64 f];rw[pq] at b1
 have C:Br ((w.alloc (.cells #[.int .i64 i] 3)).alloc (.cells #[.int .i64 f] 3)) A xs:=⟨λhl=>by
  obtain⟨g,o,e,hc⟩:=h.rC hl
  exact⟨g,o,e,λj F=>(q.cell (p:=⟨g,o+j,none⟩) (z g o e)).trans (hc j F)⟩⟩
 have H:=UZ _ A c xs C G (λx=>decide (x<i)||decide (f<x)) 323 #[.pointer (some ⟨w.heap.size,0,none⟩),.pointer (some ⟨w.heap.size+1,0,none⟩)] (enters_of func323 (by kernel_rfl) rfl)
  (λx=>DH _ _ _ i f x b0.boxed b1.boxed)
 have u:pr Y3 121 #[.slice A xs.length c,.func (.func 323) #[] #[.pointer (some ⟨w.heap.size,0,none⟩),.pointer (some ⟨w.heap.size+1,0,none⟩)]] ((w.alloc (.cells #[.int .i64 i] 3)).alloc (.cells #[.int .i64 f] 3))
   λe w'=>e=Y0 (.bool (xs.any (λx=>decide (x<i)||decide (f<x))))/\((w.alloc (.cells #[.int .i64 i] 3)).alloc (.cells #[.int .i64 f] 3))=w':=by
  go_enter func121,ntmps121
  go_wp2_with fail
  refine H.mono ?_;rintro e w' ⟨⟨k,rfl,s⟩,rfl⟩;have B:=pk s;clear s;go_wp2;go_ret;exact⟨congrArg (λb=>mc (.bool b)) B.out,rfl⟩
 clear H
 go_enter func289,ntmps289
 go_wp2_with fail
 refine u.mono ?_;rintro e w' ⟨rfl,rfl⟩;go_wp2;go_ret;exact⟨rfl,q⟩
theorem Lo (n:Nat)(hn:n<=140737488355328)(w:World):pr Y3 247 #[.slice none 0 0,.int .i64 n] w (yU w []):=by
 obtain⟨u,j,q,B,s⟩:=nK Yj;have x:IntKind.i64.wrap ((n:Int)-0)=(n:Int):=by rw[zg _];omega
 have z:IntKind.i64.wrap (n:Int)=(n:Int):=zg _
 by_cases e:0<n
 ·have k:=Lib.run_append_nil_zeros (P:=Y3) w 129 3 129 5 u (.int .u8 0) .i64 .i64 underlying129 underlying3 j q n e (by omega) (by omega) (by rw[s];omega);have h:=grownCap_le_maxLen w n 0 5 (by unfold oo;omega);have A:=grownCap_ge w n 0 5
  go_enter func247,ntmps247
  generalize grownCap w n 0 5=c at *;generalize i:gK (mG .u8 0).cells n++gK (mG .u8 0).cells (c-n)=cur at *
  go_wp2_with (at_builtin;refine Lib.wpList_append_run _ rfl (.tmp 20) (.tmp 21) _ _ rfl _ _ rfl rfl _ _ k ?_)
  go_ret;have f:ph w.heap.size w (w.drew.alloc (.cells cur 5)):=((pf _ w).drew).alloc (zG _) _;refine⟨_,rfl,⟨by simp,.inr ⟨w.heap.size,c,cur,rfl,zG _,nO w.drew _,gP _,h,?_,by simp⟩⟩,f⟩;rw[<-i,Array.size_append,size_zeroCells,size_zeroCells];simp[Value.cells];omega
 ·obtain rfl:n=0:=by omega
  go_enter func247,ntmps247
  go_wp2;go_ret;exact⟨_,rfl,yZ.nil _ _,pf _ _⟩
theorem Ee (ls:List Y4)(k:Nat)(h:k<ls.length):(ls.take (k+1)).flatten=(ls.take k).flatten++ls[k]:=by
 rw[zU h,yF];simp
theorem Ah (ls:List Y4)(k:Nat):(ls.take k).flatten.length<=ls.flatten.length:=by
 have:ls.flatten=(ls.take k).flatten++(ls.drop k).flatten:=by rw[<-yF,qJ]
 rw[this,zH];omega
theorem Xd (w:World)(A:Y5)(c:Nat)(zs:List (xC w w.heap.size))(u:Nd w w.heap.size A c zs)(aC:(zs.map xC.l).flatten.length<=1000000000):pr Y3 185 #[.slice A zs.length c] w (yU w (zs.map xC.l).flatten):=by
 have aB:=u.le;have aD:=u.max;have x:=λk=>Ah (zs.map xC.l) k
 have N:∀k (h:k<zs.length),((zs.map xC.l).take (k+1)).flatten=((zs.map xC.l).take k).flatten++zs[k].1.2:=λk h=>by rw[Ee _ _ (by simpa using h)];simp[xC.l]
 have G:((zs.map xC.l).take zs.length).flatten=(zs.map xC.l).flatten:=by rw[qB (by simp)]
 generalize zs.map xC.l=ls at *;have z:=pk N;have O:=pk G;clear N G
 go_enter func185,ntmps185
 go_wp2_with fail
 go_loop [3,11] (λs i=>∃k t:Nat,k<=zs.length/\i=.int .i64 k/\s=.int .i64 t/\t<=1000000000/\Hid (t=(ls.take k).flatten.length)) (λ_ i=>zs.length-(intOf i).toNat)
 case atStart=>exact⟨0,0,gP _,rfl,rfl,by omega,pk (by simp)⟩
 case round =>
  obtain⟨k,t,Z,rfl,rfl,ht,U⟩:=hrel
  by_cases f:k<zs.length
  ·obtain⟨g,o,rfl,I,hc⟩:=u.rC (by omega);have C:=hc k f;have q:zs[k].val=.slice zs[k].1.1.1 zs[k].1.2.length zs[k].1.1.2:=rfl;rw[q] at C;have M:t+zs[k].1.2.length=(ls.take (k+1)).flatten.length:=by rw[z.out k f,zH,U.out]
   have B:=x (k+1);have T:=pk M;have V:t+zs[k].1.2.length<=1000000000:=by omega
   have aE:IntKind.i64.wrap ((t:Int)+(zs[k].1.2.length:Int))=(t:Int)+(zs[k].1.2.length:Int):=zg _;clear hc q M B x
   go_wp2_with fail
   exact⟨⟨k+1,t+zs[k].1.2.length,by omega,by simp,by simp,V,T⟩,by simp[intOf];omega⟩
  ·obtain rfl:k=zs.length:=by omega
   go_wp2_with fail
   refine(Lo t (by omega) _).mono ?_;rintro e w1 ⟨v,rfl,j,hB⟩
   go_wp2_with fail
   go_loopw [6,27] (λv i wr=>∃k:Nat,k<=zs.length/\i=.int .i64 k/\yZ wr w.heap.size v (ls.take k).flatten/\ph w.heap.size w wr) (λ_ i _=>zs.length-(intOf i).toNat)
   case atStart=>exact⟨0,gP _,rfl,by simpa using j,hB⟩
   case round =>
    obtain⟨k,Z,rfl,j,hB⟩:=hrel;have F:=hB.size
    by_cases f:k<zs.length
    ·obtain⟨g,o,rfl,I,hc⟩:=u.rC (by omega);have C:=(hB.cell (p:=⟨g,o+k,none⟩) I).trans (hc k f);have q:zs[k].val=.slice zs[k].1.1.1 zs[k].1.2.length zs[k].1.1.2:=rfl;rw[q] at C;have hz:=(zs[k].2.below hB).more F;have B:=x (k+1);rw[z.out k f,zH] at B;clear hc q x;have t1:(ls.take k).flatten.length+zs[k].1.2.length<=140737488355328:=by omega
     go_wp2_with (at_builtin;refine Ug rfl (.tmp 31) (.tmp 32) rfl w.heap.size u6 (ls.take k).flatten (by rfl) j wr.heap.size zs[k].1.1.1 zs[k].1.1.2 zs[k].1.2 (by rfl) hz t1 F ?_;intro v' w2 aA X;have S:=j.below hB X)
     refine⟨⟨k+1,by omega,by simp,by rw[z.out k f];exact aA,S⟩,by simp[intOf];omega⟩
    ·obtain rfl:k=zs.length:=by omega
     go_wp2;go_ret;rw[O.out] at j;exact⟨_,rfl,j,hB⟩
end
section
open Go Go.RowKit
def qz (w w':World):Prop:=ph w.heap.size w w'
theorem qz.refl (w:World):qz w w:=pf _ _
theorem qz.trans {a b c:World}(h:qz a b)(k:qz b c):qz a c:=Below.trans h (Below.mono k h.size)
theorem qz.drew (w:World):qz w w.drew:=(pf _ _).drew
theorem qz.alloc (w:World)(o:Obj):qz w (w.alloc o):=(pf _ _).alloc (zG _) o
namespace Qp
variable {P:oV}{ops:Array oM}{FS:mr->Value->World->Prop}
def FSd (FS:mr->Value->World->Prop):Option mr->Value->World->Prop
 | some d,v,w=>FS d v w
 | none,_,_=>True
def OpOk (P:oV)(ops:Array oM)(FS:mr->Value->World->Prop)(w0:World)(o:oM):Prop :=
 ∀(a:oy) (w:World) (K:oy->World->Prop) (Q:nF->oy->World->Prop),qz w0 w->(∀t,(o.looksAt ops).contains t=true->FS t (a.eval (.tmp t)) w) ->
  (∀v w',qz w w'->FSd FS o.dst v w'->K (a.put o.dst v) w') ->
  (if og o (mR ops a.tmps) then o.wp P a w K Q∨(o.asks P a w/\LetsOut Q) else K (a.put o.dst ou) w)
def AllOk (P:oV)(ops:Array oM)(FS:mr->Value->World->Prop)(w0:World):List oM->Prop
 | []=>True
 | o::r=>OpOk P ops FS w0 o/\AllOk P ops FS w0 r
theorem AllOk.get {w0:World}:∀{l:List oM},AllOk P ops FS w0 l->∀o∈l,OpOk P ops FS w0 o
 | [],_,o,h=>by cases h
 | x::r,h,o,c=>by
  rcases qM.1 c with rfl|c
  ·exact h.1
  ·exact AllOk.get h.2 o c
def covered (ops:Array oM):Bool :=
 ops.toList.zipIdx.all λ(o,i) =>
  (o.after.toList.all λe => !oT .any e||decide (e.on<i)) &&
  (o.looksAt ops).all λt=>ops.toList.zipIdx.all λ(p,j)=>p.dst != some t||(o.after.toList.any λe=>oT .any e&&e.on==j)
def Known (ops:Array oM)(listed:Array Bool)(t:mr):Prop:=∀(j:Nat) (p:oM),ops[j]?=some p->p.dst=some t->listed.getD j true=true
structure J (ops:Array oM)(FS:mr->Value->World->Prop)(w0:World)(n:Nat)(d:List Deferred)(listed:Array Bool)(a:oy)(w:World):Prop where
 size:a.tmps.size=n
 defers:a.defers=d
 grow:qz w0 w
 facts:∀t,Known ops listed t->FS t (a.eval (.tmp t)) w
theorem eval_put_same {a:oy}{d:mr}{v:Value}(h:d<a.tmps.size):(a.put (some d) v).eval (.tmp d)=v:=by
 simp[pj,Act.eval,h]
theorem eval_put_other {a:oy}{d t:mr}{v:Value}(h:t≠d):(a.put (some d) v).eval (.tmp t)=a.eval (.tmp t):=by
 simp[pj,Act.eval,zV,Ne.symm h]
theorem ready_mem {i:Nat}{listed:Array Bool}(h:i∈oP .any ops listed):∃o,ops[i]?=some o/\listed.getD i true=false/\∀e∈o.after.toList,oT .any e=true->listed.getD e.on false=true:=by
 unfold oP at h;simp only[yB,List.mem_range,oZ,Bool.not_eq_true'] at h;obtain⟨k,h1,h2⟩:=h;cases c:ops[i]? with
 | none=>simp[c] at h2
 | some o =>
  refine⟨o,rfl,h1,?_⟩;simp only[c,dH,mF] at h2;intro e j f;rw[nT] at h2;have:=h2 e (Array.mem_toList_iff.1 j);simpa[f] using this
theorem covered_spec (h:covered ops=true){i:Nat}{o:oM}(s:ops[i]?=some o):(∀e∈o.after.toList,oT .any e=true->e.on<i) /\
  (∀t,(o.looksAt ops).contains t=true->∀(j:Nat) (p:oM),ops[j]?=some p->p.dst=some t->∃e∈o.after.toList,oT .any e=true/\e.on=j):=by
 unfold covered at h;rw[yC] at h;have q:(o,i)∈ops.toList.zipIdx:=by rw[nP];simpa using s
 have:=h _ q;simp only[oZ,yC] at this;obtain⟨h1,h2⟩:=this;constructor
 ·intro e f c;have:=h1 e f;simpa[c] using this
 ·intro t ht j p u hd;have x:(p,j)∈ops.toList.zipIdx:=by rw[nP];simpa using u
  have:=h2 t (by simpa using ht) _ x;simp only[hd,bne_self_eq_false,mZ,gS,oZ,beq_iff_eq] at this;obtain⟨e,f,c,k⟩:=this;exact⟨e,f,c,k⟩
def left (listed:Array Bool):Nat:=(listed.toList.filter (! ·)).length
theorem region_wpAny (hm:P.follows .mixedOrders=true)(F:covered ops=true){a0:oy}{w0:World}{Q:nF->oy->World->Prop}(n:Nat)(hn:a0.tmps.size=n)
  (X:∀o∈ops.toList,∀d,o.dst=some d->d<n) (FS:mr->Value->World->Prop)
  (O:∀t v w w',FS t v w->qz w w'->FS t v w')
  (aF:∀t,(∀o∈ops.toList,o.dst≠some t)->FS t (a0.eval (.tmp t)) w0)
  (aE:AllOk P ops FS w0 ops.toList)
  (aA:∀a w,a.tmps.size=n->a.defers=a0.defers->qz w0 w->(∀t,FS t (a.eval (.tmp t)) w)->Q .normal a w) :
  wpAny P .any ops Q ops.size (dO ops.size false) a0 {w0 with drawn:=w0.drawn+1}:=by
 have key:∀(q:Nat) (listed:Array Bool) (a:oy) (w:World),listed.size=ops.size->left listed<=q->J ops FS w0 n a0.defers listed a w->wpAny P .any ops Q q listed a w:=by
  intro q;have G:∀(listed:Array Bool) (a:oy) (w:World),listed.size=ops.size->J ops FS w0 n a0.defers listed a w->oP .any ops listed=[]->Q .normal a w:=by
   intro listed a w hs c s;have V:∀i,i<ops.size->listed.getD i true=true:=by
    intro i
    induction i using Nat.strongRecOn with
    | _ i ih =>
     intro k;cases hl:listed.getD i true with
     | true=>rfl
     | false =>
      exfalso;have:i∈oP .any ops listed:=by
       unfold oP;simp only[yB,List.mem_range,oZ,Bool.not_eq_true'];refine⟨k,hl,?_⟩;have f:ops[i]?=some ops[i]:=dE k;simp only[f,dH,mF];rw[nT];intro e A;have hc:=(covered_spec F f).1 e (Array.mem_toList_iff.2 A);cases z:oT .any e with
       | false=>simp
       | true =>
        have C:=hc z;have h1:=ih e.on C (by omega);have h2:e.on<listed.size:=by omega
        simp only[dZ,h2,dif_pos] at h1 ⊢;simpa using h1
      rw[s] at this;cases this
   refine aA a w c.size c.defers c.grow (λt=>c.facts t ?_);intro j p h _;exact V j (zK.1 h).1
  induction q with
  | zero =>
   intro listed a w hs hf c;have s:oP .any ops listed=[]:=by
    rcases s:oP .any ops listed with _|⟨i,r⟩
    ·rfl
    ·exfalso;obtain⟨o,f,hl,_⟩:=ready_mem (ops:=ops) (listed:=listed) (i:=i) (by rw[s];simp);have k:i<listed.size:=by rw[hs];exact(zK.1 f).1
     have aC:listed[i]∈listed.toList.filter (! ·):=by
      rw[yB];refine⟨by simp,?_⟩;have B:listed[i]=false:=by simpa[dZ,k] using hl
      simp[B]
     have:0<left listed:=List.length_pos_of_mem aC;omega
   exact⟨s,G listed a w hs c s⟩
  | succ q ih =>
   intro listed a w hs hf c;refine⟨G listed a w hs c,λi k => ?_⟩;obtain⟨o,f,hl,Z⟩:=ready_mem k;have N:o∈ops.toList:=by obtain⟨h1,h2⟩:=zK.1 f;subst h2;simp
   have x:i<listed.size:=by rw[hs];exact(zK.1 f).1
   have aB:∀t,(o.looksAt ops).contains t=true->FS t (a.eval (.tmp t)) w:=by
    intro t ht;refine c.facts t ?_;intro j p h hd;obtain⟨e,A,z,rfl⟩:=(covered_spec F f).2 t ht j p h hd;have:=Z e A z;have C:e.on<listed.size:=by rw[hs];exact(zK.1 h).1
    simp only[dZ,C,dif_pos] at this ⊢;exact this
   have aD:∀v w',qz w w'->FSd FS o.dst v w'->wpAny P .any ops Q q (listed.setIfInBounds i true) (a.put o.dst v) w':=by
    intro v w' I S;refine ih _ _ _ (by simpa using hs) ?_ ⟨?_,?_,c.grow.trans I,?_⟩
    ·have B:listed[i]=false:=by simpa[dZ,x] using hl
     have:left (listed.setIfInBounds i true)<left listed:=by
      unfold left;rw[Array.toList_setIfInBounds];have T:listed.toList=listed.toList.take i++false::listed.toList.drop (i+1):=by
       have U:listed.toList[i]'(by simpa using x)=false:=by simpa using B
       conv=>lhs;rw[<-qJ i listed.toList,qR (by simpa using x),U]
      rw[List.set_eq_take_append_cons_drop,if_pos (by simpa using x)]
      conv=>rhs;rw[T]
      simp
     omega
    ·cases hd:o.dst with
     | none=>simpa[pj] using c.size
     | some d=>simpa[pj] using c.size
    ·cases hd:o.dst with
     | none=>simpa[pj] using c.defers
     | some d=>simpa[pj] using c.defers
    ·intro t ht
     by_cases u:o.dst=some t
     ·rw[u] at S ⊢;rw[eval_put_same (by rw[c.size];exact X o N t u)];exact S
     ·have hk:Known ops listed t:=by
       intro j p h hd;have:=ht j p h hd
       by_cases e:i=j
       ·subst e;rw[f] at h;injection h with h
        subst h;exact absurd hd u
       ·simpa[zV,zS,e] using this
      have:=O t _ w w' (c.facts t hk) I;cases hd:o.dst with
      | none=>simpa[pj] using this
      | some d =>
       rw[eval_put_other (by intro e;subst e;exact u hd)];exact this
   have:=AllOk.get aE o N a w _ Q c.grow aB aD;unfold wpOp;simp only[f];exact this
 refine key ops.size _ a0 _ (by simp) ?_ ⟨hn,rfl,qz.drew w0,?_⟩
 ·unfold left;simp
 ·intro t ht;refine O t _ w0 _ (aF t ?_) (qz.drew w0);intro o f hd;obtain⟨i,k,rfl⟩:=yG f;have M:i<ops.size:=by simpa using k
  have:=ht i ops[i] (dE M) (by simpa using hd);simp[dZ,M] at this
theorem region (c:P.follows .mixedOrders=true)(e:covered ops=true){q:Nat}{a0:oy}{w0:World}{Q:nF->oy->World->Prop}(n:Nat)(hn:a0.tmps.size=n)
  (f:∀o∈ops.toList,∀d,o.dst=some d->d<n) (FS:mr->Value->World->Prop)
  (j:∀t v w w',FS t v w->qz w w'->FS t v w')
  (k:∀t,(∀o∈ops.toList,o.dst≠some t)->FS t (a0.eval (.tmp t)) w0)
  (i:AllOk P ops FS w0 ops.toList)
  (h:∀a w,a.tmps.size=n->a.defers=a0.defers->qz w0 w->(∀t,FS t (a.eval (.tmp t)) w)->Q .normal a w) :
  (gF q ops true).wp P Q a0 w0 :=
 wp_region_any c (region_wpAny c e n hn f FS j k i h)
variable {w0:World}{o:oM}
def RunOk (P:oV)(ops:Array oM)(FS:mr->Value->World->Prop)(w0:World)(o:oM):Prop :=
 ∀(a:oy) (w:World) (K:oy->World->Prop) (Q:nF->oy->World->Prop),qz w0 w->(∀t,(o.looksAt ops).contains t=true->FS t (a.eval (.tmp t)) w) ->
  (∀v w',qz w w'->FSd FS o.dst v w'->K (a.put o.dst v) w')->o.wp P a w K Q
theorem ok_none (f:o.guard=none)(h:RunOk P ops FS w0 o):OpOk P ops FS w0 o:=by
 intro a w K Q c hl e;rw[if_pos (by simp[og,f])];exact .inl (h a w K Q c hl e)
theorem ok_guard (j:Nat)(want:Bool)(d:mr)(q:o.guard=some (j,want))(hd:(ops[j]?).bind (·.dst)=some d)(hl:(o.looksAt ops).contains d=true)(hF:∀v w,FS d v w->v=.bool want)
  (h:RunOk P ops FS w0 o):OpOk P ops FS w0 o:=by
 intro a w K Q i c k;have e:=hF _ _ (c d hl);have s:og o (mR ops a.tmps)=true:=by
  have h2:a.tmps[d]?=some (.bool want):=by
   replace e:a.tmps.getD d ou=.bool want:=e;rw[zV] at e;cases f:a.tmps[d]? with
   | none=>rw[f] at e;cases e
   | some x=>rw[f] at e;simpa using e
  simp[og,q,mR,hd,h2]
 rw[if_pos s];exact .inl (h a w K Q i c k)
def Has (ops:Array oM)(FS:mr->Value->World->Prop)(o:oM)(x:py)(v:Value):Prop :=
 ∀(a:oy) (w:World),(∀t,(o.looksAt ops).contains t=true->FS t (a.eval (.tmp t)) w)->a.eval x=v
theorem has_tmp {t:mr}{v:Value}(h:(o.looksAt ops).contains t=true)(hF:∀u w,FS t u w->u=v):Has ops FS o (.tmp t) v:=λ_ _ hl=>hF _ _ (hl t h)
theorem has_const {v:Value}:Has ops FS o (.const v) v:=λ_ _ _=>rfl
theorem run_mvF (t:mr)(c:o.op=.move (.tmp t)∨o.op=.assign (.tmp t))(hc:(o.looksAt ops).contains t=true)(hd:∀v w,FS t v w->FSd FS o.dst v w):RunOk P ops FS w0 o:=by
 intro a w K Q f hl e;unfold de oB;rcases c with c|c<;>simp only[c,oU,Oper.upon_value]<;>exact e _ w (qz.refl w) (hd _ _ (hl t hc))
theorem run1 (x:py){u r:Value}(f:Has ops FS o x u)(e:∀(ρ:py->Value) (w:World),ρ x=u->(oB ρ o).run P w=.ok (.value r) w)(hd:∀w,FSd FS o.dst r w):RunOk P ops FS w0 o:=by
 intro a w K Q h hl c;unfold de;rw[e a.eval w (f a w hl)];exact c r w (qz.refl w) (hd w)
theorem run2 (x y:py){u v r:Value}(f:Has ops FS o x u)(h:Has ops FS o y v)(e:∀(ρ:py->Value) (w:World),ρ x=u->ρ y=v->(oB ρ o).run P w=.ok (.value r) w)(hd:∀w,FSd FS o.dst r w):RunOk P ops FS w0 o:=by
 intro a w K Q i hl c;unfold de;rw[e a.eval w (f a w hl) (h a w hl)];exact c r w (qz.refl w) (hd w)
theorem run_call (f:FuncId)(xs:Array py)(B:Array oD)(z:o.op=.call {callee:=.value (.func f),args:=xs,argTypes:=B})(u:∀args w,(dF f args).run P w=.ok (.enter f args) w)
  (args:Y7) (s:∀(a:oy) (w:World),(∀t,(o.looksAt ops).contains t=true->FS t (a.eval (.tmp t)) w)->xs.map a.eval=args)
  (j:∀w,qz w0 w->pr P f args w λe w'=>∃v,e=Y0 v/\qz w w'/\FSd FS o.dst v w'):RunOk P ops FS w0 o:=by
 intro a w K Q k hl q;have e:=s a w hl;unfold de;have A:(oB a.eval o).run P w=.ok (.enter f args) w:=by have c:(Array.map a.eval xs)=args:=e;have i:a.eval (.func f)=.func (.func f) #[] #[]:=rfl;have h:=u args w;simp[oB,z,resolve,c,i,nh,invoke,h]
 rw[A,Oper.upon_enter];refine(j w k).mono ?_;rintro e w' ⟨v,rfl,x,hf⟩;exact q v w' x hf
end Qp
end
section
open Go Go.RowKit vA
inductive vd where
 | val (v:Value)
 | res (l:Y4)
 | any
 | pred (p:Value->World->Prop) (h:∀v w w',p v w->qz w w'->p v w')
def vd.holds:vd->Value->World->Prop
 | .val x,v,_=>v=x
 | .res l,v,w=>∃A c,v=.slice A l.length c/\qq w w.heap.size A c l
 | .any,_,_=>True
 | .pred p _,v,w=>p v w
theorem vd.rN (f:vd){v:Value}{w w':World}(h:f.holds v w)(i:qz w w'):f.holds v w':=by
 cases f with
 | val x=>exact h
 | res l =>
  obtain⟨A,c,e,j⟩:=h;exact⟨A,c,e,(j.below i).more i.size⟩
 | any=>trivial
 | pred p hp=>exact hp v w w' h i
def qu:List (Nat×vd)->Nat->vd
 | [],_ => .any
 | (k,f)::r,t=>if k==t then f else qu r t
def xE (L:List (Nat×vd))(t:mr)(v:Value)(w:World):Prop:=(qu L t).holds v w
theorem xE.rN (L:List (Nat×vd))(t:mr)(v:Value)(w w':World)(h:xE L t v w)(c:qz w w'):xE L t v w':=vd.rN _ h c
def KC (ops:Array oM)(t:Nat):Bool:=ops.toList.any λo=>o.dst==some t
def ZY (ops:Array oM)(n:Nat):Bool:=ops.toList.all λo=>match o.dst with|some d=>decide (d<n)|none=>true
namespace Qp
def StartOk (a0:oy)(w0:World):List (Nat×vd)->Prop
 | []=>True
 | (k,f)::r=>f.holds (a0.eval (.tmp k)) w0/\StartOk a0 w0 r
theorem start_fact {a0:oy}{w0:World}{ops:Array oM}:∀(V W:List (Nat×vd)),StartOk a0 w0 V->(W.all λp=>KC ops p.1)=true->∀t,(∀o∈ops.toList,o.dst≠some t)->(qu (V++W) t).holds (a0.eval (.tmp t)) w0
 | [],[],_,_,t,_=>by simp[qu,vd.holds]
 | [],(k,f)::r,hV,hW,t,ht=>by
  simp only[List.all_cons,oZ] at hW;simp only[zQ,qu];split
  ·rename_i e
   obtain rfl:k=t:=by simpa using e
   exfalso;have:=hW.1;simp only[KC,gS,beq_iff_eq] at this;obtain⟨o,c,hd⟩:=this;exact ht o c hd
  ·exact start_fact [] r hV hW.2 t ht
 | (k,f)::r,W,hV,hW,t,ht=>by
  simp only[zX,qu];split
  ·rename_i e
   obtain rfl:k=t:=by simpa using e
   exact hV.1
  ·exact start_fact r W hV.2 hW t ht
theorem allOk_cons {P:oV}{ops:Array oM}{FS:mr->Value->World->Prop}{w0:World}{o:oM}{r:List oM}(h:OpOk P ops FS w0 o)(k:AllOk P ops FS w0 r):AllOk P ops FS w0 (o::r):=⟨h,k⟩
theorem allOk_nil {P:oV}{ops:Array oM}{FS:mr->Value->World->Prop}{w0:World}:AllOk P ops FS w0 []:=trivial
section rules
variable {ops:Array oM}{FS:mr->Value->World->Prop}{w0:World}{o:oM}
theorem rule_convS (x:py)(S D:oD){u r:Value}(h:o.op=.convert S D x)(k:Has ops FS o x u)(j:∀w,qz w0 w->(convert S D u).run Y3 w=.ok r w)(hd:∀w,FSd FS o.dst r w):RunOk Y3 ops FS w0 o:=by
 intro a w K Q c hl f;have e:=k a w hl;unfold de;have i:(oB a.eval o).run Y3 w=.ok (.value r) w:=by simp[oB,h,e,j w c,pv]
 rw[i];exact f r w (qz.refl w) (hd w)
theorem args1 {x:py}{u:Value}(h:Has ops FS o x u):∀(a:oy) (w:World),(∀t,(o.looksAt ops).contains t=true->FS t (a.eval (.tmp t)) w)->Array.map a.eval #[x]=#[u]:=λa w hl=>by simp[h a w hl]
end rules
theorem gives_grow {P:oV}{w:World}{f:FuncId}{args:Y7}{v:Value}(h:pr P f args w λe w'=>e=Y0 v/\ph w.heap.size w w'):pr P f args w λe w'=>∃u,e=Y0 u/\qz w w'/\u=v :=
 h.mono (by rintro e w' ⟨rfl,hB⟩;exact⟨_,rfl,hB,rfl⟩)
theorem gives_res {w:World}{f:FuncId}{args:Y7}{l:Y4}(h:pr Y3 f args w (yU w l)):pr Y3 f args w λe w'=>∃v,e=Y0 v/\qz w w'/\(vd.res l).holds v w' :=
 h.mono λe w' ⟨v,c,i,hB⟩=>⟨v,c,hB,i.inB⟩
def FD (L:List (Nat×vd)):Option mr->vd
 | some d=>qu L d
 | none => .any
theorem fsd {L:List (Nat×vd)}{d:Option mr}{f:vd}{v:Value}{w:World}(h:FD L d=f)(c:f.holds v w):FSd (xE L) d v w:=by
 cases d with
 | none=>trivial
 | some d=>subst h;exact c
section lists
variable {L:List (Nat×vd)}{ops:Array oM}{w0:World}{o:oM}{P:oV}
theorem hs (t:mr)(v:Value)(hc:(o.looksAt ops).contains t=true)(hF:qu L t=.val v):Has ops (xE L) o (.tmp t) v :=
 has_tmp hc λu w h=>by have c:(qu L t).holds u w:=h;rw[hF] at c;exact c
theorem hc (v:Value):Has ops (xE L) o (.const v) v:=has_const
theorem okg (j:Nat)(c:Bool)(d:mr)(f:o.guard=some (j,c))(hd:(ops[j]?).bind (·.dst)=some d)(hl:(o.looksAt ops).contains d=true)(hF:qu L d=.val (.bool c))
  (h:RunOk P ops (xE L) w0 o):OpOk P ops (xE L) w0 o :=
 ok_guard j c d f hd hl (λv w h=>by
  have e:(qu L d).holds v w:=h;rw[hF] at e
  exact e) h
theorem l_mvF (t:mr)(f:vd)(e:o.op=.move (.tmp t)∨o.op=.assign (.tmp t))(hc:(o.looksAt ops).contains t=true)(hF:qu L t=f)(hd:FD L o.dst=f):RunOk P ops (xE L) w0 o :=
 run_mvF t e hc λv w h=>fsd hd (by
  have c:(qu L t).holds v w:=h;rw[hF] at c
  exact c)
theorem l_run1 (x:py)(u r:Value)(e:Has ops (xE L) o x u)(c:∀(ρ:py->Value) (w:World),ρ x=u->(oB ρ o).run P w=.ok (.value r) w)(hd:FD L o.dst=.val r):RunOk P ops (xE L) w0 o :=
 run1 x e c λ_=>fsd hd rfl
theorem l_convS (x:py)(S D:oD)(u r:Value)(c:o.op=.convert S D x)(f:Has ops (xE L) o x u)(e:∀w,qz w0 w->(convert S D u).run Y3 w=.ok r w)(hd:FD L o.dst=.val r):RunOk Y3 ops (xE L) w0 o :=
 rule_convS x S D c f e λ_=>fsd hd rfl
theorem l_call (f:FuncId)(xs:Array py)(c:Array oD)(s:o.op=.call {callee:=.value (.func f),args:=xs,argTypes:=c})(k:∀args w,(dF f args).run P w=.ok (.enter f args) w)
  (args:Y7) (g:vd) (j:∀(a:oy) (w:World),(∀t,(o.looksAt ops).contains t=true->xE L t (a.eval (.tmp t)) w)->xs.map a.eval=args)
  (h:∀w,qz w0 w->pr P f args w λe w'=>∃v,e=Y0 v/\qz w w'/\g.holds v w') (hd:FD L o.dst=g):RunOk P ops (xE L) w0 o :=
 run_call f xs c s k args j λw i=>(h w i).mono λ_ _ ⟨v,e,q,hh⟩=>⟨v,e,q,fsd hd hh⟩
theorem l_callP (f:FuncId)(t:mr)(p:Value->World->Prop)(A:∀v w w',p v w->qz w w'->p v w')(C:Array oD)(z:o.op=.call {callee:=.value (.func f),args:=#[.tmp t],argTypes:=C})(s:∀args w,(dF f args).run P w=.ok (.enter f args) w)
  (g:vd) (hc:(o.looksAt ops).contains t=true) (hF:qu L t=.pred p A)
  (j:∀w u,qz w0 w->p u w->pr P f #[u] w λe w'=>∃v,e=Y0 v/\qz w w'/\g.holds v w') (hd:FD L o.dst=g):RunOk P ops (xE L) w0 o:=by
 intro a w K Q k hl q;have c:(qu L t).holds (a.eval (.tmp t)) w:=hl t hc;rw[hF] at c;have e:a.eval (.tmp t)=a.eval (.tmp t):=rfl;revert c e;generalize hu:a.eval (.tmp t)=u;intro c _;unfold de;have B:(oB a.eval o).run P w=.ok (.enter f #[u]) w:=by have i:a.eval (.func f)=.func (.func f) #[] #[]:=rfl;have h:=s #[u] w;simp[oB,z,resolve,hu,i,nh,invoke,h]
 rw[B,Oper.upon_enter];refine(j w u k c).mono ?_;rintro e w' ⟨v,rfl,x,hf⟩;exact q v w' x (fsd hd hf)
theorem l_run2W (x y:py)(g:vd)(u v:Value)(i:Has ops (xE L) o x u)(j:Has ops (xE L) o y v)
  (h:∀(ρ:py->Value) (w:World),qz w0 w->ρ x=u->ρ y=v->∃r w',(oB ρ o).run P w=.ok (.value r) w'/\qz w w'/\g.holds r w') (hd:FD L o.dst=g):RunOk P ops (xE L) w0 o:=by
 intro a w K Q e hl f;obtain⟨r,w',h1,h2,c⟩:=h a.eval w e (i a w hl) (j a w hl);unfold de;rw[h1];exact f r w' h2 (fsd hd c)
theorem l_run1W (x:py)(g:vd)(u:Value)(i:Has ops (xE L) o x u)
  (h:∀(ρ:py->Value) (w:World),qz w0 w->ρ x=u->∃r w',(oB ρ o).run P w=.ok (.value r) w'/\qz w w'/\g.holds r w') (hd:FD L o.dst=g):RunOk P ops (xE L) w0 o:=by
 intro a w K Q e hl f;obtain⟨r,w',h1,h2,c⟩:=h a.eval w e (i a w hl);unfold de;rw[h1];exact f r w' h2 (fsd hd c)
end lists
end Qp
namespace Qp
theorem OpOk.mono {P:oV}{ops:Array oM}{FS c:mr->Value->World->Prop}{w0:World}{o:oM}(h:OpOk P ops FS w0 o)(h1:∀t v w,c t v w->FS t v w)(h2:∀d v w,o.dst=some d->FS d v w->c d v w):OpOk P ops c w0 o:=by
 intro a w K Q e hl f;refine h a w K Q e (λt ht=>h1 _ _ _ (hl t ht)) (λv w' i hf=>f v w' i ?_);cases hd:o.dst with
 | none=>trivial
 | some d =>
  rw[hd] at hf;exact h2 d v w' hd hf
theorem AllOk.mono {P:oV}{ops:Array oM}{FS c:mr->Value->World->Prop}{w0:World}(h1:∀t v w,c t v w->FS t v w):∀{l:List oM},(∀o∈l,∀d v w,o.dst=some d->FS d v w->c d v w)->AllOk P ops FS w0 l->AllOk P ops c w0 l
 | [],_,_=>trivial
 | o::r,h2,h=>⟨h.1.mono h1 (h2 o (List.mem_cons_self ..)),h.2.mono h1 λo e=>h2 o (List.mem_cons_of_mem _ e)⟩
def dstsAre (ops:Array oM)(D:List Nat):Bool:=ops.toList.all λo=>match o.dst with|some d=>D.contains d|none=>true
theorem region_acts {P:oV}{ops:Array oM}(A:P.follows .mixedOrders=true)(u:covered ops=true){C:Nat}{a0:oy}{w0:World}{Q:nF->oy->World->Prop}(n:Nat)(hn:a0.tmps.size=n)
  (f:ZY ops n=true) (D:List Nat) (e:dstsAre ops D=true) (V W:List (Nat×vd)) (q:StartOk a0 w0 V) (s:(W.all λp=>KC ops p.1)=true)
  (B:AllOk P ops (xE (V++W)) w0 ops.toList)
  (x:∀a w,a.tmps.size=n->a.defers=a0.defers->qz w0 w->(∀t,xE (V++W) t (a.eval (.tmp t)) w)->(∀t,D.contains t=false->a.eval (.tmp t)=a0.eval (.tmp t))->Q .normal a w) :
  (gF C ops true).wp P Q a0 w0:=by
 have k:∀o∈ops.toList,∀d,o.dst=some d->D.contains d=true:=by intro o c d hd;unfold dstsAre at e;rw[yC] at e;have:=e o c;simpa[hd] using this
 refine region A u n hn ?_ (λt v w=>xE (V++W) t v w/\(D.contains t=false->v=a0.eval (.tmp t))) (λt v w w' h z=>⟨xE.rN _ _ _ _ _ h.1 z,h.2⟩) (λt ht=>⟨start_fact V W q s t ht,λ_=>rfl⟩)
  (AllOk.mono (λ_ _ _ h=>h.1) (λo c d v w hd h=>⟨h,λhn=>by rw[k o c d hd] at hn;cases hn⟩) B) ?_
 ·intro o c d hd;unfold ZY at f;rw[yC] at f;have:=f o c;simpa[hd] using this
 ·intro a w h1 h2 j i;exact x a w h1 h2 j (λt=>(i t).1) (λt=>(i t).2)
theorem acts_eq {a a0:oy}:∀(D:List Nat),a.tmps.size=a0.tmps.size->a.defers=a0.defers->(∀t,D.contains t=false->a.eval (.tmp t)=a0.eval (.tmp t))->a=D.foldl (λx d=>x.put (some d) (a.eval (.tmp d))) a0:=by
 have f:∀(x:oy) d v,(x.put (some d) v).tmps.size=x.tmps.size:=by intro x d v;simp[pj]
 have key:∀(D:List Nat) (b:oy),a.tmps.size=b.tmps.size->a.defers=b.defers->(∀t,D.contains t=false->a.eval (.tmp t)=b.eval (.tmp t))->a=D.foldl (λx d=>x.put (some d) (a.eval (.tmp d))) b:=by
  intro D
  induction D with
  | nil =>
   intro b hs hd h;have:a.tmps=b.tmps:=by apply Array.ext hs;intro i h1 h2;have:=h i rfl;simpa[Act.eval,dZ,h1,h2] using this
   cases a;cases b;simp_all
  | cons d r ih =>
   intro b hs hd h;rw[dY];refine ih _ (by rw[f];exact hs) (by simp[pj,hd]) ?_;intro t ht
   by_cases e:t=d
   ·subst e
    by_cases c:t<b.tmps.size
    ·rw[eval_put_same c]
    ·have h1:¬ t<a.tmps.size:=by omega
     simp[pj,Act.eval,zV,h1,c]
   ·rw[eval_put_other e];exact h t (by simp only[List.contains_cons,Bool.or_eq_false_iff];exact⟨by simpa using e,ht⟩)
 exact λD=>key D a0
section lists
variable {L:List (Nat×vd)}{ops:Array oM}{w0:World}{o:oM}{P:oV}
theorem okg_not (j:Nat)(want:Bool)(d:mr)(k:o.guard=some (j,want))(hd:(ops[j]?).bind (·.dst)=some d)(hl:(o.looksAt ops).contains d=true)(hF:qu L d=.val (.bool !want))(h:FD L o.dst=.any):OpOk P ops (xE L) w0 o:=by
 intro a w K Q u q i;have c:(qu L d).holds (a.eval (.tmp d)) w:=q d hl;rw[hF] at c;have e:a.eval (.tmp d)=.bool !want:=c;have s:og o (mR ops a.tmps)=false:=by
  have h2:a.tmps[d]?=some (.bool !want):=by
   replace e:a.tmps.getD d ou=.bool !want:=e;rw[zV] at e;cases f:a.tmps[d]? with
   | none=>rw[f] at e;cases e
   | some x=>rw[f] at e;simpa using e
  cases want<;>simp[og,k,mR,hd,h2]
 rw[if_neg (by simp[s])];exact i ou w (qz.refl w) (fsd h trivial)
theorem l_pickF (x y z:py)(r:Value)(c:o.op=.pick x y z)(e:Has ops (xE L) o x (.bool false))(f:Has ops (xE L) o z r)(hd:FD L o.dst=.val r):RunOk P ops (xE L) w0 o :=
 run2 x z e f (λρ w h1 h2=>by simp[oB,c,h1,h2,asBool]) λ_=>fsd hd rfl
theorem l_pickT (x y z:py)(r:Value)(c:o.op=.pick x y z)(e:Has ops (xE L) o x (.bool true))(f:Has ops (xE L) o y r)(hd:FD L o.dst=.val r):RunOk P ops (xE L) w0 o :=
 run2 x y e f (λρ w h1 h2=>by simp[oB,c,h1,h2,asBool]) λ_=>fsd hd rfl
theorem l_load (x:py)(p:px)(T:oD)(v:Value)(c:∀w:World,(isAgg T).run P w=.ok false w)(i:o.op=.load T x)(j:Has ops (xE L) o x (.pointer (some p)))(e:∀w,qz w0 w->w.cell? p=some v)(hd:FD L o.dst=.val v):RunOk P ops (xE L) w0 o:=by
 refine l_run1W x (.val v) _ j (λρ w f h=>⟨v,w,?_,qz.refl _,rfl⟩) hd;have hc:=e w f;simp[oB,i,h,go_sem,c,hc,pv]
end lists
end Qp
def xN (ls:List Y4)(v:Value)(w:World):Prop :=
 ∃b,v=.slice (some ⟨b,0,none⟩) ls.length ls.length/\b<w.heap.size/\∀j (h:j<ls.length),∃A c,w.cell? ⟨b,j,none⟩=some (.slice A ls[j].length c)/\qq w w.heap.size A c ls[j]
theorem xi (ls:List Y4):∀v w w',xN ls v w->qz w w'->xN ls v w':=by
 rintro v w w' ⟨b,k,f,h⟩ e;refine⟨b,k,zO f e.size,λj i => ?_⟩;obtain⟨A,c,h1,h2⟩:=h j i;exact⟨A,c,(e.cell (p:=⟨b,j,none⟩) f).trans h1,(h2.below e).more e.size⟩
theorem xN.pieces {ls:List Y4}{v:Value}{w:World}(h:xN ls v w)(u:ls.length<=1000):∃b,∃zs:List (xC w w.heap.size),v=.slice (some ⟨b,0,none⟩) zs.length zs.length/\zs.map xC.l=ls/\Nd w w.heap.size (some ⟨b,0,none⟩) zs.length zs:=by
 obtain⟨b,rfl,s,h⟩:=h;have key:∀n,n<=ls.length->∃zs:List (xC w w.heap.size),zs.length=n/\zs.map xC.l=ls.take n/\∀j (f:j<zs.length),w.cell? ⟨b,j,none⟩=some zs[j].val:=by
  intro n
  induction n with
  | zero=>exact λ_=>⟨[],rfl,by simp,λj f=>by simp at f⟩
  | succ n ih =>
   intro hn;obtain⟨zs,h1,h2,i⟩:=ih (by omega);obtain⟨A,c,k,q⟩:=h n (by omega);refine⟨zs++[⟨((A,c),ls[n]),q⟩],by simp[h1],?_,λj f => ?_⟩
   ·rw[qW,h2,zU (by omega)];rfl
   ·by_cases e:j<zs.length
    ·rw[List.getElem_append_left e];exact i j e
    ·have:j=n:=by simp at f;omega
     subst this;rw[List.getElem_append_right (by omega)];simp only[h1,Nat.sub_self,zB];exact k
 obtain⟨zs,h1,h2,i⟩:=key ls.length (zG _);refine⟨b,zs,by rw[h1],by rw[h2,dD],⟨zG _,by omega,λ_=>⟨b,0,rfl,s,λj f=>by rw[qC];exact i j f⟩⟩⟩
theorem jV {ls:List Y4}{v:Value}{w:World}(h:xN ls v w)(f:ls.length<=1000)(hf:ls.flatten.length<=1000000000):pr Y3 185 #[v] w (yU w ls.flatten):=by
 obtain⟨b,zs,rfl,c,e⟩:=h.pieces f;have:=Xd w (some ⟨b,0,none⟩) zs.length zs e (by rw[c];exact hf);rw[c] at this;exact this
theorem xN.new {w:World}(xs:List ((Y5×Nat)×Y4))(h:∀x∈xs,qq w w.heap.size x.1.1 x.1.2 x.2):xN (xs.map (·.2)) (.slice (some ⟨w.heap.size,0,none⟩) xs.length xs.length) (w.alloc (.cells (xs.map λx=>dW x.1.1 x.2.length x.1.2).toArray 129)):=by
 refine⟨w.heap.size,by simp,by simp,λj e => ?_⟩;have c:j<xs.length:=by simpa using e
 refine⟨xs[j].1.1,xs[j].1.2,?_,?_⟩
 ·rw[(za.new w 129 _).cell];simp[c]
 ·have:=h xs[j] (qI c);rw[List.getElem_map];exact(this.below ((pf _ w).alloc (zG _) _)).more (by simp)
theorem yZ.base {w:World}{b c:Nat}{v:Value}{l:Y4}(h:yZ w b v l)(i:c<=b):yZ w c v l:=by
 refine⟨h.1,?_⟩;rcases h.2 with h|⟨g,e,cur,h1,h2,f⟩
 ·exact .inl h
 ·exact .inr ⟨g,e,cur,h1,by omega,f⟩
theorem yU.from {w f:World}{l:Y4}{e:Ending}{w':World}(h:yU f l e w')(c:ph w.heap.size w f):yU w l e w':=by
 obtain⟨v,i,j,hB⟩:=h;exact⟨v,i,j.base c.size,c.trans (hB.mono c.size)⟩
theorem Yl (W:World)(A i:Y5)(c c2:Nat)(l f:Y4)(s:qq W W.heap.size A c l)(u:qq W W.heap.size i c2 f)(hf:l.length+f.length<=1000000000):pr Y3 185 #[.slice (some ⟨W.heap.size,0,none⟩) 2 2] (W.alloc (.cells #[.slice A l.length c,.slice i f.length c2] 129)) (yU W (l++f)):=by
 have k:=xN.new (w:=W) [((A,c),l),((i,c2),f)] (by
  intro x j;simp only[qM,dG,or_false] at j;rcases j with rfl|rfl
  ·exact s
  ·exact u)
 have h:=jV k (by simp) (by simpa using hf);refine h.mono λe w' q => ?_
 have:=q.from ((pf _ W).alloc (zG _) _);simpa using this
namespace Qp
variable {L:List (Nat×vd)}{ops:Array oM}{w0:World}{o:oM}
theorem l_build4 (t1 c t3 t4:mr)(e f h i:Y4)(ho:o.op=.buildSlice 142 4 #[(0,.tmp t1),(1,.tmp c),(2,.tmp t3),(3,.tmp t4)])
  (c1:(o.looksAt ops).contains t1=true) (c2:(o.looksAt ops).contains c=true) (c3:(o.looksAt ops).contains t3=true) (I:(o.looksAt ops).contains t4=true)
  (T:qu L t1=.res e) (U:qu L c=.res f) (V:qu L t3=.res h) (X:qu L t4=.res i) (hd:FD L o.dst=.pred (xN [e,f,h,i]) (xi _)):RunOk Y3 ops (xE L) w0 o:=by
 intro a w K Q hG hl Z;have A:(qu L t1).holds (a.eval (.tmp t1)) w:=hl t1 c1;have B:(qu L c).holds (a.eval (.tmp c)) w:=hl c c2;have C:(qu L t3).holds (a.eval (.tmp t3)) w:=hl t3 c3;have F:(qu L t4).holds (a.eval (.tmp t4)) w:=hl t4 I;rw[T] at A;rw[U] at B;rw[V] at C;rw[X] at F;obtain⟨j,k1,M,h1⟩:=A;obtain⟨k,k2,N,h2⟩:=B;obtain⟨q,k3,O,u⟩:=C;obtain⟨s,k4,S,z⟩:=F
 have hN:=xN.new (w:=w) [((j,k1),e),((k,k2),f),((q,k3),h),((s,k4),i)] (by
  intro x G;simp only[qM,dG,or_false] at G;rcases G with rfl|rfl|rfl|rfl
  ·exact h1
  ·exact h2
  ·exact u
  ·exact z)
 have key:∀ρ:py->Value,ρ (.tmp t1)=.slice j e.length k1->ρ (.tmp c)=.slice k f.length k2->ρ (.tmp t3)=.slice q h.length k3->ρ (.tmp t4)=.slice s i.length k4 ->
   (oB ρ o).run Y3 w=.ok (.value (.slice (some ⟨w.heap.size,0,none⟩) 4 4)) (w.alloc (.cells #[.slice j e.length k1,.slice k f.length k2,.slice q h.length k3,.slice s i.length k4] 129)) :=
  λρ h1 h2 u z=>by simp[oB,ho,h1,h2,u,z,go_sem,pv]
 unfold de;rw[key _ M N O S];exact Z _ _ (qz.alloc _ _) (fsd hd hN)
end Qp
def xB (fr pg:Int):Bool:=YA 1 2000 [fr]&&YA 1 2000 [pg]
theorem vN (fr pg:Int):xB fr pg=true↔(1<=fr/\fr<=2000)/\(1<=pg/\pg<=2000):=by
 simp[xB,Gw]
theorem Br.one (W:World)(x:Int):Br (W.alloc (.cells #[.int .i64 x] 3)) (some ⟨W.heap.size,0,none⟩) [x]:=⟨λ_=>⟨_,_,rfl,λj c=>by
 obtain rfl:j=0:=by simpa using c
 exact(za.new W 3 #[.int .i64 x]).boxed⟩⟩
theorem vX (W:World)(f c x:Int):pr Y3 289 #[.int .i64 f,.int .i64 c,.slice (some ⟨W.heap.size,0,none⟩) 1 1] (W.alloc (.cells #[.int .i64 x] 3)) λe w'=>e=Y0 (.bool (YA f c [x]))/\ph W.heap.size W w' :=
 (KE (W.alloc (.cells #[.int .i64 x] 3)) (some ⟨W.heap.size,0,none⟩) 1 [x] (Br.one W x) (λg o e=>by injection e with e;injection e with e1;subst e1;simp) (by simp) f c).mono λe w' ⟨h,hB⟩ =>
  ⟨h,((pf _ W).alloc (zG _) _).trans (hB.mono (by simp))⟩
theorem Tl (fr pg:Int)(w:World):pr Y3 223 #[.agg #[.int .i64 fr,.int .i64 pg]] w λe w'=>e=Y0 (.int .i64 (if xB fr pg then 0 else 2))/\ph w.heap.size w w':=by
 have s:=za.new w 74 #[.int .i64 fr,.int .i64 pg];have k:ph w.heap.size w (w.alloc (.cells #[.int .i64 fr,.int .i64 pg] 74)):=(pf _ w).alloc (zG _) _;obtain⟨v,i⟩:∃v:Int,v=if xB fr pg then 0 else 2:=⟨_,rfl⟩
 rw[<-i];have h:=pk i;clear i
 go_enter func223,ntmps223
 have H:=vX (w.alloc (.cells #[.int .i64 fr,.int .i64 pg] 74)) 1 2000 fr;rw[pq] at H;cases h1:YA 1 2000 [fr] with
 | false =>
  rw[h1] at H;have c:v=2:=by rw[h.out];simp[xB,h1]
  subst c
  go_wp2_with (go_at_call 289;refine H.mono ?_;rintro e j ⟨rfl,hB⟩)
  go_ret;exact⟨rfl,k.trans (hB.mono (by simp))⟩
 | true =>
  rw[h1] at H
  go_wp2_with fail
  refine H.mono ?_;clear H;rintro e j ⟨rfl,hB⟩;have u:=s.below hB (by simp);have x:j.cell? ⟨w.heap.size,1,none⟩=some (.int .i64 pg):=by rw[u.cell];rfl
  have f:=k.trans (hB.mono (by simp));have H:=vX j 1 2000 pg
  go_wp2_with fail
  refine H.mono ?_;clear H;rintro e z ⟨rfl,q⟩;cases h2:YA 1 2000 [pg] with
  | false =>
   have c:v=2:=by rw[h.out];simp[xB,h2]
   subst c;go_wp2;go_ret;exact⟨rfl,f.trans (q.mono f.size)⟩
  | true =>
   have c:v=0:=by rw[h.out];simp[xB,h1,h2]
   subst c;go_wp2;go_ret;exact⟨rfl,f.trans (q.mono f.size)⟩
def ME (ok:Bool)(i many:Int):Int:=if ok then (if 0<=i/\i<many then 0 else 4) else 2
def uk (e:Int)(a:oy):Prop:=∃u0 u1 u2 u3 u4 u5 u6 u7 u8 u10 u11 u12 u13 u14 u15 u16 u17 u18 u19 u20 u21 u22 u23,a={tmps:=#[u0,u1,u2,u3,u4,u5,u6,u7,u8,.int .i64 e,u10,u11,u12,u13,u14,u15,u16,u17,u18,u19,u20,u21,u22,u23],defers:=[]}
theorem ZM (fr pg i many r:Int)(g:FuncId)(lb:Y7)(A:∀args w,(dF g args).run Y3 w=.ok (.enter g args) w)(w:World)
  (s:xB fr pg=true->0<=i->i<many->∀W,ph w.heap.size w W->pr Y3 g lb W λe w'=>e=Y0 (.int .i64 r)/\W=w') :
  pr Y3 161 #[.agg #[.int .i64 fr,.int .i64 pg],.int .i64 i,.int .i64 many,.func (.func g) #[] lb] w λe w' =>
   e=Y0 (.tuple #[.int .i64 (if ME (xB fr pg) i many=0 then r else 0),.int .i64 (ME (xB fr pg) i many)])/\ph w.heap.size w w':=by
 have j:ph w.heap.size w (w.alloc (.cells #[.int .i64 fr,.int .i64 pg] 74)):=(pf _ w).alloc (zG _) _;obtain⟨v,x⟩:∃v:Int,v=ME (xB fr pg) i many:=⟨_,rfl⟩;obtain⟨u,hu⟩:∃u:Int,u=if v=0 then r else 0:=⟨_,rfl⟩
 rw[<-x,<-hu];have q:=pk x;have k:=pk hu;clear x hu
 go_enter func161,ntmps161
 go_wp2_with fail
 refine wp_scope_jumps (rest:=?rest) 0 (λa w'=>Hid (u=0)/\uk v a/\ph w.heap.size w w') (λ_ _=>0) ?hf ?first ?pass
 case hf=>exact rfl
 case pass =>
  rintro a w' ⟨hn,⟨C,u1,u2,u3,u4,u5,u6,u7,u8,u10,u11,u12,u13,u14,u15,u16,u17,u18,u19,u20,u21,u22,u23,rfl⟩,hB⟩;go_wp2;simp only[mM];go_wp2;refine oE (oN rfl _ _ _) rfl ?_;have e:=hn.out;subst e;exact⟨rfl,hB⟩
 case first =>
  have H:=Tl fr pg (w.alloc (.cells #[.int .i64 fr,.int .i64 pg] 74));cases h:xB fr pg with
  | false =>
   rw[h] at H;have c:v=2:=by rw[q.out,h];rfl
   have f:Hid (u=0):=pk (by rw[k.out,c];rfl);subst c
   go_wp2_with (go_at_call 223;refine H.mono ?_;rintro e z ⟨rfl,hB⟩)
   go_step3
   exact⟨rfl,f,by repeat (first|exact rfl|apply nw),j.trans (hB.mono (by simp))⟩
  | true =>
   rw[h] at H
   by_cases h1:0<=i/\i<many
   ·have c:v=0:=by rw[q.out,h];simp[ME,h1]
    have f:u=r:=by rw[k.out,c];rfl
    subst c f;have s:=s h h1.1 h1.2;obtain⟨h1,h2⟩:=h1
    go_wp2_with (go_at_call 223;refine H.mono ?_;rintro e z ⟨rfl,hB⟩)
    refine(s _ (j.trans (hB.mono (by simp)))).mono ?_;rintro e F ⟨rfl,rfl⟩;go_wp2;simp only[mM];refine oE (oN rfl _ _ _) rfl ?_;exact⟨rfl,j.trans (hB.mono (by simp))⟩
   ·have c:v=4:=by rw[q.out,h];simp[ME,h1]
    have f:Hid (u=0):=pk (by rw[k.out,c];rfl);subst c;have h2:i<0∨(0<=i/\many<=i):=by omega
    clear h1;rcases h2 with h2|⟨h2,B⟩
    ·go_wp2_with (go_at_call 223;refine H.mono ?_;rintro e z ⟨rfl,hB⟩)
     go_step3
     exact⟨rfl,f,by repeat (first|exact rfl|apply nw),j.trans (hB.mono (by simp))⟩
    ·go_wp2_with (go_at_call 223;refine H.mono ?_;rintro e z ⟨rfl,hB⟩)
     go_step3
     exact⟨rfl,f,by repeat (first|exact rfl|apply nw),j.trans (hB.mono (by simp))⟩
def vf (z c:Int):Bool:=YA 0 2000 [z]&&YA 0 2000 [c]
theorem XZ (z c:Int):vf z c=true↔(0<=z/\z<=2000)/\(0<=c/\c<=2000):=by
 simp[vf,Gw]
theorem Jr (s e:Nat)(z c:Int)(w:World):pr Y3 227 #[.agg #[.int .u64 (s:Int),.int .u64 (e:Int),.int .i64 z,.int .i64 c]] w λx w'=>x=.returned (.bool (vf z c))/\ph w.heap.size w w':=by
 have A:=za.new w 173 #[.int .u64 (s:Int),.int .u64 (e:Int),.int .i64 z,.int .i64 c];have j:ph w.heap.size w (w.alloc (.cells #[.int .u64 (s:Int),.int .u64 (e:Int),.int .i64 z,.int .i64 c] 173)):=(pf _ w).alloc (zG _) _;have H:=vX (w.alloc (.cells #[.int .u64 (s:Int),.int .u64 (e:Int),.int .i64 z,.int .i64 c] 173)) 0 2000 z;rw[pq] at H;obtain⟨v,h⟩:∃v:Bool,v=vf z c:=⟨_,rfl⟩;rw[<-h];have q:=pk h;clear h
 go_enter func227,ntmps227
 cases h1:YA 0 2000 [z] with
 | false =>
  rw[h1] at H;have f:v=false:=by rw[q.out];simp[vf,h1]
  subst f
  go_wp2_with (go_at_call 289;refine H.mono ?_;rintro e i ⟨rfl,hB⟩)
  go_ret;exact⟨rfl,j.trans (hB.mono (by simp))⟩
 | true =>
  rw[h1] at H
  go_wp2_with fail
  refine H.mono ?_;clear H;rintro e i ⟨rfl,hB⟩;have B:=A.below hB (by simp);have C:i.cell? ⟨w.heap.size,3,none⟩=some (.int .i64 c):=by rw[B.cell];rfl
  have k:=j.trans (hB.mono (by simp));have H:=vX i 0 2000 c;have f:v=YA 0 2000 [c]:=by rw[q.out];simp[vf,h1]
  generalize YA 0 2000 [c]=b at *;subst f
  go_wp2_with fail
  refine H.mono ?_;clear H;rintro e F ⟨rfl,u⟩;go_wp2;go_ret;exact⟨rfl,k.trans (u.mono k.size)⟩
theorem Km (x:Nat)(h:x<4294967296):bits .and .u64 (x:Int) 4294967295=(x:Int):=by
 have h2:=u64_and_nat x 4294967295 (by omega) (by omega);have e:x &&& 4294967295=x%4294967296:=Nat.and_two_pow_sub_one_eq_mod x 32;rw[e,Nat.mod_eq_of_lt h] at h2;exact h2
theorem Sx (x y:Nat)(f:x<65536)(i:y<65536)(w:World):pr Y3 363 #[.int .u64 x,.int .u64 y] w λe w'=>e=Y0 (.tuple #[.int .u64 0,.int .u64 ((x*y:Nat):Int)])/\w=w':=by
 have h:x*y<4294967296:=Nat.mul_lt_mul'' f i;have q:=Km x (by omega);have s:=Km y (by omega);have j:=Km (x*y) h;have u:(x:Int) / 4294967296=0:=by omega
 have h1:(y:Int) / 4294967296=0:=by omega
 have h2:((x*y:Nat):Int) / 4294967296=0:=by omega
 have k:IntKind.u64.wrap ((x*y:Nat):Int)=((x*y:Nat):Int):=by
  show ((x*y:Nat):Int)%18446744073709551616=_
  omega
 have z:IntKind.u64.wrap 0=0:=by decide
 have c:((x*y:Nat):Int)=(x:Int)*(y:Int):=by simp
 rw[c] at j h2 k ⊢;have A:bits .and .u64 0 4294967295=0:=Km 0 (by omega);clear c h f i
 go_enter func363,ntmps363
 go_wp2;refine oE (oN rfl _ _ _) rfl ?_;exact⟨rfl,rfl⟩
theorem IX (x y:Nat)(c:x<65536)(f:y<65536)(w:World):pr Y3 328 #[.int .u64 x,.int .u64 y] w λe w'=>e=Y0 (.tuple #[.int .u64 0,.int .u64 ((x*y:Nat):Int)])/\w=w':=by
 have H:=Sx x y c f w;generalize x*y=z at *
 go_enter func328,ntmps328
 go_wp2_with fail
 refine H.mono ?_;rintro e w' ⟨rfl,rfl⟩;go_wp2;refine oE (oN rfl _ _ _) rfl ?_;exact⟨rfl,rfl⟩
end
section
open Go Go.RowKit
namespace Qp
variable {P:oV}{ops:Array oM}
def backs (ops:Array oM):Bool:=ops.toList.zipIdx.all λ(o,i)=>o.after.toList.all λe => !oT .any e||decide (e.on<i)
def ahead (ops:Array oM)(o:oM)(t:Nat):Bool:=ops.toList.zipIdx.all λ(p,j)=>p.dst != some t||(o.after.toList.any λe=>oT .any e&&e.on==j)
def waits (ops:Array oM)(i:Nat)(t:Nat):Bool:=ops.toList.zipIdx.all λ(p,_)=>p.dst != some t||(p.after.toList.any λe=>oT .any e&&e.on==i)
theorem backs_spec (h:backs ops=true){i:Nat}{o:oM}(k:ops[i]?=some o):∀e∈o.after.toList,oT .any e=true->e.on<i:=by
 unfold backs at h;rw[yC] at h;have j:(o,i)∈ops.toList.zipIdx:=by rw[nP];simpa using k
 have:=h _ j;simp only[yC] at this;intro e f c;have:=this e f;simpa[c] using this
theorem ahead_spec {o:oM}{t:Nat}(h:ahead ops o t=true){j:Nat}{p:oM}(q:ops[j]?=some p)(hd:p.dst=some t):∃e∈o.after.toList,oT .any e=true/\e.on=j:=by
 unfold ahead at h;rw[yC] at h;have k:(p,j)∈ops.toList.zipIdx:=by rw[nP];simpa using q
 have:=h _ k;simp only[hd,bne_self_eq_false,mZ,gS,oZ,beq_iff_eq] at this;obtain⟨e,f,c,i⟩:=this;exact⟨e,f,c,i⟩
theorem waits_spec {i t:Nat}(h:waits ops i t=true){j:Nat}{p:oM}(s:ops[j]?=some p)(hd:p.dst=some t):∃e∈p.after.toList,oT .any e=true/\e.on=i:=by
 unfold waits at h;rw[yC] at h;have q:(p,j)∈ops.toList.zipIdx:=by rw[nP];simpa using s
 have:=h _ q;simp only[hd,bne_self_eq_false,mZ,gS,oZ,beq_iff_eq] at this;obtain⟨e,f,c,k⟩:=this;exact⟨e,f,c,k⟩
def StepOk (P:oV)(ops:Array oM)(Inv:Array Bool->oy->World->Prop)(i:Nat)(o:oM):Prop :=
 ∀(listed:Array Bool) (a:oy) (w:World) (K:oy->World->Prop) (Q:nF->oy->World->Prop),listed.size=ops.size->listed.getD i true=false->(∀e∈o.after.toList,oT .any e=true->listed.getD e.on false=true) ->
  Inv listed a w->(∀v w',Inv (listed.setIfInBounds i true) (a.put o.dst v) w'->K (a.put o.dst v) w') ->
  (if og o (mR ops a.tmps) then o.wp P a w K Q∨(o.asks P a w/\LetsOut Q) else K (a.put o.dst ou) w)
theorem region_inv (O:P.follows .mixedOrders=true)(F:backs ops=true){X:Nat}{a0:oy}{w0:World}{Q:nF->oy->World->Prop}(Inv:Array Bool->oy->World->Prop)
  (A:Inv (dO ops.size false) a0 w0.drew) (U:∀i o,ops[i]?=some o->StepOk P ops Inv i o)
  (M:∀listed a w,listed.size=ops.size->(∀i,i<ops.size->listed.getD i true=true)->Inv listed a w->Q .normal a w) :
  (gF X ops true).wp P Q a0 w0:=by
 refine wp_region_any O ?_;have key:∀(f:Nat) (listed:Array Bool) (a:oy) (w:World),listed.size=ops.size->left listed<=f->Inv listed a w->wpAny P .any ops Q f listed a w:=by
  intro f;have u:∀(listed:Array Bool) (a:oy) (w:World),listed.size=ops.size->Inv listed a w->oP .any ops listed=[]->Q .normal a w:=by
   intro listed a w hs h k;refine M listed a w hs ?_ h;intro i
   induction i using Nat.strongRecOn with
   | _ i ih =>
    intro j;cases hl:listed.getD i true with
    | true=>rfl
    | false =>
     exfalso;have:i∈oP .any ops listed:=by
      unfold oP;simp only[yB,List.mem_range,oZ,Bool.not_eq_true'];refine⟨j,hl,?_⟩;have c:ops[i]?=some ops[i]:=dE j;simp only[c,dH,mF];rw[nT];intro e G;have hc:=backs_spec F c e (Array.mem_toList_iff.2 G);cases C:oT .any e with
      | false=>simp
      | true =>
       have N:=hc C;have h1:=ih e.on N (by omega);have h2:e.on<listed.size:=by omega
       simp only[dZ,h2,dif_pos] at h1 ⊢;simpa using h1
     rw[k] at this;cases this
  induction f with
  | zero =>
   intro listed a w hs hf h;have k:oP .any ops listed=[]:=by
    rcases k:oP .any ops listed with _|⟨i,r⟩
    ·rfl
    ·exfalso;obtain⟨o,c,hl,_⟩:=ready_mem (ops:=ops) (listed:=listed) (i:=i) (by rw[k];simp);have j:i<listed.size:=by rw[hs];exact(zK.1 c).1
     have S:listed[i]∈listed.toList.filter (! ·):=by
      rw[yB];refine⟨by simp,?_⟩;have s:listed[i]=false:=by simpa[dZ,j] using hl
      simp[s]
     have:0<left listed:=List.length_pos_of_mem S;omega
   exact⟨k,u listed a w hs h k⟩
  | succ f ih =>
   intro listed a w hs hf h;refine⟨u listed a w hs h,λi j => ?_⟩;obtain⟨o,c,hl,I⟩:=ready_mem j;have q:i<listed.size:=by rw[hs];exact(zK.1 c).1
   have T:∀v w',Inv (listed.setIfInBounds i true) (a.put o.dst v) w'->wpAny P .any ops Q f (listed.setIfInBounds i true) (a.put o.dst v) w':=by
    intro v w' V;refine ih _ _ _ (by simpa using hs) ?_ V;have s:listed[i]=false:=by simpa[dZ,q] using hl
    have:left (listed.setIfInBounds i true)<left listed:=by
     unfold left;rw[Array.toList_setIfInBounds];have z:listed.toList=listed.toList.take i++false::listed.toList.drop (i+1):=by
      have B:listed.toList[i]'(by simpa using q)=false:=by simpa using s
      conv=>lhs;rw[<-qJ i listed.toList,qR (by simpa using q),B]
     rw[List.set_eq_take_append_cons_drop,if_pos (by simpa using q)]
     conv=>rhs;rw[z]
     simp
    omega
   have:=U i o c listed a w (λx w'=>wpAny P .any ops Q f (listed.setIfInBounds i true) x w') Q hs hl I h T;unfold wpOp;simp only[c];exact this
 refine key ops.size _ a0 _ (by simp) ?_ A;unfold left;simp
end Qp
end
end Go.Proofs.YtohmkffoojdahaaGreat
