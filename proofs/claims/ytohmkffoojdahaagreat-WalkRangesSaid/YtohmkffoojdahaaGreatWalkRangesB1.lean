/- Texts that the proof of WalkRanges leans on, part 1. -/
import Derived.WalkKit
import Derived.Maps.AppendAt
import Derived.Lib.Hide
import Derived.WalkSpells
import Derived.WalkLawsBesides
import Derived.Laws.AppendOwnNone
import Derived.Lib.AppendStr
import Derived.Test.YtohmkffoojdahaaGreatProg
import Derived.ProofKit
import Derived.OpenShut
import Derived.ShutString
import Derived.ChangeOld
import Derived.Below
import Derived.Defers
import Derived.Laws.LoneSync
import Derived.RegionTactic
import Derived.RegionCalls
import Derived.ChangeAlike
import Derived.RangeFuncBox
import Derived.RangeFuncNested
import Derived.RangeFuncBound
import Derived.RangeFuncCalls
import Derived.RangeFuncLeaves
import Derived.Shelf.Abstract
import Derived.Shelf.RegionOpen
import Derived.OwnWalkIn
import Derived.TacticsInMore
import Derived.LoopNIn
import Derived.LoopIn
import Derived.Laws.CopyRow
import Derived.Deep.RegionHeld3
import Derived.Deep.DrawnRows
import Derived.Lib.AppendZerosOnto
import Derived.Deep.MidRow
import Derived.MapKept
import Derived.Carry
import Derived.ScopeJumps
import Derived.Lib.AppendZeros
import Derived.Orders
open List renaming replicate->zP
open Nat renaming reduceAdd->yB,reduceSub->yC
open Array renaming getD_eq_getD_getElem?->zX
set_option linter.unusedVariables false
set_option linter.unusedSimpArgs false
set_option maxRecDepth 100000
set_option maxHeartbeats 8000000
open Array renaming getD->mS
open ByteArray renaming empty->nX
open Exists renaming intro->lS
open Go renaming Calls->nK,Addr->nN,Operand->nO,execOp->nQ,TypeId->nS,MapEntry->nZ,Oper->nh,Program->gF,maxLen->gP,undef->gQ,Act->gh,callFunc->gm,CallsIn->mQ,wpList->mX,Exit->mh,results->lh,yielded->fy,Tmp->eQ
open Go.Act renaming put->nJ
open Go.Builtin renaming zeroCells->la
open Go.Code renaming region->lV
open Go.Deferred renaming ofValue->lP
open Go.Ending renaming returned->eJ
open Go.Exit renaming jump->fp
open Go.Fence renaming wide->nv
open Go.Instr renaming findNow->lT,lookup->lU,checkKey->lW,sureAddr->lX,mapUpdate->lj
open Go.MapKept renaming IsKey->gz
open Go.Oper renaming wp->mW
open Go.Region renaming ready->nw,binds->gI,wanted->gS
open Go.Result renaming andThen->nM
open Go.RowKit renaming Below->nH
open Go.Value renaming slice->mN,int->fY,oneCell'->ew
open Go.World renaming setCell->gT,frozen?->lz
open Nat renaming pow_le_pow_right->lG,testBit_xor->eM,pow_succ->eh
open Go.Proofs.Tryz renaming prog->Y3
open Go.Proofs.Tryz
open Go.Value renaming int->Y1,pointer->Y9,slice->X1,bool->X3,string->X9,agg->Q0,tuple->Q2,map->Q1
open Go.IntKind renaming i64->Q4,u8->Q5,u64->Q6,u32->Q7,i32->Q8
open Go.Obj renaming cells->Q9
open Option renaming none->K3,some->K4
namespace Go.Proofs.YtohmkffoojdahaaGreat
theorem K5{p:Prop}(h:p:=by omega):p:=h
theorem K6{p:Prop}(h:p:=by kernel_rfl):p:=h
theorem K7{p:Prop}(h:p:=by decide):p:=h
theorem K8{p:Prop}(h:p:=by go_simp):p:=h
theorem K9{p:Prop}(h:p:=by simp):p:=h
theorem J0{p:Prop}(h:p:=by rfl):p:=h
instance:Coe Nat Go.Addr:=⟨λn=>⟨n,0,none⟩⟩
instance:Coe Nat (Option Go.Addr):=⟨λn=>some ⟨n,0,none⟩⟩
abbrev zW:=@List.cons_append
abbrev zQ:=@List.nil_append
abbrev zK:=@List.length_cons
abbrev zY:=@List.length_nil
abbrev zL:=@List.map_cons
abbrev qI:=@List.eq_nil_of_length_eq_zero
abbrev yI:=@List.getElem?_take
abbrev zM:=@List.getElem?_eq_getElem
abbrev qW:=@List.append_nil
abbrev zH:=@List.length_append
abbrev qX:=@List.map_append
abbrev zR:=@List.size_toArray
abbrev qO:=@List.push_toArray
abbrev qG:=@List.append_toArray
abbrev zU:=@List.take_succ_eq_append_getElem
abbrev qR:=@List.mem_map
abbrev qM:=@List.getElem?_eq_some_iff
abbrev zJ:=@List.map_toArray
abbrev zN:=@List.map_nil
abbrev qE:=@List.take_of_length_le
abbrev qB:=@List.length_take
abbrev qS:=@List.drop_eq_getElem_cons
abbrev qJ:=@List.getElem_mem
abbrev qK:=@List.take_append_drop
abbrev qN:=@List.mem_cons
abbrev yD:=@List.mem_filter
abbrev yF:=@List.all_eq_true
abbrev yG:=@List.getElem_of_mem
abbrev zB:=@List.getElem_cons_zero
abbrev qA:=@Nat.zero_add
abbrev yJ:=@Nat.mul_one
abbrev zG:=@Nat.le_refl
abbrev zT:=@Nat.le_trans
abbrev zO:=@Nat.lt_of_lt_of_le
abbrev zI:=@Array.getElem?_eq_some_iff
abbrev zV:=@Array.length_toList
abbrev zS:=@Array.getElem?_setIfInBounds
abbrev qC:=@Array.replicate_succ
abbrev qD:=@Array.replicate_zero
abbrev gr:=@Array.getElem?_eq_getElem
abbrev lH:=@Array.all_eq_true_iff_forall_mem
abbrev gu:=@List.not_mem_nil
abbrev mD:=@List.getElem?_drop
abbrev mJ:=@List.getElem?_map
abbrev mR:=@List.foldl_cons
abbrev lE:=@List.mem_zipIdx_iff_getElem?
abbrev fA:=@List.any_eq_true
abbrev mf:=@Nat.eq_zero_or_pos
abbrev mg:=@Nat.add_assoc
abbrev mr:=@Nat.mul_le_mul_right
abbrev mw:=@Nat.lt_or_ge
abbrev ly:=@Nat.zero_le
abbrev fj:=@Nat.min_eq_left
abbrev gv:=@Option.map_some
abbrev fX:=@Option.getD_some
abbrev mM:=@UInt8.ofNat
abbrev qQ:=@List.append_assoc
abbrev zA:=@List.setIfInBounds_toArray
abbrev zE:=@List.set_cons_succ
abbrev zF:=@List.set_cons_zero
abbrev qF:=@List.length_drop
abbrev qH:=@List.length_map
abbrev mE:=@Array.getElem?_modify
abbrev lr:=@Array.getElem?_push
abbrev gj:=@List.getElem?_append_left
abbrev mG:=@List.take_append_of_le_length
abbrev mU:=@List.take_take
abbrev me:=@List.drop_of_length_le
abbrev fB:=@List.drop_drop
abbrev fC:=@List.drop_left
abbrev fD:=@List.drop_zero
abbrev mL:=@Nat.le_of_lt
abbrev zZ:=@List.mem_append
abbrev zD:=@List.getElem_toArray
abbrev zC:=@List.getElem_cons_succ
abbrev qT:=@List.getD_eq_getElem?_getD
abbrev gg:=@Array.getElem?_eq_none
abbrev qU:=@List.getElem?_append_right
abbrev ml:=@Array.getElem?_setIfInBounds_ne
abbrev qL:=@List.mem_singleton
abbrev yE:=@List.flatten_cons
abbrev qV:=@List.mem_of_mem_drop
abbrev mC:=@List.getElem_map
abbrev lQ:=@List.flatten_nil
abbrev fS:=@List.map_drop
abbrev fT:=@List.map_take
abbrev qP:=@List.getElem?_toArray
abbrev qY:=@List.getElem?_cons_zero
abbrev qZ:=@List.getElem?_cons_succ
abbrev mO:=@List.length_replicate
abbrev lY:=@Nat.le_succ
abbrev mo:=@Int.le_refl
abbrev fq:=@List.length_filter_le
abbrev yH:=@List.mem_append_left
abbrev lB:=@List.getElem?_eq_none
abbrev lZ:=@Nat.min_def
abbrev lF:=@List.filter_append
abbrev eG:=@List.filter_cons
abbrev lC:=@Nat.lt_irrefl
abbrev gN:=@Bool.and_eq_true
abbrev nT:=@Go.bodyPost_ret
abbrev ng:=@Go.setRow_other
abbrev nj:=@Go.results_tmp2
abbrev gK:=@Go.run_underlying
abbrev gy:=@Go.callsIn_of_wp
abbrev mF:=@Go.results_none
abbrev mj:=@Go.info_parts
abbrev lD:=@Go.heap_alloc_new
abbrev fN:=@Go.wpList_append_own
abbrev fO:=@Go.wpList_plain
abbrev nI:=@Go.Lib.hid
abbrev gL:=@Go.MapKept.run_getObj_map
abbrev ga:=@Go.MapKept.run_findKey
abbrev mY:=@Go.MapKept.run_checkKey
abbrev nc:=@Go.Result.andThen_ok
abbrev nF:=@Go.RowKit.Below.refl
abbrev nU:=@Go.RowKit.Below.heap_setCell
abbrev ny:=@Go.Sem.run_pure
abbrev gJ:=@Go.Sem.run_bind
abbrev nG:=@Go.World.size_alloc
abbrev fF:=@Go.World.grownBy.refl
abbrev fZ:=@Go.World.ownsRow.lt
abbrev eI:=@Go.World.ownsRow.alloc
abbrev gO:=@Option.some.injEq
abbrev mA:=@Prod.mk.injEq
abbrev nu:=@Go.bodyPost_ret_by
abbrev mK:=@Go.MapKept.run_setObj_map
abbrev lq:=@Go.Oper.upon_value
abbrev mc:=@Go.Proofs.enters_of
abbrev mT:=@Go.RowKit.Below.heap_alloc
abbrev nW:=@Go.World.cell?_of_block
abbrev lA:=@Go.World.ownsRow_lit
abbrev mV:=@Go.run_takeDeferred
abbrev fG:=@Go.ready_mono
abbrev fH:=@Go.wpListIn_plain
abbrev fM:=@Go.run_endLoop
abbrev fJ:=@Go.CallsIn.inRound
abbrev gG:=@Go.Oper.semAt_some
abbrev lR:=@Go.Oper.semAt_plain
abbrev nP:=@Go.World.putObj_heap_other
abbrev gn:=@Go.World.putObj_heap_same
abbrev mB:=@Go.World.alloc_heap_new
abbrev mZ:=@Go.World.cell?_setCell_other
abbrev nV:=@Bool.false_eq_true
abbrev gU:=@Go.World.ownsRow_nil
abbrev fo:=@Option.some.inj
abbrev mP:=@Go.Addr.add_lit
abbrev el:=@Go.NoPanic.normal
abbrev fU:=@Go.ByteArray.toList_eq
abbrev Z8:=And.intro (@List.getElem_toArray Go.Value) (And.intro (@List.getElem_cons_succ Go.Value) (And.intro (@List.getElem_cons_zero Go.Value) (And.intro (@List.setIfInBounds_toArray Go.Value) (And.intro (@List.set_cons_zero Go.Value) (And.intro (@List.set_cons_succ Go.Value) (And.intro (@List.getElem_toArray Go.Oper) (And.intro (@List.getElem_cons_succ Go.Oper) (And.intro (@List.getElem_cons_zero Go.Oper) (And.intro Go.Act.put.eq_1 Go.Act.put.eq_2)))))))))
theorem Z9{α:Sort _}(a:α):∃x,x=a:=⟨_,rfl⟩
abbrev Y0:=@Go.Ending.returned
end Go.Proofs.YtohmkffoojdahaaGreat
open Go.Proofs.YtohmkffoojdahaaGreat
namespace xq
def Zh:Nat->Nat->List UInt8
 | 0,_=>[]
 | f+1,n=>if n<128 then [mM n] else mM (n%128+128)::Zh f (n / 128)
def jU (n:Nat):List UInt8:=Zh 10 n
def Co:Nat->Nat->Nat->List UInt8->Option (Nat×Nat)
 | 0,_,_,_=>none
 | _+1,_,_,[]=>none
 | f+1,i,acc,c::r =>
  if i=9/\1<c.toNat then none
  else if 128<=c.toNat then Co f (i+1) (acc+c.toNat%128*128^i) r
  else if c.toNat=0/\0<i then none
  else some (acc+c.toNat%128*128^i,i+1)
def rd (l:List UInt8):Option (Nat×Nat):=Co 10 0 0 l
theorem ZR {n:Nat}(h:n<256):(mM n).toNat=n:=by
 simp[UInt8.toNat_ofNat'];omega
theorem Tw (f n:Nat):(Zh f n).length<=f:=by
 induction f generalizing n with
 | zero=>simp[Zh]
 | succ f ih=>unfold Zh;split<;>simp;exact ih _
theorem AA (f n:Nat)(hf:0<f):0<(Zh f n).length:=by
 cases f with
 | zero=>omega
 | succ f=>unfold Zh;split<;>simp
theorem xc (n:Nat):(jU n).length<=10:=Tw 10 n
theorem El (n:Nat):0<(jU n).length:=AA 10 n (by omega)
theorem Be (f:Nat)(n i c:Nat)(r:List UInt8)(hf:f+i=10)(h1:1<=f)(hn:n<2^(7*f-6))(A:n=0->i=0):Co f i c (Zh f n++r)=some (c+n*128^i,i+(Zh f n).length):=by
 induction f generalizing n i c with
 | zero=>omega
 | succ f ih =>
  unfold Zh
  by_cases k:n<128
  .rw[if_pos k];have e:(mM n).toNat=n:=ZR (by omega);simp only[zW,zQ,Co,e,zK,zY];have q:¬ (i=9/\1<n):=by
    rintro⟨hi,h⟩;have:f=0:=by omega
    subst this;simp at hn;omega
   rw[if_neg q,if_neg (by omega),if_neg (by omega)];rw[Nat.mod_eq_of_lt k]
  .rw[if_neg k];have e:(mM (n%128+128)).toNat=n%128+128:=ZR (by omega);have s:1<=f:=by
    rcases mf f with j|j
    .subst j;simp at hn;omega
    .exact j
   have x:n / 128<2^(7*f-6):=by
    rw[Nat.div_lt_iff_lt_mul (by omega)];have:2^(7*f-6)*128=2^(7*(f+1)-6):=by rw[show 7*(f+1)-6=(7*f-6)+7 from by omega,Nat.pow_add]
    omega
   simp only[zW,Co,e,zK];rw[if_neg (by omega),if_pos (by omega),ih (n / 128) (i+1) _ (by omega) s x (by omega)];have u:(n%128+128)%128=n%128:=by omega
   have z:128^(i+1)=128*128^i:=by rw[eh];omega
   rw[u,z];have hd:n%128*128^i+n / 128*(128*128^i)=n*128^i:=by rw[<-Nat.mul_assoc,<-Nat.add_mul];congr 1;omega
   simp only[gO,mA];omega
theorem Bd (n:Nat)(hn:n<2^64)(r:List UInt8):rd (jU n++r)=some (n,(jU n).length):=by
 have:=Be 10 n 0 0 r (by omega) (by omega) (by simpa using hn) (λ_=>rfl);simpa[rd,jU] using this
theorem NF (f i e:Nat)(l:List UInt8)(n k:Nat)(hf:f+i=10)(ha:e<128^i)(h:Co f i e l=some (n,k)):n<2^64/\i+1<=k/\k<=i+l.length:=by
 induction f generalizing i e l with
 | zero=>simp[Co] at h
 | succ f ih =>
  cases l with
  | nil=>simp[Co] at h
  | cons c r =>
   have hc:c.toNat<256:=c.toNat_lt;have hs:e+c.toNat%128*128^i<128^(i+1):=by
    have h1:c.toNat%128<=127:=by omega
    have h2:c.toNat%128*128^i<=127*128^i:=mr _ h1;have q:128^(i+1)=128^i*128:=eh ..;omega
   simp only[Co] at h;split at h
   .cases h
   .rename_i h9
    split at h
    .obtain⟨j,u,x⟩:=ih (i+1) _ r (by omega) hs h;refine⟨j,by omega,?_⟩;simp only[zK];omega
    .rename_i h128
     split at h
     .cases h
     .simp only[gO,mA] at h;obtain⟨rfl,rfl⟩:=h;refine⟨?_,by omega,by simp⟩
      by_cases hi:i=9
      .subst hi;have s:c.toNat<=1:=by omega
       have:c.toNat%128*128^9<=1*128^9:=mr _ (by omega);simp at this ha ⊢;omega
      .have:128^(i+1)<=128^9:=lG (by omega) (by omega);simp at this;omega
theorem XP {l:List UInt8}{n k:Nat}(h:rd l=some (n,k)):n<2^64/\1<=k/\k<=l.length:=by
 have:=NF 10 0 0 l n k (by omega) (by simp) h;omega
def qb (k n:Nat):List UInt8:=(List.range k).map λi=>mM (n / 256^(k-1-i))
def xH (l:List UInt8):Nat:=l.foldl (λa c=>256*a+c.toNat) 0
theorem yZ (k n:Nat):(qb k n).length=k:=by simp[qb]
theorem Mz (k n:Nat):qb (k+1) n=mM (n / 256^k)::qb k n:=by
 unfold qb;rw[List.range_succ_eq_map,zL,List.map_map];simp only[Nat.add_sub_cancel,Nat.sub_zero,List.cons.injEq,true_and];apply List.map_congr_left;intro i hi;simp at hi;simp only[Function.comp];rw[show k-(i+1)=k-1-i from by omega]
theorem Ba (l:List UInt8)(a:Nat):l.foldl (λa c=>256*a+c.toNat) a=a*256^l.length+xH l:=by
 induction l generalizing a with
 | nil=>simp[xH]
 | cons c l ih =>
  rw[xH,mR,mR,ih,ih (256*0+c.toNat),zK,eh,Nat.add_mul,Nat.add_mul];rw[show 256*a*256^l.length=a*(256^l.length*256) from by rw[Nat.mul_comm 256 a,Nat.mul_assoc,Nat.mul_comm 256]];simp;omega
theorem Mi (c:UInt8)(l:List UInt8):xH (c::l)=c.toNat*256^l.length+xH l:=by
 rw[xH,mR,Ba];simp
theorem GG (l:List UInt8):xH l<256^l.length:=by
 induction l with
 | nil=>simp[xH]
 | cons c l ih =>
  rw[Mi,zK,eh];have h1:c.toNat<=255:=by have:=c.toNat_lt;omega
  have h2:c.toNat*256^l.length<=255*256^l.length:=mr _ h1;omega
theorem Iz (k n:Nat):xH (qb k n)=n%256^k:=by
 induction k with
 | zero=>simp[qb,xH,Nat.mod_one]
 | succ k ih =>
  rw[Mz,Mi,yZ,ih];have e:(mM (n / 256^k)).toNat=n / 256^k%256:=by simp[UInt8.toNat_ofNat']
  rw[e,eh,Nat.mod_mul];rw[Nat.mul_comm (256^k)];omega
def OF:Nat:=0xedb88320
def sh (x:Nat):Nat:=if x%2=1 then (x / 2) ^^^ OF else x / 2
def Dr:Nat->Nat->Nat
 | 0,x=>x
 | k+1,x=>Dr k (sh x)
def Gp (s:Nat)(c:UInt8):Nat:=Dr 8 (s ^^^ c.toNat)
def Jk (s:Nat)(l:List UInt8):Nat:=l.foldl Gp s
def Ro (l:List UInt8):Nat:=Jk 4294967295 l ^^^ 4294967295
theorem Ln (x i:Nat):(sh x).testBit i=(x.testBit (i+1) ^^ (x.testBit 0&&OF.testBit i)):=by
 unfold sh
 by_cases h:x%2=1
 .rw[if_pos h,eM,Nat.testBit_div_two];simp[Nat.testBit_zero,h]
 .rw[if_neg h,Nat.testBit_div_two];simp[Nat.testBit_zero,h]
theorem tm (x y:Nat):sh (x ^^^ y)=sh x ^^^ sh y:=by
 apply Nat.eq_of_testBit_eq;intro i;rw[Ln,eM,eM,eM,Ln,Ln];cases x.testBit (i+1)<;>cases y.testBit (i+1)<;>cases x.testBit 0<;>cases y.testBit 0<;>cases OF.testBit i<;>rfl
theorem uE (k x y:Nat):Dr k (x ^^^ y)=Dr k x ^^^ Dr k y:=by
 induction k generalizing x y with
 | zero=>rfl
 | succ k ih=>simp only[Dr];rw[tm,ih]
theorem tJ {x:Nat}(h:x<4294967296):sh x<4294967296:=by
 unfold sh;split
 .have:x / 2<2^32:=by omega
  have h2:OF<2^32:=by decide
  have:=Nat.xor_lt_two_pow this h2;simpa using this
 .omega
theorem BV (k:Nat){x:Nat}(h:x<4294967296):Dr k x<4294967296:=by
 induction k generalizing x with
 | zero=>exact h
 | succ k ih=>exact ih (tJ h)
theorem Ct {x y:Nat}(c:x<4294967296)(e:y<4294967296):x ^^^ y<4294967296:=by
 have:=Nat.xor_lt_two_pow (n:=32) (by simpa using c) (by simpa using e);simpa using this
theorem BQ {s:Nat}(h:s<4294967296)(c:UInt8):Gp s c<4294967296 :=
 BV 8 (Ct h (by have:=c.toNat_lt;omega))
theorem Rn {s:Nat}(h:s<4294967296)(l:List UInt8):Jk s l<4294967296:=by
 induction l generalizing s with
 | nil=>exact h
 | cons c l ih=>exact ih (BQ h c)
theorem BW (x:Nat)(k:Nat):Dr k (x*2^k)=x:=by
 induction k generalizing x with
 | zero=>simp[Dr]
 | succ k ih =>
  simp only[Dr];have h2:x*2^(k+1)=2*(x*2^k):=by rw[eh];rw[<-Nat.mul_assoc];omega
  have:sh (x*2^(k+1))=x*2^k:=by unfold sh;rw[if_neg (by omega)];omega
  rw[this,ih]
theorem St (s:Nat)(c:UInt8):Gp s c=(s / 256) ^^^ Dr 8 ((s%256) ^^^ c.toNat):=by
 unfold Gp;have hs:s=(s / 256*2^8) ^^^ (s%256):=by
  apply Nat.eq_of_testBit_eq;intro i;rw[eM,show (256:Nat)=2^8 from rfl,Nat.testBit_mod_two_pow,Nat.testBit_mul_two_pow,Nat.testBit_div_two_pow]
  by_cases h:i<8
  .have f:¬ 8<=i:=by omega
   simp[h,f]
  .have f:8<=i:=by omega
   have e:i-8+8=i:=by omega
   simp[h,f,e]
 conv=>lhs;rw[hs,Nat.xor_assoc,uE,BW]
theorem UI (s:Nat)(a b:List UInt8):Jk s (a++b)=Jk (Jk s a) b:=by simp[Jk,List.foldl_append]
end xq
namespace Go.Proofs.YtohmkffoojdahaaGreat
section
open Go Go.RowKit
abbrev Y4:=List UInt8
abbrev Y5:=Option Addr
abbrev Y7:=Array Value
abbrev Y8:=List Value
abbrev Z0 (n:Nat):Value:=Y9 n
abbrev Z1 (w W:World):Prop:=Below w.heap.size w W
abbrev Z2 (n:Int):Value:=Y1 Q4 n
abbrev Z3:Value:=X1 none 0 0
abbrev Z4 (g n c:Nat):Value:=X1 g n c
abbrev Z5:=Calls Y3
@[reducible] def b8 (c:UInt8):Value:=Y1 Q5 (c.toNat:Int)
theorem Yy:(Y3.info? 5).map (λi=>(i.zero,i.size,i.bytes))=some (some (Y1 Q5 0),1,1):=by kernel_rfl
def yY (w:World)(base:Nat)(v:Value)(l:Y4):Prop:=w.ownsRow base 5 1 v l.length (l.map b8)
def yV (w0:World)(l:Y4)(e:Ending)(w':World):Prop :=
 ∃v,e=Y0 v/\yY w' w0.heap.size v l/\nH w0.heap.size w0 w'
theorem yY.nil (w:World)(base:Nat):yY w base (X1 none 0 0) []:=World.ownsRow_nil _ _ _ _
theorem yY.form {w:World}{base:Nat}{v:Value}{l:Y4}(h:yY w base v l):(v=X1 none 0 0/\l=[])\/∃g cap,v=X1 (K4 ⟨g,0,K3⟩) l.length cap/\base<=g/\g<w.heap.size/\l.length<=cap:=by
 rcases h.2 with⟨h1,h2⟩|⟨g,cap,cur,hv,hb,hg,hle,_⟩
 .exact .inl ⟨h1,qI h2⟩
 .exact .inr ⟨g,cap,hv,hb,(zI.1 hg).1,hle⟩
theorem yY.at_ {w:World}{base:Nat}{v:Value}{l:Y4}(h:yY w base v l)(hl:0<l.length):∃g cap,v=X1 (K4 ⟨g,0,K3⟩) l.length cap/\base<=g/\g<w.heap.size/\l.length<=cap:=by
 rcases h.form with⟨_,rfl⟩|h
 .simp at hl
 .exact h
structure qv (w:World)(B:Nat)(A:Y5)(c:Nat)(l:Y4):Prop where
 le:l.length<=c
 max:c<=9223372036854775807
 nil:A=none->c=0
 pO:0<l.length->∃g o,A=some ⟨g,o,K3⟩/\g<B/\∀j (h:j<l.length),w.cell? ⟨g,o+j,K3⟩=K4 (Y1 Q5 (l[j].toNat:Int))
theorem qv.pR {w w':World}{B:Nat}{A:Y5}{c:Nat}{l:Y4}(h:qv w B A c l)(k:∀p:nN,p.block<B->w'.cell? p=w.cell? p):qv w' B A c l :=
 ⟨h.le,h.max,h.nil,λhl=>by
  obtain⟨g,o,f,e,hc⟩:=h.pO hl
  exact⟨g,o,f,e,λj i=>(k _ e).trans (hc j i)⟩⟩
theorem qv.below {w w':World}{B:Nat}{A:Y5}{c:Nat}{l:Y4}(h:qv w B A c l)(e:nH B w w'):qv w' B A c l:=h.pR λ_ f=>e.cell f
theorem qv.drew {w:World}{B:Nat}{A:Y5}{c:Nat}{l:Y4}(h:qv w B A c l):qv w.drew B A c l:=⟨h.le,h.max,h.nil,h.pO⟩
theorem qv.more {w:World}{B e:Nat}{A:Y5}{c:Nat}{l:Y4}(h:qv w B A c l)(hB:B<=e):qv w e A c l :=
 ⟨h.le,h.max,h.nil,λhl=>by
  obtain⟨g,o,f,i,hc⟩:=h.pO hl
  exact⟨g,o,f,by omega,hc⟩⟩
theorem yY.inB {w:World}{base:Nat}{v:Value}{l:Y4}(h:yY w base v l):∃A c,v=X1 A l.length c/\qv w w.heap.size A c l:=by
 rcases h.2 with⟨h1,h2⟩|⟨g,cap,cur,hv,hb,hg,hle,hm,hs,ht⟩
 .obtain rfl:=qI h2;exact⟨none,0,h1,by simp,by omega,λ_=>rfl,λh=>by simp at h⟩
 .refine⟨_,cap,hv,hle,by unfold gP at hm;omega,λh=>by simp at h,λ_=>⟨g,0,rfl,(zI.1 hg).1,λj e => ?_⟩⟩;rw[qA,cell_of_row w g j cur _ (0,0) hg];have:=congrArg (λx=>x[j]?) ht;simp only[yI,mJ,zM e,gv] at this;rw[if_pos K5] at this;simpa using this
def ku (A:Y5)(c n:Nat):Y5:=if c=n then A else A.map (·.add n)
theorem qv.drop {w:World}{B:Nat}{A:Y5}{c:Nat}{l:Y4}(h:qv w B A c l)(n:Nat)(hn:n<=l.length):qv w B (ku A c n) (c-n) (l.drop n):=by
 have h1:=h.le;have h2:=h.max;refine⟨by simp;omega,by omega,?_,?_⟩
 .intro e;unfold ku at e;split at e
  .omega
  .have:=h.nil (by simpa using e);omega
 .intro hl;simp at hl;obtain⟨g,o,rfl,f,hc⟩:=h.pO K5;refine⟨g,o+n,?_,f,?_⟩
  .unfold ku;rw[if_neg K5]
   by_cases k:n=0<;>simp[Addr.add,k]
  .intro j i;simp at i;have:=hc (n+j) K5;rw[mg,this];simp
theorem qv.take {w:World}{B:Nat}{A:Y5}{c:Nat}{l:Y4}(h:qv w B A c l)(n:Nat)(c':Nat)(hn:n<=l.length)(hc:n<=c')(q:c'<=c):qv w B A c' (l.take n):=by
 have h2:=h.max;refine⟨by simp;omega,by omega,λe=>by have:=h.nil e;omega,?_⟩;intro hl;simp at hl;obtain⟨g,o,rfl,i,f⟩:=h.pO K5;refine⟨g,o,rfl,i,λj k => ?_⟩;simp at k;rw[f j K5];simp
def KQ (l:Y4):ByteArray:=⟨l.toArray⟩
theorem ZS (l:Y4):(KQ l).size=l.length:=rfl
theorem BP (l:Y4):(KQ l).data.toList=l:=rfl
theorem VS (s:ByteArray):s=KQ s.data.toList:=by cases s;simp[KQ]
theorem Ss (l:Y4):strOfNums (l.map λx=>(x.toNat:Int))=KQ l:=by
 have e:(l.map λx=>(x.toNat:Int)).map (λn=>mM n.toNat)=l:=by
  rw[List.map_map]
  conv=>rhs;rw[<-List.map_id l]
  apply List.map_congr_left;intro x _;simp
 unfold strOfNums KQ;rw[e]
theorem qv.string {w:World}{B:Nat}{A:Y5}{c:Nat}{l:Y4}(h:qv w B A c l):(convert 129 9 (X1 A l.length c)).run Y3 w=.ok (.string (KQ l)) w:=by
 rcases A with _|a
 .have:=h.nil rfl;have h1:=h.le;obtain rfl:l=[]:=qI K5;exact run_convert_bytes_nil (P:=Y3) w _ 5 underlying129 underlying5 _ _ _ underlying9
 .rcases mf l.length with e|e
  .obtain rfl:=qI e;have hl:(loadCells a ([]:List Int).length).run Y3 w=.ok ((([]:List Int)).map (fY .u8)).toArray w :=
    run_loadCells_list (P:=Y3) w a [] (λj v k=>by simp at k)
   rw[run_convert_bytes_string w _ _ 5 _ _ c underlying129 underlying5 underlying9,zY];have:=run_bytesToString (P:=Y3) w a 0 c [] hl;rw[this];exact congrArg (λs=>Result.ok (Value.string s) w) (show nX=KQ [] from rfl)
  .obtain⟨g,o,f,_,hc⟩:=h.pO e;obtain rfl:a=⟨g,o,none⟩:=by simpa using f
   have:=run_convert_bytes_arg (P:=Y3) w 129 5 underlying129 underlying5 g o l.length c (l.map λx=>(x.toNat:Int)) K9 (λi hi=>by rw[hc i hi];simp[List.getD,hi]) 9 underlying9;rw[this,Ss]
section
variable {w:World}{ops:Array nh}{rest:List nh}{o:nh}{a:gh}{Q:mh->gh->World->Prop}
theorem GF (C:o.guard=none)(s x:nO)(G:o.op=.call {callee:=.builtin .append,args:=#[s,x],argTypes:=#[129,129]})
  (base:Nat) (v:Value) (l:Y4) (hs:a.eval s=v) (z:yY w base v l) (B:Nat) (A:Y5) (c:Nat) (f:Y4) (I:a.eval x=X1 A f.length c) (q:qv w B A c f)
  (aB:l.length+f.length<=140737488355328) (O:base<=w.heap.size)
  (h:∀i w',yY w' base i (l++f)->w.grownBy w' v.ownBlock->mX Y3 ops Q rest (a.put o.dst i) w'):mX Y3 ops Q (o::rest) a w:=by
 obtain⟨M,hi,X,Z,aA⟩:=mj Yy;have aC:=q.le;rcases A with _|k
 .have S:=q.nil rfl;obtain rfl:f=[]:=qI K5;subst S;refine wpList_append_own_none (w:=w) C s x _ G base _ M 1 underlying129 hi v l.length (l.map b8) hs z I ?_;exact h v w (by rw[qW];exact z) (fF _ _)
 .have U:∀j u,(f.map b8)[j]?=some u->w.cell? (k.add j)=some u:=by
   intro j u hu;have F:j<f.length:=by
    rcases mw j f.length with h|h
    .exact h
    .rw[List.getElem?_eq_none (by simpa using h)] at hu;cases hu
   obtain⟨g,o',N,_,hc⟩:=q.pO K5;obtain rfl:k=⟨g,o',none⟩:=by simpa using N
   have e:(⟨g,o',none⟩:nN).add j=⟨g,o'+j,none⟩:=by unfold Addr.add;split<;>simp_all
   rw[e,hc j F];simpa[F,b8] using hu
  refine fN w C s x _ G base _ M (Y1 Q5 0) 1 1 underlying129 hi X Z aA rfl K7 v l.length (l.map b8) hs z k f.length c (f.map b8) I K9 U (by simp[b8,ew]) (by unfold gP;omega) K5 O ?_;intro i w' V T _;refine h i w' ?_ T;unfold yY;simpa using V
theorem uB (k:o.guard=none)(s x:nO)(u:o.op=.call {callee:=.builtin .append,args:=#[s,x],argTypes:=#[129,9]})
  (base:Nat) (v:Value) (l:Y4) (hs:a.eval s=v) (z:yY w base v l) (st:ByteArray) (A:a.eval x=X9 st)
  (I:l.length+st.size<=140737488355328) (j:base<=w.heap.size)
  (h:∀c w',yY w' base c (l++st.data.toList)->w.grownBy w' v.ownBlock->mX Y3 ops Q rest (a.put o.dst c) w'):mX Y3 ops Q (o::rest) a w:=by
 obtain⟨G,hi,B,C,F⟩:=mj Yy;refine Lib.wpList_append_own_string w k s x _ _ u base _ G underlying129 underlying9 hi B C F v l.length (l.map b8) hs z st A (by unfold gP;omega) K5 j ?_;intro c w' f q _;refine h c w' ?_ q;unfold yY;have e:Lib.strCells st=st.data.toList.map b8:=rfl;rw[e] at f;have i:(l++st.data.toList).length=l.length+st.size:=by rw[zH,zV];rfl
 rw[i,qX];exact f
theorem SY (k:o.guard=none)(x y:nO)(s:o.op=Op.makeSlice 129 x y)(base:Nat)(i f:IntKind)(n:Nat)(u:a.eval x=.int i (n:Int))(z:a.eval y=.int f (n:Int))
  (hn:n<=140737488355328) (j:base<=w.heap.size)
  (h:∀w',yY w' base (X1 w.heap.size n n) (zP n 0)->w.grownBy w' none->mX Y3 ops Q rest (a.put o.dst (X1 w.heap.size n n)) w'):mX Y3 ops Q (o::rest) a w:=by
 obtain⟨F,hi,A,B,C⟩:=mj Yy;refine wpList_make_full w k x y _ s base _ F (Y1 Q5 0) 1 underlying129 hi A B i f n n n u z rfl rfl (by rw[C];omega) (by unfold gP;omega) j ?_;intro w' c q;refine h w' ?_ q;have e:(madeCells (fY .u8 0).cells (n*1)).toList=(zP n (0:UInt8)).map b8:=by rw[yJ,show (fY .u8 0).cells=#[Y1 Q5 0] from rfl,toList_madeCells_one];simp[b8]
 rw[e] at c;unfold yY;simpa using c
end
theorem yY.set {w:World}{base g n c:Nat}{l:Y4}(h:yY w base (X1 g n c) l)(j x:Nat)(f:x<256):yY (w.setCell ⟨g,j,K3⟩ (Y1 Q5 (x:Int))) base (X1 g n c) (l.set j (mM x)):=by
 rcases h.form with⟨h1,_⟩|⟨g',cap',h1,_,_,_⟩
 .cases h1
 .injection h1 with h2 h3 h4
  subst h3;have:=(World.ownsRow.stored (w:=w) h j (Y1 Q5 (x:Int))).1;unfold yY;rw[List.length_set,List.map_set];have e:b8 (mM x)=Y1 Q5 (x:Int):=by simp[b8];omega
  rw[e];exact this
theorem yY.cell {w:World}{base g n c:Nat}{l:Y4}(h:yY w base (X1 g n c) l)(j:Nat)(e:j<l.length):w.cell? ⟨g,j,K3⟩=K4 (Y1 Q5 (l[j].toNat:Int)):=by
 rcases h.form with⟨h1,_⟩|⟨g',cap',h1,_,_,_⟩
 .cases h1
 .injection h1 with h2 h3 h4
  subst h3;have:=World.ownsRow.cellAt (w:=w) h j K5;rw[this];simp[b8,e]
theorem yY.free {w:World}{base g n c:Nat}{l:Y4}(h:yY w base (X1 g n c) l)(j:Nat):w.frozen? ⟨g,j,K3⟩=false:=by
 rcases h.form with⟨h1,_⟩|⟨g',cap',h1,_,_,_⟩
 .cases h1
 .injection h1 with h2 h3 h4
  subst h3;exact World.ownsRow.frozenAt (w:=w) h j
def za (w:World)(g:Nat)(t:nS)(cs:Y7):Prop:=w.heap[g]?=some (Q9 cs t (0,0))
section
variable {w w':World}{g:Nat}{t:nS}{cs:Y7}
theorem za.lt (h:za w g t cs):g<w.heap.size:=(zI.1 h).1
theorem za.cell (h:za w g t cs)(i:Nat):w.cell? ⟨g,i,K3⟩=cs[i]?:=cell_of_row w g i cs t (0,0) h
theorem za.free (h:za w g t cs)(i:Nat):w.frozen? ⟨g,i,K3⟩=false:=by
 unfold za at h;simp[lz,h]
theorem za.set (h:za w g t cs)(i:Nat)(u:Value):za (w.setCell ⟨g,i,K3⟩ u) g t (cs.setIfInBounds i u):=by
 unfold za at h ⊢;simp[gT,Array.getElem?_modify,h]
theorem za.other (h:za w g t cs){p:nN}(c:g≠p.block)(u:Value):za (w.setCell p u) g t cs:=(nU w p u g c).trans h
theorem za.drew (h:za w g t cs):za w.drew g t cs:=h
theorem za.alloc (h:za w g t cs)(o:Obj):za (w.alloc o) g t cs:=(Below.heap_alloc w o g h.lt).trans h
theorem za.new (w:World)(t:nS)(cs:Y7):za (w.alloc (Q9 cs t)) w.heap.size t cs:=lD w _
theorem za.below {B:Nat}(h:za w g t cs)(c:nH B w w')(e:g<B):za w' g t cs:=(c.block g e).trans h
theorem za.grown {row:Option Nat}(h:za w g t cs)(c:w.grownBy w' row)(e:some g≠row):za w' g t cs:=(c.block g h.lt e).trans h
end
theorem za.inB {w:World}{g:Nat}{l:Y4}(h:za w g 5 (l.map b8).toArray)(B:Nat)(hB:g<B)(e:l.length<=9223372036854775807):qv w B (K4 ⟨g,0,K3⟩) l.length l :=
 ⟨zG _,e,(λh=>by cases h),λ_=>⟨g,0,rfl,hB,λj c=>by
  rw[h.cell,qA]
  simp[c,b8]⟩⟩
theorem jA (w:World)(b i:Nat)(v:Value):w.grownBy (w.setCell ⟨b,i,K3⟩ v) (some b) :=
 ⟨rfl,rfl,rfl,by simp[gT],λk _ c=>nU _ _ _ k (λe=>c (by rw[e]))⟩
theorem qe {a b c:World}{row:Option Nat}(h:a.grownBy b row)(k:b.grownBy c row):a.grownBy c row :=
 ⟨k.os.trans h.os,k.tape.trans h.tape,k.output.trans h.output,zT h.size k.size,λi hi e=>(k.block i (zO hi h.size) e).trans (h.block i hi e)⟩
theorem yM (w:World)(row:Option Nat):w.grownBy w.drew row:=⟨rfl,rfl,rfl,zG _,λ_ _ _=>rfl⟩
theorem YD (w:World)(v:Value)(t:nS):(w.alloc (Q9 #[v] t)).cell? w.heap.size=some v:=by
 simp
theorem Hl (w:World)(c:Y7)(t:nS)(i:Nat):(w.alloc (Q9 c t)).frozen? ⟨w.heap.size,i,K3⟩=false:=by
 unfold lz;rw[lD];simp
theorem sD:∀m,m<256->m ||| 128=m%128+128:=by decide +kernel
theorem BI (n:Nat):bits .or .u8 ((n:Int)%256) 128=((n%128+128:Nat):Int):=by
 have e:(n:Int)%256=((n%256:Nat):Int):=K5
 rw[e];have:=u8_or_nat (n%256) 128 K5 K5;rw[sD _ K5] at this;have h2:(((128:Nat)):Int)=128:=rfl;rw[h2] at this;rw[this];congr 1;omega
theorem Qp (w:World)(T:nS)(cs:Y7):∃W,W=w.alloc (Q9 cs T)/\nH w.heap.size w W/\za W w.heap.size T cs:=⟨_,rfl,(nF _ w).alloc (zG _) _,za.new w T cs⟩
theorem Bz (w:World)(T:nS)(cs:Y7)(U:nS)(ds:Y7):∃W,W=(w.alloc (Q9 cs T)).alloc (Q9 ds U)/\nH w.heap.size w W/\za W w.heap.size T cs/\za W (w.heap.size+1) U ds :=
 ⟨_,rfl,((nF _ w).alloc (zG _) _).alloc K9 _,(za.new w T cs).alloc _,by
  have:=za.new (w.alloc (Q9 cs T)) U ds;rw[nG] at this
  exact this⟩
end
section
open Go Go.RowKit xq
theorem MS {w:World}{a:nN}{v:Value}(h:w.cell? a=some v):a.block<w.heap.size:=by
 simp only[World.cell?] at h
 by_cases c:a.block<w.heap.size
 .exact c
 .exfalso;simp[Array.getElem?_eq_none (Nat.le_of_not_lt c)] at h
end
section
open Go xq Go.ChangeShapes Go.WideShapes Go.ChangeAt Go.RowKit
section
variable {H:Type}{enc:nS×Value->H}{W:World}{r:Reach}{b0 b1:Nat}{spare:Nat->Bool}{held:Bool}{v:Value}{d:DataW H}{p:List MemPlace}
theorem By {T e:nS}{n:Nat}(hu:Y3.underlying T=some (.array n e))(c:Value.okWide Y3 W r b0 T v)(h:DataW.Trod enc Y3 W b1 spare held T v d p):∃cs:Y8,v=Q0 cs.toArray/\cs.length=Y3.cellsOf T/\∀i,i<n->∃m x,DataW.trod enc Y3 W b1 spare held m e ((cs.drop (i*Y3.cellsOf e)).take (Y3.cellsOf e))=some x:=by
 unfold Value.okWide at c;rw[hu] at c;obtain⟨cs,rfl,j,_⟩:=c;obtain⟨k,hf⟩:=h;obtain⟨xs,m,_,_,_,hl,hi⟩:=DataW.trod_array hu hf;refine⟨cs.toList,by simp,by simpa using j,λi f => ?_⟩;have e:=hi i f;rw[zM K5] at e;exact⟨m,_,e⟩
end
end
section
open Go Go.RowKit xq
theorem uT {f n:Nat}(hf:1<=f)(h:n<128):Zh f n=[mM n]:=by
 cases f with
 | zero=>omega
 | succ f=>unfold Zh;rw[if_pos h]
def VJ (n0 n f:Nat)(pre:Y4):Prop:=pre++Zh f n=jU n0/\n<2^(7*f-6)/\1<=f/\pre.length+f=10
theorem VJ.start {c:Nat}(h:c<2^64):VJ c c 10 []:=⟨rfl,by simpa using h,by omega,by simp⟩
theorem VJ.last {n0 n f:Nat}{c:Y4}(h:VJ n0 n f c)(e:n<128):c++[mM n]=jU n0:=by
 rw[<-uT h.2.2.1 e];exact h.1
theorem VJ.next {e n f:Nat}{i:Y4}(h:VJ e n f i)(q:128<=n):VJ e (n / 128) (f-1) (i++[mM (n%128+128)]):=by
 obtain⟨h1,h2,j,k⟩:=h;cases f with
 | zero=>omega
 | succ f =>
  have hf:1<=f:=by
   rcases mf f with c|c
   .subst c;simp at h2;omega
   .exact c
  refine⟨?_,?_,by simpa using hf,by simp;omega⟩
  .rw[<-h1]
   conv=>rhs;unfold Zh
   rw[if_neg K5];simp
  .rw[Nat.div_lt_iff_lt_mul K5];have:2^(7*f-6)*128=2^(7*(f+1)-6):=by rw[show 7*(f+1)-6=(7*f-6)+7 from by omega,Nat.pow_add]
   simp only[Nat.add_sub_cancel];omega
theorem Ye (l:Y4)(n:Nat)(h:n<256):l.map b8++[Y1 Q5 (n:Int)]=(l++[mM n]).map b8:=by
 simp[b8];omega
theorem Kk (e:Nat)(hn:e<2^64)(w:World):nK Y3 287 #[Y1 Q6 e] w (yV w (jU e)):=by
 obtain⟨F,hi,A,B,C⟩:=mj Yy;have hs:=nI (VJ.start hn);clear hn
 go_enter func287,ntmps287
 go_wp2_with fail
 go_loopw [0,2] (λa v wr=>∃(n f:Nat) (c:Y4),Hid (VJ e n f c)/\c.length<=10/\a=Y1 Q6 n/\yY wr w.heap.size v c/\nH w.heap.size w wr)
  (λa _ _=>(intOf a).toNat)
 case atStart=>exact⟨e,10,[],hs,by simp,rfl,yY.nil _ _,nF _ _⟩
 case round =>
  obtain⟨n,f,c,x,hl,rfl,i,hB⟩:=hrel;have u:=hB.size;have N:=BI n
  by_cases I:n<128
  .go_wp2_with (at_builtin;refine fN _ rfl _ _ 129 rfl w.heap.size 5 F (Y1 Q5 0) 1 1 underlying129 hi A B C rfl K7 _ _ _ rfl (eI i _) ⟨wr.heap.size,0,K3⟩ 1 1 _ rfl rfl (cell_one_new _ _ _) (by simp[ew]) (by unfold gP;omega) K5 (by simp;omega) ?_;intro G M h j _)
   go_ret;have s:=x.out.last I;refine⟨G,rfl,?_,(hB.alloc u _).grown j (by simp;omega) (λk q=>(fZ i k q).1)⟩;rw[Ye c n K5,s] at h;unfold yY;rw[show (jU e).length=c.length+1 from by rw[<-s];simp];exact h
  .go_wp2_with (at_builtin;refine fN _ rfl _ _ 129 rfl w.heap.size 5 F (Y1 Q5 0) 1 1 underlying129 hi A B C rfl K7 _ _ _ rfl (eI i _) ⟨wr.heap.size,0,K3⟩ 1 1 _ rfl rfl (cell_one_new _ _ _) (by simp[ew]) (by unfold gP;omega) K5 (by simp;omega) ?_;intro G M h j _)
   have z:=x.out.next K5;refine⟨⟨n / 128,f-1,c++[mM (n%128+128)],nI z,?_,by go_num,?_,?_⟩,by simp[intOf];omega⟩
   .have:=z.2.2.2;omega
   .rw[show ((n:Int)%128+128)=((n%128+128:Nat):Int) from by omega,Ye c _ K5] at h;unfold yY;simpa using h
   .exact(hB.alloc u _).grown j (by simp;omega) (λk q=>(fZ i k q).1)
theorem disable (w:World):(gm 386 #[]).run Y3 w=.ok (.value (Q2 #[])) w:=run_call_mark0 func386 K6 K6 K6 .disable K6 w
theorem enable (w:World):(gm 388 #[]).run Y3 w=.ok (.value (Q2 #[])) w:=run_call_mark0 func388 K6 K6 K6 .enable K6 w
theorem acquire (a:nN)(w:World):(gm 389 #[Y9 (some a)]).run Y3 w=.ok (.value (Q2 #[])) w:=run_call_marked func389 K6 K6 K6 .acquire K6 a w
theorem releaseMerge (a:nN)(w:World):(gm 391 #[Y9 (some a)]).run Y3 w=.ok (.value (Q2 #[])) w:=run_call_marked func391 K6 K6 K6 .releaseMerge K6 a w
theorem Gj (a:nN)(x:Value)(u:FrameMode)(w:World)(hc:w.cell? a=some x)(j:w.frozen? a=false):CallsD Y3 381 #[Y9 (some a),X3 true] u w λe h w'=>h=u/\(e=Y0 (Q2 #[])/\w'=w.drew.setCell a (Y1 Q7 1)):=by
 have c:w.drew.cell? a=some x:=by go_simp
 have f:w.drew.frozen? a=false:=by go_simp
 have i:=run_call_store (P:=Y3) func384 K6 K6 K6 K6 (k:=.u32) (y:=1) c f
 go_enter_d func381,ntmps381
 go_wp2
 go_region_calls
 all_goals (go_end0;exact⟨rfl,rfl⟩)
theorem Up (a:nN)(u:FrameMode)(w:World)(hc:w.cell? a=K4 (Y1 Q8 1))(c:w.frozen? a=false):CallsD Y3 380 #[Y9 (some a)] u w λe f w'=>f=u/\(e=Y0 (Q2 #[])/\w'=w.setCell a (Y1 Q8 0)):=by
 have hd:=disable;have j:=enable;have k:=releaseMerge;have h:=run_call_add (P:=Y3) func392 K6 K6 K6 .i32 K6 (y:=-1) (s:=0) hc c (by simp[go_sem];rfl);have i:=run_convert_to_unsafe (P:=Y3) (src:=456) (dst:=359) underlying456 underlying359 K6 hc
 go_enter_d func380,ntmps380
 go_wp2;go_end0;go_wp2;go_end0;exact⟨rfl,rfl⟩
theorem No (a:nN)(w:World)(hc:w.cell? a=K4 (Y1 Q8 0))(f:w.frozen? a=false):nK Y3 379 #[Y9 (some a)] w λe w'=>e=Y0 (Q2 #[])/\w'=w.setCell a (Y1 Q8 1):=by
 have hd:=disable;have j:=enable;have ha:=acquire;have h:=run_call_cas_hit (P:=Y3) func387 K6 K6 K6 .i32 K6 (y:=1) hc f;have c:(w.setCell a (Y1 Q8 1)).cell? a=K4 (Y1 Q8 1):=World.cell?_setCell_same w a _ hc;have i:=run_convert_to_unsafe (P:=Y3) (src:=456) (dst:=359) underlying456 underlying359 K6 c
 go_enter func379,ntmps379
 go_wp2
 first|go_end0|(simp only[Exit.inBlock,Exit.then];refine nT (mF rfl _ _ _) rfl ?_)|refine nT (mF rfl _ _ _) rfl ?_
 go_wp2;go_end0;exact⟨rfl,rfl⟩
theorem Vq (a:nN)(d:Nat)(w:World)(hc:w.cell? a=K4 (Y1 Q7 d)):nK Y3 374 #[Y9 (some a)] w λe w'=>e=Y0 (.bool ((d:Int) != 0))/\w=w':=by
 have hl:=run_call_load (P:=Y3) func378 K6 K6 K6 .u32 K6 hc
 go_enter func374,ntmps374
 go_wp2;go_ret;exact⟨rfl,rfl⟩
theorem Nv (b o k:Nat)(h:k<=1000000)(w:World)(hc:w.cell? ⟨b,o,K3⟩=K4 (Y1 Q4 k))(c:w.frozen? ⟨b,o,K3⟩=false):nK Y3 118 #[Y9 (K4 ⟨b,o,K3⟩),Y1 Q4 1] w λe w'=>e=Y0 (Y1 Q4 ((k:Int)+1))/\w.setCell ⟨b,o,K3⟩ (Y1 Q4 ((k:Int)+1))=w':=by
 have f:=run_call_add (P:=Y3) func194 K6 K6 K6 .i64 K6 (y:=1) (s:=(k:Int)+1) hc c (by
  have:=IntWalk.i64_in ((k:Int)+1) K5
  simp[go_sem,this])
 go_enter func118,ntmps118
 go_wp2;go_ret;exact⟨rfl,rfl⟩
theorem tn {y:Nat}(h:y%2=1):sh y=(y / 2) ^^^ OF:=by unfold sh;rw[if_pos h]
theorem uD {y:Nat}(h:¬ y%2=1):sh y=y / 2:=by unfold sh;rw[if_neg h]
theorem Cs {y:Nat}(c:y<4294967296):bits .xor .u32 ((y:Int) / 2) 3988292384=((y / 2 ^^^ OF:Nat):Int):=u32_xor_nat (y / 2) 3988292384 K5 K5
theorem wj {x:Nat}(c:x<4294967296):bits .xor .u32 IntKind.u32.max (x:Int)=((x ^^^ 4294967295:Nat):Int):=by
 have e:IntKind.u32.max=((4294967295:Nat):Int):=rfl;rw[e,u32_xor_nat _ _ K5 c,Nat.xor_comm]
structure Dd (cs0:Y7)(k:Nat)(cs:Y7):Prop where
 size:cs.size=260
 c0:cs[0]?=cs0[0]?
 c1:cs[1]?=cs0[1]?
 c2:cs[2]?=cs0[2]?
 many:cs[3]?=K4 (Y1 Q4 (k:Int))
 to:∀j,j<k->cs[4+j]?=K4 (Y1 Q7 (Dr 8 j:Int))
theorem Dd.next {c cs:Y7}{k:Nat}(h:Dd c k cs)(i:k<256):Dd c (k+1) ((cs.setIfInBounds (4+k) (Y1 Q7 (Dr 8 k:Int))).setIfInBounds 3 (Y1 Q4 ((k:Int)+1))):=by
 have hs:=h.size;refine⟨by simp[hs],?_,?_,?_,?_,?_⟩
 .rw[zS,if_neg K5,zS,if_neg K5];exact h.c0
 .rw[zS,if_neg K5,zS,if_neg K5];exact h.c1
 .rw[zS,if_neg K5,zS,if_neg K5];exact h.c2
 .simp[hs]
 .intro j f;rw[zS,if_neg K5,zS]
  by_cases e:j=k
  .subst e;rw[if_pos rfl,if_pos K5]
  .rw[if_neg K5];exact h.to j K5
theorem uy {y:Nat}(c:y<4294967296):bits .and .u32 (y:Int) 1=((y%2:Nat):Int):=by
 have:=u32_and_nat y 1 c K5;rw[Nat.and_one_is_mod] at this;exact this
theorem OQ (b:Nat)(f:Y7)(w:World)(F:za w b 403 f)(C:Dd f 0 f):nK Y3 361 #[Y9 b] w λe w'=>e=Y0 (Q2 #[])/\(∃cs,za w' b 403 cs/\Dd f 256 cs)/\w.grownBy w' (some b):=by
 go_enter func361,ntmps361
 go_wp2_with fail
 go_loopw [5] (λi wr=>∃(k:Nat) (cs:Y7),k<=256/\i=Y1 Q4 k/\Hid (za wr b 403 cs/\Dd f k cs)/\w.grownBy wr (some b)) (λi _=>256-(intOf i).toNat)
 case atStart=>exact⟨0,f,by omega,rfl,nI ⟨F,C⟩,fF _ _⟩
 case round =>
  obtain⟨k,cs,hk,rfl,c,A⟩:=hrel
  by_cases O:k<256
  .have S:=c.out.2.size;have N:∃u,cs[4+k]?=some u:=⟨cs[4+k]'(by omega),gr K5⟩;obtain⟨u,hu⟩:=N;have U:wr.cell? ⟨b,4+k,K3⟩=some u:=(c.out.1.cell _).trans hu;have V:wr.frozen? ⟨b,4+k,K3⟩=false:=c.out.1.free _;clear S hu
   go_wp2_with fail
   go_loop [3,10] (λs i=>∃j y:Nat,j<=8/\i=Y1 Q4 j/\y<4294967296/\s=Y1 Q7 y/\Hid (Dr (8-j) y=Dr 8 k)) (λ_ i=>8-(intOf i).toNat)
   case atStart=>exact⟨0,k,by omega,rfl,by omega,rfl,nI rfl⟩
   case round =>
    obtain⟨j,y,X,rfl,z,rfl,h⟩:=hrel
    by_cases Z:j<8
    .have hn:Hid (Dr (8-(j+1)) (sh y)=Dr 8 k):=by have:=h.out;rw[show 8-j=(8-(j+1))+1 from by omega] at this;exact nI this
     have B:=tJ z;have T:=uy z;clear h
     by_cases q:y%2=1
     .have hs:Hid (sh y=(y / 2) ^^^ OF):=nI (tn q);have G:((((y%2:Nat):Int))==1)=true:=by rw[beq_iff_eq];omega
      have aA:=Cs z;clear q
      go_wp2_with fail
      exact⟨⟨j+1,sh y,by omega,by go_num,B,by rw[hs.out],hn⟩,by simp[intOf];omega⟩
     .have hs:Hid (sh y=y / 2):=nI (uD q);have G:((((y%2:Nat):Int))==1)=false:=by rw[beq_eq_false_iff_ne];omega
      clear q
      go_wp2_with fail
      exact⟨⟨j+1,sh y,by omega,by go_num,B,by rw[hs.out];go_num,hn⟩,by simp[intOf];omega⟩
    .have hn:Hid (y=Dr 8 k):=by have:=h.out;rw[show 8-j=0 from by omega] at this;exact nI this
     clear h;have x:=c.out.1.set (4+k) (Y1 Q7 (y:Int));have I:(wr.setCell ⟨b,4+k,K3⟩ (Y1 Q7 (y:Int))).cell? ⟨b,3,K3⟩=K4 (Y1 Q4 (k:Int)):=by rw[x.cell,zS,if_neg K5];exact c.out.2.many
     have M:=x.free 3
     go_wp2_with (go_at_call 118;refine(Nv b 3 k K5 _ I M).mono ?_;rintro e w' ⟨rfl,rfl⟩)
     refine⟨⟨k+1,_,by omega,by go_num,nI ⟨x.set 3 _,?_⟩,qe A (qe (jA _ _ _ _) (jA _ _ _ _))⟩,by simp[intOf];omega⟩;rw[hn.out];exact c.out.2.next O
  .obtain rfl:k=256:=K5
   go_wp2_with fail
   go_end0;exact⟨rfl,⟨cs,c.out⟩,A⟩
structure JZ (d:Nat)(cs:Y7):Prop where
 size:cs.size=260
 c0:cs[0]?=K4 (Y1 Q7 (d:Int))
 c1:cs[1]?=K4 (Y1 Q8 0)
 dd:d=0\/d=1
 many:d=0->cs[3]?=K4 (Y1 Q4 0)
 to:d=1->∀j,j<256->cs[4+j]?=K4 (Y1 Q7 (Dr 8 j:Int))
theorem Fl (b:Nat)(k:Y7)(w:World)(s:za w b 403 k)(i:JZ 0 k):nK Y3 375 #[Y9 (K4 ⟨b,0,K3⟩),.func (.func 361) #[Y9 (K4 ⟨b,0,K3⟩)] #[]] w λe w' =>
   e=Y0 (Q2 #[])/\(∃cs,za w' b 403 cs/\JZ 1 cs)/\w.grownBy w' (some b):=by
 have S:w.cell? ⟨b,1,K3⟩=K4 (Y1 Q8 0):=(s.cell 1).trans i.c1;have T:=s.free 1;have c:=s.set 1 (Y1 Q8 1);have O:(w.setCell ⟨b,1,K3⟩ (Y1 Q8 1)).cell? ⟨b,0,K3⟩=K4 (Y1 Q7 ((0:Nat):Int)):=by rw[c.cell,zS,if_neg K5];exact i.c0
 have X:=i.size
 have B:Dd (k.setIfInBounds 1 (Y1 Q8 1)) 0 (k.setIfInBounds 1 (Y1 Q8 1)):=⟨by simp[X],rfl,rfl,rfl,by
  rw[zS,if_neg K5]
  exact i.many rfl,λj A=>by omega⟩
 have M:=OQ b _ _ c B;clear B c
 go_enter_defers func375,ntmps375
 go_wp2_with (first
  |(go_at_call 379;refine(No ⟨b,1,K3⟩ _ S T).mono ?_;rintro e w' ⟨rfl,rfl⟩)
  |(go_at_call 374;refine(Vq ⟨b,0,K3⟩ 0 _ O).mono ?_;rintro e w' ⟨rfl,rfl⟩)
  |(go_at_call 361;refine M.mono ?_;rintro e C ⟨rfl,⟨x,c,q⟩,U⟩))
 have V:=q.size;have F:x[0]?=K4 (Y1 Q7 ((0:Nat):Int)):=by rw[q.c0,zS,if_neg K5];exact i.c0
 have G:x[1]?=K4 (Y1 Q8 1):=by rw[q.c1,zS,if_pos rfl,if_pos K5]
 have u:=c.drew.set 0 (Y1 Q7 1);have N:=u.set 1 (Y1 Q8 0);refine leaves_cons (f:=381) (args:=#[Y9 (K4 ⟨b,0,K3⟩),X3 true]) K9 (by simp[go_sem]) ?_;refine(Gj ⟨b,0,K3⟩ (Y1 Q7 0) .returning _ ((c.cell 0).trans F) (c.free 0)).mono ?_;rintro e Z aA ⟨rfl,rfl,rfl⟩;refine leaves_cons (f:=380) (args:=#[Y9 (K4 ⟨b,1,K3⟩)]) (by simp[settle]) (by simp[go_sem]) ?_;refine(Up ⟨b,1,K3⟩ _ _ (by rw[u.cell,zS,if_neg K5];exact G) (u.free 1)).mono ?_;rintro e Z aA ⟨rfl,rfl,rfl⟩;have z:(∃cs,za ((C.drew.setCell ⟨b,0,K3⟩ (Y1 Q7 1)).setCell ⟨b,1,K3⟩ (Y1 Q8 0)) b 403 cs/\JZ 1 cs)/\w.grownBy ((C.drew.setCell ⟨b,0,K3⟩ (Y1 Q7 1)).setCell ⟨b,1,K3⟩ (Y1 Q8 0)) (some b):=by
  refine⟨⟨_,N,⟨by simp[V],?_,?_,.inr rfl,λh=>by omega,λ_ j A => ?_⟩⟩,?_⟩
  .rw[zS,if_neg K5,zS,if_pos rfl,if_pos K5];rfl
  .rw[zS,if_pos rfl,if_pos (by simp;omega)]
  .rw[zS,if_neg K5,zS,if_neg K5];exact q.to j A
  .exact qe (jA _ _ _ _) (qe U (qe (yM _ _) (qe (jA _ _ _ _) (jA _ _ _ _))))
 have I:=nI z;clear z;simp[Leaves,settle,lh,Tryz.results375];exact I.out
theorem OI (b d:Nat)(f:Y7)(w:World)(h:za w b 403 f)(c:JZ d f):nK Y3 360 #[Y9 (K4 ⟨b,0,K3⟩),.func (.func 361) #[Y9 (K4 ⟨b,0,K3⟩)] #[]] w λe w' =>
   e=Y0 (Q2 #[])/\(∃cs,za w' b 403 cs/\JZ 1 cs)/\w.grownBy w' (some b):=by
 have i:w.cell? ⟨b,0,K3⟩=K4 (Y1 Q7 (d:Int)):=(h.cell 0).trans c.c0;rcases c.dd with rfl|rfl
 .have j:=Fl b _ _ h c;have q:(((0:Nat):Int) != 0)=false:=K7
  go_enter func360,ntmps360
  go_wp2_with (first
   |(go_at_call 374;refine(Vq ⟨b,0,K3⟩ 0 _ i).mono ?_;rintro e w' ⟨rfl,rfl⟩)
   |(go_at_call 375;refine j.mono ?_;rintro e u ⟨rfl,k,s⟩))
  go_end0;exact⟨rfl,k,s⟩
 .have q:(((1:Nat):Int) != 0)=true:=K7
  go_enter func360,ntmps360
  go_wp2_with (go_at_call 374;refine(Vq ⟨b,0,K3⟩ 1 _ i).mono ?_;rintro e w' ⟨rfl,rfl⟩)
  go_end0;exact⟨rfl,⟨f,h,c⟩,fF _ _⟩
theorem Le (b d:Nat)(f:Y7)(s:Nat)(c:UInt8)(hs:s<4294967296)(w:World)(u:za w b 403 f)(q:JZ d f):nK Y3 327 #[Y9 b,Y1 Q7 s,Y1 Q5 (c.toNat:Int)] w λe w' =>
   e=Y0 (Y1 Q7 (Gp s c:Int))/\(∃cs,za w' b 403 cs/\JZ 1 cs)/\w.grownBy w' (some b):=by
 have h:=OI b d f w u q;have C:=c.toNat_lt;have B:(s%256) ^^^ c.toNat<256:=by have:=Nat.xor_lt_two_pow (n:=8) (show s%256<2^8 from by omega) (show c.toNat<2^8 from by omega);simpa using this
 have I:bits .xor .u8 ((s:Int)%256) (c.toNat:Int)=(((s%256) ^^^ c.toNat:Nat):Int):=by have:=u8_xor_nat (s%256) c.toNat K5 K5;rw[<-this];congr 1
 have j:=St s c;generalize A:(s%256) ^^^ c.toNat=x at *;clear A;have G:bits .xor .u32 ((s:Int) / 256) (Dr 8 x:Int)=(Gp s c:Int):=by have:=u32_xor_nat (s / 256) (Dr 8 x) K5 (BV 8 K5);rw[j,<-this];congr 1
 clear j
 go_enter func327,ntmps327
 go_wp2_with (go_at_call 360;refine h.mono ?_;clear h;rintro e M ⟨rfl,⟨k,i,h1⟩,z⟩;have F:=(i.cell (4+x)).trans (h1.to rfl x B))
 go_ret;exact⟨rfl,⟨k,i,h1⟩,z⟩
theorem za.kept {W W':World}{row:Option Nat}{g:Nat}{t:nS}{cs:Y7}(h:za W g t cs)(f:W.grownBy W' row)(i:∀r,row=some r->∃o:Obj,W.heap[r]?=some o/\o.isCells=false):za W' g t cs :=
 h.grown f (λe=>by
  obtain⟨o,c,hc⟩:=i g e.symm;rw[h] at c;injection c with c
  subst c
  cases hc)
theorem za.boxed {W:World}{g:Nat}{t:nS}{v:Value}(h:za W g t #[v]):W.cell? g=some v:=by rw[h.cell];rfl
theorem za.others {W W':World}{b:Nat}{t:nS}{cs:Y7}(h:za W b t cs)(f:W.grownBy W' (some b)):KeepsOthers W W' :=
 KeepsOthers.of_grownBy f (λj o e c=>by
  injection e with e
  subst e;rw[h] at c;injection c with c
  subst c
  rfl)
end
section
open Go Go.RowKit xq Go.Shelf
attribute [local go_sem] Oper.semAt_some
abbrev xA (w0:World)(n₀:Nat):={x:(Y5×Nat)×Y4 // qv w0 n₀ x.1.1 x.1.2 x.2}
def xA.val {w0:World}{n₀:Nat}(p:xA w0 n₀):Value:=X1 p.1.1.1 p.1.2.length p.1.1.2
def xA.l {w0:World}{n₀:Nat}(p:xA w0 n₀):Y4:=p.1.2
structure Cn (w:World)(B:Nat)(A:Y5)(c:Nat)(ls:List (xA w B)):Prop where
 le:ls.length<=c
 max:c<=9223372036854775807
 pO:0<ls.length->∃g o,A=some ⟨g,o,K3⟩/\g<B/\∀j (h:j<ls.length),w.cell? ⟨g,o+j,K3⟩=some ls[j].val
section
variable {w0:World}{n₀:Nat}
theorem RX (n:Nat)(aC:1<=n)(l f b off G:Nat)(zs:List (xA w0 n₀))(aB:zs.length<=9223372036854775807)(T:b<n₀)(J q:List (xA w0 n₀)->World->Prop)
  (S:∀c x W,J c W->c.length<zs.length->YieldAt nv (n-1) Y3 l #[x.val] W λe W' =>
   (e=Y0 (X3 true)/\J (c++[x]) W'/\nH n₀ W W')\/(e=Y0 (X3 false)/\q (c++[x]) W'))
  (W:World) (aA:W.cell? ⟨f,0,K3⟩=some (X1 (K4 ⟨b,off,K3⟩) zs.length G)) (hc:∀j (h:j<zs.length),W.cell? ⟨b,off+j,K3⟩=some zs[j].val) (I:J [] W) :
  mQ nv n Y3 359 #[.func (.yield l) #[] #[],Y9 (K4 ⟨f,0,K3⟩)] W λe W'=>(∃v,e=Y0 v) /\
   ((∃F,F=zs/\J F W')\/(∃c,c <+: zs/\q c W')):=by
 refine gy func359 rfl trivial ?_ rfl;simp only[ntmps359,zR,zK,zY,yB,yC,qC,qD,qO,qG,zQ,zW]
 gi_wp2
 gi_loopw [7] (λi wr=>∃k:Nat,k<=zs.length/\i=Y1 Q4 k/\J (zs.take k) wr/\nH n₀ W wr)
  (λi _=>zs.length-(intOf i).toNat)
 case atStart=>exact⟨0,ly _,rfl,by simpa using I,nF _ _⟩
 case round =>
  obtain⟨k,hk,rfl,s,A⟩:=hrel
  by_cases z:k<zs.length
  .have U:wr.cell? ⟨b,off+k,K3⟩=some zs[k].val:=(A.cell (p:=⟨b,off+k,K3⟩) T).trans (hc k z);obtain⟨fn,tmps,assign,body,X,O⟩:=S _ zs[k] wr s (by simp;omega);have B:zs.take k++[zs[k]]=zs.take (k+1):=(zU z).symm;have u:=nI B;clear B;have C:zs[k].val=.slice zs[k].1.1.1 zs[k].1.2.length zs[k].1.1.2:=rfl;rw[C] at U X;clear C hc
   gi_wp2
   refine O.mono ?_;rintro e Z (⟨rfl,M,V⟩|⟨rfl,N⟩)
   .gi_wp2
    go_roundw
    case rel=>exact⟨k+1,by omega,by simp,by rw[<-u.out];exact M,A.trans V⟩
    case measure=>simp[intOf];omega
   .gi_wp2
    refine nT (mF rfl _ _ _) rfl ?_;exact⟨⟨_,rfl⟩,.inr ⟨_,by rw[u.out];exact List.take_prefix _ _,N⟩⟩
  .obtain rfl:k=zs.length:=K5
   gi_wp2
   go_end0;exact⟨⟨_,rfl⟩,.inl ⟨_,List.take_length,s⟩⟩
theorem Dl (n:Nat)(l c:Nat)(A:Y5)(f:Nat)(J:List (xA w0 n₀)->World->Prop)(W:World)(k:W.cell? ⟨c,0,K3⟩=some (X1 A 0 f))(h:J [] W):mQ nv n Y3 359 #[.func (.yield l) #[] #[],Y9 (K4 ⟨c,0,K3⟩)] W λe W'=>(∃v,e=Y0 v)/\J [] W':=by
 refine gy func359 rfl trivial ?_ rfl;simp only[ntmps359,zR,zK,zY,yB,yC,qC,qD,qO,qG,zQ,zW]
 gi_wp2
 gi_loopw [7] (λi wr=>i=Y1 Q4 0/\J [] wr) (λ_ _=>0)
 case atStart=>exact⟨rfl,h⟩
 case round =>
  obtain⟨rfl,j⟩:=hrel
  gi_wp2
  go_end0;exact⟨⟨_,rfl⟩,j⟩
theorem Ib (n:Nat)(a:Y5)(len c:Nat)(w:World):mQ nv n Y3 326 #[X1 a len c] w λe w'=>e=Y0 (.func (.func 359) #[] #[Y9 w.heap.size])/\w.alloc (Q9 #[X1 a len c] 142)=w':=by
 refine gy func326 rfl trivial ?_ rfl;simp only[ntmps326,zR,zK,zY,yB,yC,qC,qD,qO,qG,zQ,zW]
 gi_wp2
 go_ret;exact⟨rfl,rfl⟩
theorem RW (n:Nat)(N:1<=n)(f:Nat)(A:Y5)(c:Nat)(zs:List (xA w0 n₀))(h:Cn w0 n₀ A c zs)(w:World)(G:nH n₀ w0 w)(C:f<w.heap.size)(O:n₀<=w.heap.size)
  (hc:w.cell? f=some (X1 A zs.length c)) :
  SeqStopsK nv n Y3 359 #[Y9 f] (λx:xA w0 n₀=>#[x.val]) (nH n₀) (λT=>T=zs) (λS=>S <+: zs) zs.length w:=λl J B W s _ _ F q=>by
 have u:=(s.cell (p:=⟨f,0,K3⟩) C).trans hc;have U:=h.le;have V:=h.max;rcases mf zs.length with k|k
 .obtain rfl:=qI k;exact(Dl n l f A c J W u q).mono λe W' ⟨M,i⟩=>⟨M,.inl ⟨_,rfl,i⟩⟩
 .obtain⟨g,o,rfl,z,I⟩:=h.pO k;exact RX n N l f g o c zs K5 z J B F W u (λj i=>((G.trans (s.mono O)).cell z).trans (I j i)) q
end
theorem BM:JZ 0 zeroCells403 :=
 ⟨by kernel_rfl,by kernel_rfl,by kernel_rfl,.inl rfl,λ_=>by kernel_rfl,λh=>by omega⟩
theorem tl (n:Nat)(hn:4<=n)(w:World)(A:Y5)(c:Nat)(zs:List (xA w w.heap.size))(hI:Cn w w.heap.size A c zs):mQ nv n Y3 291 #[X1 A zs.length c] w λe W'=>e=Y0 (Y1 Q7 (Ro (zs.map xA.l).flatten:Int))/\nH w.heap.size w W':=by
 have h1:1<=n:=K5
 refine callsIn_of_wp_marks func291 rfl trivial ?_ rfl;simp only[ntmps291,zR,zK,zY,yB,yC,qC,qD,qO,qG,zQ,zW]
 gi_wp2_with (refine⟨trivial,?_⟩;gi_at_call 326;refine(Ib (n-1) _ _ _ _).mono ?_;rintro e w' ⟨rfl,rfl⟩)
 have b0:za ((((w.alloc (Q9 zeroCells403 403)).alloc (Q9 #[Y9 w.heap.size] 391)).alloc (Q9 #[Y1 Q7 4294967295] 148)).alloc (Q9 #[X1 A zs.length c] 142)) w.heap.size 403 zeroCells403:=(((za.new _ _ _).alloc _).alloc _).alloc _;have b1:za ((((w.alloc (Q9 zeroCells403 403)).alloc (Q9 #[Y9 w.heap.size] 391)).alloc (Q9 #[Y1 Q7 4294967295] 148)).alloc (Q9 #[X1 A zs.length c] 142)) (w.heap.size+1) 391 #[Y9 w.heap.size]:=by
  have:=((za.new (w.alloc (Q9 zeroCells403 403)) 391 #[Y9 w.heap.size]).alloc (Q9 #[Y1 Q7 4294967295] 148)).alloc (Q9 #[X1 A zs.length c] 142)
  rwa [nG] at this
 have b2:za ((((w.alloc (Q9 zeroCells403 403)).alloc (Q9 #[Y9 w.heap.size] 391)).alloc (Q9 #[Y1 Q7 4294967295] 148)).alloc (Q9 #[X1 A zs.length c] 142)) (w.heap.size+1+1) 148 #[Y1 Q7 4294967295]:=by
  have:=(za.new ((w.alloc (Q9 zeroCells403 403)).alloc (Q9 #[Y9 w.heap.size] 391)) 148 #[Y1 Q7 4294967295]).alloc (Q9 #[X1 A zs.length c] 142)
  rwa [nG,nG] at this
 have b3:((((w.alloc (Q9 zeroCells403 403)).alloc (Q9 #[Y9 w.heap.size] 391)).alloc (Q9 #[Y1 Q7 4294967295] 148)).alloc (Q9 #[X1 A zs.length c] 142)).cell? (w.heap.size+1+1+1:Nat)=some (X1 A zs.length c):=by
  have:=YD (((w.alloc (Q9 zeroCells403 403)).alloc (Q9 #[Y9 w.heap.size] 391)).alloc (Q9 #[Y1 Q7 4294967295] 148)) (X1 A zs.length c) 142
  rwa [nG,nG,nG] at this
 have U:nH w.heap.size w ((((w.alloc (Q9 zeroCells403 403)).alloc (Q9 #[Y9 w.heap.size] 391)).alloc (Q9 #[Y1 Q7 4294967295] 148)).alloc (Q9 #[X1 A zs.length c] 142)) :=
  ((((nF _ w).alloc (zG _) _).alloc K9 _).alloc (by simp;omega) _).alloc (by simp;omega) _
 have aO:((((w.alloc (Q9 zeroCells403 403)).alloc (Q9 #[Y9 w.heap.size] 391)).alloc (Q9 #[Y1 Q7 4294967295] 148)).alloc (Q9 #[X1 A zs.length c] 142)).heap.size=w.heap.size+4:=by simp
 generalize aF:((((w.alloc (Q9 zeroCells403 403)).alloc (Q9 #[Y9 w.heap.size] 391)).alloc (Q9 #[Y1 Q7 4294967295] 148)).alloc (Q9 #[X1 A zs.length c] 142))=W0 at *;clear aF;refine wpIn_rangeFunc_ownG rfl h1 (gf:=359) (lb:=#[Y9 (w.heap.size+1+1+1:Nat)]) rfl trivial (enters_of func359 K6 rfl)
  (RW (n-1) K5 (w.heap.size+1+1+1) A c zs hI W0 U K5 K5 b3) belowK_t (belowK_b K5) (nF _ _) (λ_=>rfl)
  (λf W=>((∃d cs,za W w.heap.size 403 cs/\JZ d cs)/\za W (w.heap.size+1) 391 #[Y9 w.heap.size]/\za W (w.heap.size+1+1) 148 #[Y1 Q7 (Jk 4294967295 (f.map xA.l).flatten:Int)])/\nH w.heap.size w W)
  (λ_ _ _=>False)
  (OwnFrom.and (Own.from (λs A B row hs u O=>⟨by obtain⟨d,cs,h1,h2⟩:=hs.1;exact⟨d,cs,h1.kept u O,h2⟩,hs.2.1.kept u O,hs.2.2.kept u O⟩) _) (ownFrom_below (zG _) K5))
  (λ_ _ _ _ _ hs _ _=>hs)
  ⟨⟨⟨0,_,b0,BM⟩,b1,b2⟩,U⟩
  (λx => {tmps:=#[X1 A zs.length c,gQ,Y1 Q7 0,Y9 (w.heap.size+1:Nat),Y9 (w.heap.size+1+1:Nat),X1 x.1.1.1 x.1.2.length x.1.1.2,gQ,gQ,Q0 zeroCells403,Y9 w.heap.size,X1 A zs.length c,.func (.func 359) #[] #[Y9 (w.heap.size+1+1+1:Nat)],X1 x.1.1.1 x.1.2.length x.1.1.2,gQ,gQ,gQ,gQ,gQ,gQ,gQ,gQ,gQ,gQ,gQ,gQ,gQ],defers:=[]}) ?assign ?body ?done ?stop
 case assign =>
  intro l x W K C;have hv:x.val=X1 x.1.1.1 x.1.2.length x.1.1.2:=rfl;dsimp only[hv]
  gi_wp2
  exact C
 case body =>
  rintro l f x W ⟨⟨⟨d,cs,q,F⟩,hP,j⟩,hB⟩ _;have S:=x.2;have aP:=S.le;have aQ:=S.max;have aJ:1<=n-1-1:=K5
  have hF:(f++[x]).map xA.l=f.map xA.l++[x.1.2]:=by simp[xA.l]
  have V:Jk 4294967295 ((f++[x]).map xA.l).flatten=Jk (Jk 4294967295 (f.map xA.l).flatten) x.1.2:=by rw[hF,List.flatten_append,UI];simp
  have I:=Rn (s:=4294967295) K5 (f.map xA.l).flatten;have HF:=nI V;clear hF V;generalize Jk 4294967295 (f.map xA.l).flatten=M at *
  gi_wp2_with fail
  gi_loopw [15] (λi wr=>∃k:Nat,k<=x.1.2.length/\i=Y1 Q4 k/\(∃d cs,za wr w.heap.size 403 cs/\JZ d cs)/\za wr (w.heap.size+1) 391 #[Y9 w.heap.size]/\za wr (w.heap.size+1+1) 148 #[Y1 Q7 (Jk M (x.1.2.take k):Int)]/\nH w.heap.size W wr/\KeepsOthers W wr)
   (λi _=>x.1.2.length-(intOf i).toNat)
  case atStart=>exact⟨0,by omega,rfl,⟨d,cs,q,F⟩,hP,j,nF _ _,KeepsOthers.refl _⟩
  case round =>
   obtain⟨k,Z,rfl,⟨d,cs,q,F⟩,hP,j,z,X⟩:=hrel
   by_cases aA:k<x.1.2.length
   .obtain⟨g,o,T,u,hc⟩:=S.pO K5;have aM:wr.cell? ⟨g,o+k,K3⟩=K4 (Y1 Q5 (x.1.2[k].toNat:Int)):=((hB.trans z).cell (p:=⟨g,o+k,K3⟩) u).trans (hc k aA);have aI:=Rn I (x.1.2.take k);have aB:Jk M (x.1.2.take (k+1))=Gp (Jk M (x.1.2.take k)) x.1.2[k]:=by rw[zU aA,UI];rfl
    have HN:=nI aB;clear aB hc I;generalize Jk M (x.1.2.take k)=sk at *;have aK:=hP.boxed;have aH:=j.boxed;rw[T];clear T
    gi_wp2_with (refine⟨trivial,?_⟩;gi_at_call 327;refine(CallsIn.inRound l (callsIn_wide.2 (Le w.heap.size d cs sk x.1.2[k] aI _ q F))).mono ?_;rintro e w' ⟨rfl,⟨aC,aG,h1⟩,G⟩;have N:=j.grown G (by simp;omega);have aE:=hP.grown G K9;have aL:=N.boxed;have aN:=N.free 0)
    have aD:nH w.heap.size wr w':=(nF _ _).grown G (by have:=q.lt;omega) (λk Z=>by cases Z;exact zG _);refine⟨⟨k+1,by omega,by go_num,⟨1,aC,aG.other (by simp;omega) _,h1⟩,aE.other K9 _,?_,(z.trans aD).setCell (p:=⟨w.heap.size+1+1,0,K3⟩) (by simp;omega) _,(X.trans (q.others G)).trans (KeepsOthers.setCell _ _ _)⟩,by simp[intOf];omega⟩;rw[HN.out];exact N.set 0 _
   .obtain rfl:k=x.1.2.length:=K5
    gi_wp2_with fail
    rw[List.take_length] at j;refine⟨X.from _,z,⟨⟨⟨d,cs,q,F⟩,hP,?_⟩,hB.trans z⟩⟩;rw[HF.out];exact j
 case done =>
  rintro D ys W hD rfl ⟨⟨q,hP,j⟩,hB⟩ C;have aH:=j.boxed;have I:=Rn (s:=4294967295) K5 (ys.map xA.l).flatten;have hinv:=wj I
  gi_wp2
  refine⟨by simp,.inl ⟨_,_,rfl,run_takeDeferred C,?_⟩⟩;exact⟨_,results_tmp rfl _ _ _,rfl,hB.trans (belowK_b (w:=w) (zG _) W D _ _ K5 C rfl rfl)⟩
 case stop =>
  rintro D c f W _ _ h _;exact h.elim
theorem Me (w:World)(A:Y5)(c:Nat)(zs:List (xA w w.heap.size))(f:Cn w w.heap.size A c zs):nK Y3 291 #[X1 A zs.length c] w λe W'=>e=Y0 (Y1 Q7 (Ro (zs.map xA.l).flatten:Int))/\nH w.heap.size w W' :=
 callsIn_wide.1 (tl 4 (zG _) w A c zs f)
theorem Ld (W:World)(A:Y5)(c:Nat)(l:Y4)(h:qv W W.heap.size A c l):nK Y3 291 #[X1 W.heap.size 1 1] (W.alloc (Q9 #[X1 A l.length c] 129)) λe W'=>e=Y0 (Y1 Q7 (Ro l:Int))/\nH W.heap.size W W':=by
 have f:nH W.heap.size W (W.alloc (Q9 #[X1 A l.length c] 129)):=(nF _ _).alloc (zG _) _;have h1:qv (W.alloc (Q9 #[X1 A l.length c] 129)) (W.alloc (Q9 #[X1 A l.length c] 129)).heap.size A c l:=(h.below f).more K9
 have H:=Me (W.alloc (Q9 #[X1 A l.length c] 129)) (K4 ⟨W.heap.size,0,K3⟩) 1 [⟨((A,c),l),h1⟩] ⟨by simp,by omega,λ_=>⟨W.heap.size,0,rfl,by simp,λj i=>by
  obtain rfl:j=0:=by simpa using i
  exact YD _ _ _⟩⟩
 refine H.mono ?_;rintro e W' ⟨rfl,hB⟩;exact⟨by simp[xA.l],f.trans (hB.mono K9)⟩
theorem Lb (W:World)(A f:Y5)(c c2:Nat)(l l2:Y4)(k:qv W W.heap.size A c l)(q:qv W W.heap.size f c2 l2):nK Y3 291 #[X1 W.heap.size 2 2] (W.alloc (Q9 #[X1 A l.length c,X1 f l2.length c2] 129)) λe W'=>e=Y0 (Y1 Q7 (Ro (l++l2):Int))/\nH W.heap.size W W':=by
 have h:nH W.heap.size W (W.alloc (Q9 #[X1 A l.length c,X1 f l2.length c2] 129)):=(nF _ _).alloc (zG _) _;have h1:qv (W.alloc (Q9 #[X1 A l.length c,X1 f l2.length c2] 129)) (W.alloc (Q9 #[X1 A l.length c,X1 f l2.length c2] 129)).heap.size A c l:=(k.below h).more K9;have h2:qv (W.alloc (Q9 #[X1 A l.length c,X1 f l2.length c2] 129)) (W.alloc (Q9 #[X1 A l.length c,X1 f l2.length c2] 129)).heap.size f c2 l2:=(q.below h).more K9;have i:=za.new W 129 #[X1 A l.length c,X1 f l2.length c2]
 have H:=Me (W.alloc (Q9 #[X1 A l.length c,X1 f l2.length c2] 129)) (K4 ⟨W.heap.size,0,K3⟩) 2 [⟨((A,c),l),h1⟩,⟨((f,c2),l2),h2⟩] ⟨by simp,by omega,λ_=>⟨W.heap.size,0,rfl,by simp,λj s=>by
  rw[i.cell];rcases(show j=0\/j=1 from by simp at s;omega) with rfl|rfl
  .rfl
  .rfl⟩⟩
 refine H.mono ?_;rintro e W' ⟨rfl,hB⟩;exact⟨by simp[xA.l],h.trans (hB.mono K9)⟩
end
section
open Go Go.RowKit xq
theorem za.setRow {w:World}{g:Nat}{t:nS}{cs:Y7}(h:za w g t cs)(cs':Y7):za (w.setRow g cs') g t cs':=setRow_heap w g cs cs' t (0,0) h
theorem za.pN {w:World}{g k:Nat}{t:nS}{cs:Y7}(h:za w g t cs)(c:g≠k)(cs':Y7):za (w.setRow k cs') g t cs:=(ng w k g cs' c).trans h
theorem zf {B:Nat}{w0 w:World}(c:nH B w0 w){g:Nat}(e:B<=g)(cs:Y7):nH B w0 (w.setRow g cs) :=
 c.trans ⟨rfl,rfl,rfl,by simp[World.setRow],λk f=>ng w g k cs K5⟩
def yu (l:Y4)(o n:Nat)(src:Y4):Y4:=l.take o++src.take n++l.drop (o+min src.length n)
theorem RD {w:World}{g o:Nat}{l src:Y4}{A:Y5}{c B f dCap:Nat}(ty:nS){T:nS}(h:za w g T (l.map b8).toArray)(u:qv w B A c src)(O:o+f<=l.length):(Builtin.copy_ #[129,129] ty #[X1 (K4 ⟨g,o,K3⟩) f dCap,X1 A src.length c]).run Y3 w=.ok (Y1 Q4 ((min src.length f:Nat):Int)) (w.setRow g ((yu l o f src).map b8).toArray):=by
 obtain⟨X,hi,U,N,V⟩:=mj Yy;have hs:(Y3.info? 5).map (·.size)=some 1:=by rw[hi];simp[N]
 rcases mf src.length with k|k
 .obtain rfl:=qI k;have e:yu l o f []=l:=by simp[yu]
  rw[e,setRow_self w g _ _ _ h];rcases A with _|C
  .obtain rfl:=u.nil rfl;have:=run_copy_nil (P:=Y3) w 129 129 ty 5 ⟨g,o,K3⟩ f dCap underlying129 (by rw[hi];rfl);simpa[goInt] using this
  .have:=run_copy_row (P:=Y3) w 129 129 ty 5 g o f dCap C 0 c _ _ [] underlying129 hs h K9 K9 (by simp;omega) K9;have F:((l.map b8).toArray.toList.take o++[]++(l.map b8).toArray.toList.drop (o+([]:Y8).length)).toArray=(l.map b8).toArray:=by simp
   rw[F,setRow_self w g _ _ _ h] at this;simpa[goInt] using this
 .obtain⟨i,s,rfl,S,hc⟩:=u.pO k;have:=run_copy_row (P:=Y3) w 129 129 ty 5 g o f dCap ⟨i,s,K3⟩ src.length c _ _ ((src.take f).map b8) underlying129 hs h (by simp[Nat.min_comm]) ?_ (by simp;omega) (λv M=>by obtain⟨x,_,rfl⟩:=qR.1 M;rfl)
  .rw[this];simp[goInt,yu,Nat.min_comm,List.map_take,List.map_drop]
  .intro j v q;have z:j<(src.take f).length:=by have:=(qM.1 q).1;simpa using this
   have I:j<src.length:=by simp at z;omega
   have G:(⟨i,s,none⟩:nN).add j=⟨i,s+j,none⟩:=by cases j<;>simp[Addr.add]
   rw[G,hc j I];rw[mJ,zM z,List.getElem_take] at q;simpa[b8] using q
section
variable {w:World}{ops:Array nh}{rest:List nh}{o:nh}{a:gh}{Q:mh->gh->World->Prop}
theorem Js {K:gh->World->Prop}(d s:nO)(k:o.op=.call {callee:=.builtin .copy,args:=#[d,s],argTypes:=#[129,129]})
  (g off:Nat) (l src:Y4) (A:Y5) (c B e dCap:Nat) (hd:a.eval d=X1 (K4 ⟨g,off,K3⟩) e dCap) (hs:a.eval s=X1 A src.length c)
  {T:nS} (f:za w g T (l.map b8).toArray) (j:qv w B A c src) (i:off+e<=l.length)
  (h:K (a.put o.dst (Y1 Q4 ((min src.length e:Nat):Int))) (w.setRow g ((yu l off e src).map b8).toArray)):o.wp Y3 a w K Q:=by
 have q:=RD (dCap:=dCap) o.type f j i;unfold mW nQ;simp only[k,resolve,invoke,builtin,gJ,ny,nc,zJ,zL,zN,hd,hs,q];exact h
theorem Sa (k:o.guard=none)(d s:nO)(u:o.op=.call {callee:=.builtin .copy,args:=#[d,s],argTypes:=#[129,129]})
  (g off:Nat) (l src:Y4) (A:Y5) (c B e dCap:Nat) (hd:a.eval d=X1 (K4 ⟨g,off,K3⟩) e dCap) (hs:a.eval s=X1 A src.length c)
  {T:nS} (i:za w g T (l.map b8).toArray) (q:qv w B A c src) (j:off+e<=l.length)
  (h:mX Y3 ops Q rest (a.put o.dst (Y1 Q4 ((min src.length e:Nat):Int))) (w.setRow g ((yu l off e src).map b8).toArray)):mX Y3 ops Q (o::rest) a w :=
 fO k λ_ f=>Js d s u g off l src A c B e dCap hd hs i q j (f _ _ h)
end
theorem yY.blk {w:World}{base g:Nat}{l:Y4}(h:yY w base (X1 g l.length l.length) l):za w g 5 (l.map b8).toArray/\base<=g:=by
 rcases h.2 with⟨h1,_⟩|⟨g',cap,cur,hv,hb,hg,hle,_,hs,ht⟩
 .cases h1
 .injection hv with e1 e2 e3
  injection e1 with e1
  injection e1 with e1 _ _
  subst e1 e3;refine⟨?_,hb⟩;have e:cur.toList=l.map b8:=by rw[<-ht,qE];simp;omega
  have c:cur=(l.map b8).toArray:=by rw[<-e]
  unfold za;rw[hg,c]
theorem yY.later {w w':World}{base:Nat}{v:Value}{l:Y4}(h:yY w base v l)(hB:nH w.heap.size w w'):yY w' base v l:=by
 refine⟨h.1,?_⟩;rcases h.2 with h|⟨g,e,cur,h1,h2,c,f⟩
 .exact .inl h
 .exact .inr ⟨g,e,cur,h1,h2,(hB.block g (zI.1 c).1).trans c,f⟩
theorem yY.oh {w:World}{base:Nat}{v:Value}{l:Y4}(h:yY w base v l):∀r,v.ownBlock=some r->base<=r:=by
 intro r c;rcases h.form with⟨rfl,_⟩|⟨g,cap,rfl,hb,_⟩
 .cases c
 .injection c with c
  subst c;exact hb
theorem zo {w w':World}{B:Nat}{row:Option Nat}(c:w.grownBy w' row)(hB:B<=w.heap.size)(f:∀r,row=some r->B<=r):nH B w w' :=
 ⟨c.os,c.tape,c.output,c.size,λk h=>c.block k K5 (λe=>by have:=f k e.symm;omega)⟩
section
variable {w:World}{ops:Array nh}{o:nh}{a:gh}{K:gh->World->Prop}{Q:mh->gh->World->Prop}{E:Prop}
theorem Gk (j:o.guard=none)(d s:nO)(q:o.op=.call {callee:=.builtin .copy,args:=#[d,s],argTypes:=#[129,129]})
  (g off:Nat) (l src:Y4) (A:Y5) (c B e dCap:Nat) (hd:a.eval d=X1 (K4 ⟨g,off,K3⟩) e dCap) (hs:a.eval s=X1 A src.length c)
  {T:nS} (f:za w g T (l.map b8).toArray) (k:qv w B A c src) (i:off+e<=l.length)
  (h:K (a.put o.dst (Y1 Q4 ((min src.length e:Nat):Int))) (w.setRow g ((yu l off e src).map b8).toArray)) :
  if gS o (fy ops a.tmps)=true then mW Y3 o a w K Q else E:=by
 have u:gS o (fy ops a.tmps)=true:=by simp[gS,j]
 rw[if_pos u];exact Js d s q g off l src A c B e dCap hd hs f k i h
end
theorem za.range {w:World}{g:Nat}{t:nS}{cs:Y7}(h:za w g t cs):w.rangeAt g 0 cs.toList:=λj v c=>by
 rw[qA,h.cell];simpa using c
structure yw (P:gF)(T:nS)(n:Nat):Prop where
 desc:∃d,P.underlying T=some d/\d.isRow=true
 size:(P.info? T).map (·.size)=some n
theorem Qo {P:gF}{w:World}{g:Nat}{T t:nS}{cs:Y7}(c:yw P T cs.size)(e:za w g t cs):(loadVar T ⟨g,0,K3⟩).run P w=.ok (Q0 cs) w:=by
 obtain⟨d,hu,hd⟩:=c.desc;have:=run_loadVar_mid (P:=P) w g 0 T cs.toList d e.range hu hd (by simpa using c.size);simpa using this
theorem Qy {P:gF}{w:World}{g:Nat}{T t:nS}{cs cs':Y7}(c:yw P T cs.size)(f:za w g t cs)(hs:cs'.size=cs.size)(h1:∀v∈cs'.toList,v.oneCell'=true):(storeVar T ⟨g,0,K3⟩ (Q0 cs')).run P w=.ok () (w.setRow g cs'):=by
 have h:=run_storeCells_at (P:=P) g 0 t cs'.toList 0 cs w f (by simp;omega) h1;have e:(cs.toList.take (0+0)++cs'.toList++cs.toList.drop (0+0+cs'.toList.length)).toArray=cs':=by simp[List.drop_of_length_le,hs]
 rw[e] at h;have hi:=c.size;cases hq:P.info? T with
 | none=>simp[hq] at hi
 | some i =>
  have j:cs'.size=i.size:=by simp[hq] at hi;omega
  simp[storeVar,sizeOf,typeInfo,hq,Value.cells,j,h]
section
variable {P:gF}{w:World}{ops:Array nh}{rest:List nh}{o:nh}{a:gh}{Q:mh->gh->World->Prop}
theorem OH {K:gh->World->Prop}(T:nS)(x:nO)(f:o.op=.load T x)(g:Nat){t:nS}{cs:Y7}(i:a.eval x=Y9 g){n:Nat}(c:yw P T n)(e:za w g t cs)(hn:cs.size=n)
  (h:K (a.put o.dst (Q0 cs)) w):o.wp P a w K Q:=by
 unfold mW nQ;simp only[f,i,Instr.loadAt,lX,gJ,ny,nc,Qo (hn▸c) e];exact h
theorem Tu {K:gh->World->Prop}(T:nS)(x y:nO)(f:o.op=.store T x y)(g:Nat){t:nS}{cs cs':Y7}(i:a.eval x=Y9 g)(j:a.eval y=Q0 cs'){n:Nat}(c:yw P T n)(e:za w g t cs)(hn:cs.size=n)
  (hs:cs'.size=cs.size) (h1:∀v∈cs'.toList,v.oneCell'=true) (h:K (a.put o.dst gQ) (w.setRow g cs')):o.wp P a w K Q:=by
 unfold mW nQ;simp only[f,i,j,Instr.storeAt,lX,gJ,ny,nc,Qy (hn▸c) e hs h1];exact h
theorem yO (i:o.guard=none)(T:nS)(x:nO)(j:o.op=.load T x)(g:Nat){t:nS}{cs:Y7}(k:a.eval x=Y9 g){n:Nat}(e:yw P T n)(f:za w g t cs)(hn:cs.size=n)
  (h:mX P ops Q rest (a.put o.dst (Q0 cs)) w):mX P ops Q (o::rest) a w :=
 fO i λ_ c=>OH T x j g k e f hn (c _ _ h)
theorem zt (i:o.guard=none)(T:nS)(x y:nO)(j:o.op=.store T x y)(g:Nat){t:nS}{cs cs':Y7}(k:a.eval x=Y9 g)(q:a.eval y=Q0 cs'){n:Nat}(e:yw P T n)(f:za w g t cs)(hn:cs.size=n)
  (hs:cs'.size=cs.size) (h1:∀v∈cs'.toList,v.oneCell'=true) (h:mX P ops Q rest (a.put o.dst gQ) (w.setRow g cs')):mX P ops Q (o::rest) a w :=
 fO i λ_ c=>Tu T x y j g k q e f hn hs h1 (c _ _ h)
theorem vC {T:nS}{x y:nO}{g:Nat}{t:nS}{cs cs':Y7}{n:Nat}(c:yw P T n)(e:za w g t cs)(hs:cs'.size=cs.size)(h1:∀v∈cs'.toList,v.oneCell'=true)(h:mX P ops Q rest (a.put o.dst gQ) (w.setRow g cs'))(f:o.guard=none:=by rfl)(i:o.op=.store T x y:=by rfl)(j:a.eval x=Y9 g:=by rfl)(k:a.eval y=Q0 cs':=by rfl)(hn:cs.size=n:=by rfl):mX P ops Q (o::rest) a w :=
 zt f T x y i g j k c e hn hs h1 h
theorem yp {T:nS}{x:nO}{g:Nat}{t:nS}{cs:Y7}{n:Nat}(c:yw P T n)(e:za w g t cs)(h:mX P ops Q rest (a.put o.dst (Q0 cs)) w)(f:o.guard=none:=by rfl)(i:o.op=.load T x:=by rfl)(j:a.eval x=Y9 g:=by rfl)(hn:cs.size=n:=by rfl):mX P ops Q (o::rest) a w :=
 yO f T x i g j c e hn h
end
theorem yL {fn:Func}{P:gF}{a:gh}{w:World}{g:Nat}{T t:nS}{cs:Y7}(k:eQ)(h:fn.results=#[.cell k T])(i:a.eval (.tmp k)=Y9 g){n:Nat}(c:yw P T n)(f:za w g t cs)(hn:cs.size=n):(lh fn a.tmps).run P w=.ok (Q0 cs) w:=by
 have e:a.tmps.getD k gQ=Y9 g:=i;unfold lh;simp only[h];simp[-zX,e,asAddr,Qo (hn▸c) f]
theorem vq {fn:Func}{P:gF}{a:gh}{w:World}{g:Nat}{T t:nS}{cs:Y7}{v:Value}(k m:eQ)(h:fn.results=#[.cell k T,.tmp m])(j:a.eval (.tmp k)=Y9 g)(q:a.eval (.tmp m)=v){n:Nat}(f:yw P T n)(i:za w g t cs)(hn:cs.size=n):(lh fn a.tmps).run P w=.ok (Q2 #[Q0 cs,v]) w:=by
 have e:a.tmps.getD k gQ=Y9 g:=j;have c:a.tmps.getD m gQ=v:=q;unfold lh;simp only[h];simp[-zX,e,c,asAddr,Qo (hn▸f) i,nM]
theorem Zt (l:Y4):∀v∈(l.map b8).toArray.toList,v.oneCell'=true:=by
 intro v c;simp at c;obtain⟨x,_,rfl⟩:=c;rfl
theorem jn:yw Y3 317 64:=⟨⟨_,underlying317,rfl⟩,by kernel_rfl⟩
theorem yv:yw Y3 173 4:=⟨⟨_,underlying173,rfl⟩,by kernel_rfl⟩
structure yl (w:World)(B sz:Nat)(A:Y5)(n c:Nat)(cs:Y8):Prop where
 le:n<=c
 max:c<=9223372036854775807
 nil:A=none->c=0
 len:cs.length=n*sz
 one:∀v∈cs,v.oneCell'=true
 pO:0<n->∃g o,A=some ⟨g,o,K3⟩/\g<B/\w.rangeAt g o cs
theorem yl.pR {w w':World}{B sz:Nat}{A:Y5}{n c:Nat}{cs:Y8}(h:yl w B sz A n c cs)(k:∀p:nN,p.block<B->w'.cell? p=w.cell? p):yl w' B sz A n c cs :=
 ⟨h.le,h.max,h.nil,h.len,h.one,λhl=>by
  obtain⟨g,o,f,e,hc⟩:=h.pO hl
  exact⟨g,o,f,e,λj v i=>(k _ e).trans (hc j v i)⟩⟩
theorem yl.below {w w':World}{B sz:Nat}{A:Y5}{n c:Nat}{cs:Y8}(h:yl w B sz A n c cs)(e:nH B w w'):yl w' B sz A n c cs:=h.pR λ_ f=>e.cell f
theorem yl.more {w:World}{B e sz:Nat}{A:Y5}{n c:Nat}{cs:Y8}(h:yl w B sz A n c cs)(hB:B<=e):yl w e sz A n c cs :=
 ⟨h.le,h.max,h.nil,h.len,h.one,λhl=>by
  obtain⟨g,o,f,i,hc⟩:=h.pO hl
  exact⟨g,o,f,by omega,hc⟩⟩
theorem yl.grow {w w':World}{sz:Nat}{A:Y5}{n c:Nat}{cs:Y8}(h:yl w w.heap.size sz A n c cs)(e:nH w.heap.size w w'):yl w' w'.heap.size sz A n c cs:=(h.below e).more e.size
theorem yl.mt (w:World)(B sz:Nat):yl w B sz none 0 0 []:=⟨zG _,by omega,λ_=>rfl,by simp,(λv h=>by cases h),λh=>by omega⟩
theorem yl.take {w:World}{B sz:Nat}{A:Y5}{n c:Nat}{cs:Y8}(h:yl w B sz A n c cs)(k c':Nat)(s:k<=n)(hc:k<=c')(i:c'<=c):yl w B sz A k c' (cs.take (k*sz)) :=
 ⟨hc,zT i h.max,λe=>by have:=h.nil e;omega,by rw[qB,h.len];exact fj (mr _ s),λv x=>h.one v (List.mem_of_mem_take x),λz=>by
  obtain⟨g,o,e,q,u⟩:=h.pO K5;refine⟨g,o,e,q,λj v f=>u j v ?_⟩;rw[yI] at f;split at f
  .exact f
  .cases f⟩
theorem yl.elem {w:World}{B sz g o:Nat}{n c:Nat}{cs:Y8}(h:yl w B sz (K4 ⟨g,o,K3⟩) n c cs)(j:Nat)(s:j<n):w.rangeAt g (o+j*sz) ((cs.drop (j*sz)).take sz):=by
 obtain⟨k,o',e,q,f⟩:=h.pO K5;injection e with e
 injection e with e1 e2
 subst e1 e2;intro i v hi;rw[yI] at hi;split at hi
 .rw[mD] at hi;rw[mg];exact f _ v hi
 .cases hi
theorem qq {w:World}{base:Nat}{T:nS}{sz:Nat}{v:Value}{n:Nat}{cs:Y8}(h:w.ownsRow base T sz v n cs)(h1:∀v∈cs,v.oneCell'=true):∃A c,v=X1 A n c/\yl w w.heap.size sz A n c cs:=by
 rcases h.2 with⟨e1,e2⟩|⟨g,cap,cur,hv,hb,hg,hle,hm,hs,ht⟩
 .subst e2;exact⟨none,0,e1,zG _,by omega,λ_=>rfl,h.1,h1,λh=>by omega⟩
 .refine⟨_,cap,hv,hle,by unfold gP at hm;omega,(λe=>by cases e),h.1,h1,λ_=>⟨g,0,rfl,(zI.1 hg).1,λj u f => ?_⟩⟩;rw[qA,cell_of_row w g j cur _ (0,0) hg];rw[<-ht,yI] at f;split at f
  .simpa using f
  .cases f
theorem zj {w:World}{base:Nat}{T:nS}{sz:Nat}{v:Value}{n:Nat}{cs:Y8}(h:w.ownsRow base T sz v n cs):∀r,v.ownBlock=some r->base<=r:=by
 intro r c;rcases h.2 with⟨rfl,_⟩|⟨g,cap,cur,rfl,hb,_⟩
 .cases c
 .injection c with c
  subst c;exact hb
theorem kM {w:World}{base:Nat}{T:nS}{sz:Nat}{v:Value}{n:Nat}{cs:Y8}(h:w.ownsRow base T sz v n cs):∀r,v.ownBlock=some r->r<w.heap.size:=by
 intro r c;rcases h.2 with⟨rfl,_⟩|⟨g,cap,cur,rfl,hb,hg,_⟩
 .cases c
 .injection c with c
  subst c;exact(zI.1 hg).1
theorem qp {w w':World}{base:Nat}{T:nS}{sz:Nat}{v:Value}{n:Nat}{cs:Y8}(h:w.ownsRow base T sz v n cs)(hB:∀r,v.ownBlock=some r->w'.heap[r]?=w.heap[r]?):w'.ownsRow base T sz v n cs:=by
 refine⟨h.1,?_⟩;rcases h.2 with h|⟨g,c,cur,h1,h2,e,f⟩
 .exact .inl h
 .exact .inr ⟨g,c,cur,h1,h2,(hB g (by rw[h1];rfl)).trans e,f⟩
theorem qn {w w':World}{base:Nat}{T:nS}{sz:Nat}{v:Value}{n:Nat}{cs:Y8}(h:w.ownsRow base T sz v n cs)(hB:nH w.heap.size w w'):w'.ownsRow base T sz v n cs :=
 qp h λr c=>hB.block r (kM h r c)
theorem yR {w:World}{b c:Nat}{T:nS}{sz:Nat}{v:Value}{n:Nat}{cs:Y8}(h:w.ownsRow b T sz v n cs)(i:c<=b):w.ownsRow c T sz v n cs:=by
 refine⟨h.1,?_⟩;rcases h.2 with h|⟨g,e,cur,h1,h2,f⟩
 .exact .inl h
 .exact .inr ⟨g,e,cur,h1,by omega,f⟩
structure ZQ (S T:nS)(sz by_:Nat)(z:Value):Prop where
 oB:Y3.underlying S=some (.slice T)
 inf:(Y3.info? T).map (λi=>(i.zero,i.size,i.bytes))=some (some z,sz,by_)
 zs:z.cells.size=sz
 pos:0<sz
section
variable {w:World}{ops:Array nh}{rest:List nh}{o:nh}{a:gh}{Q:mh->gh->World->Prop}
theorem xg (I:o.guard=none){S T:nS}{sz C:Nat}{z:Value}(i:ZQ S T sz C z)(s x:nO)(M:o.op=.call {callee:=.builtin .append,args:=#[s,x],argTypes:=#[S,S]})
  (base:Nat) (v:Value) (n:Nat) (cs:Y8) (hs:a.eval s=v) (G:w.ownsRow base T sz v n cs) (B:Nat) (A:Y5) (m c:Nat) (f:Y8) (N:a.eval x=X1 A m c) (e:yl w B sz A m c f)
  (hm:n+m<=gP) (X:(n+m)*C<=140737488355328) (V:base<=w.heap.size)
  (h:∀k w',w'.ownsRow base T sz k (n+m) (cs++f)->w.grownBy w' v.ownBlock->mX Y3 ops Q rest (a.put o.dst k) w'):mX Y3 ops Q (o::rest) a w:=by
 obtain⟨O,hi,aE,aF,aG⟩:=mj i.inf;have aH:=e.le;rcases A with _|q
 .have Z:=e.nil rfl;obtain rfl:m=0:=K5
  obtain rfl:f=[]:=qI (by rw[e.len];omega);subst Z;refine wpList_append_own_none (w:=w) I s x _ M base _ O sz i.oB hi v n cs hs G N ?_;exact h v w (by rw[qW];exact G) (fF _ _)
 .have aC:∀j u,f[j]?=some u->w.cell? (q.add j)=some u:=by
   intro j u hu;have aB:0<m:=by
    rcases mf m with F|F
    .subst F;have:=e.len;obtain rfl:f=[]:=qI K5;simp at hu
    .exact F
   obtain⟨g,o',U,_,hr⟩:=e.pO aB;obtain rfl:q=⟨g,o',none⟩:=by simpa using U
   rw[Addr.add_mid];exact hr j u hu
  refine fN w I s x _ M base _ O z sz C i.oB hi aE aF aG i.zs i.pos v n cs hs G q m c f N e.len aC e.one hm X V ?_;intro k w' aD aA _;exact h k w' aD aA
theorem yQ {P:gF}{ρ:nO->Value}{T:nS}{k g off:Nat}{cs:Y8}{x:nO}(c:yw P T k)(h:w.rangeAt g off cs)(e:cs.length=k)(f:o.op=.load T x)(i:ρ x=Y9 (K4 ⟨g,off,K3⟩)):(nQ ρ o).run P w=.ok (.value (Q0 cs.toArray)) w:=by
 obtain⟨d,hu,hd⟩:=c.desc;have:=run_loadVar_mid (P:=P) w g off T cs d h hu hd (by rw[c.size,e]);simp only[nQ,f,i,Instr.loadAt,lX,gJ,ny,nc,this]
end
theorem za.dH {w:World}{g:Nat}{t:nS}{cs:Y7}(h:za w g t cs)(k:Nat){n:Nat}:w.rangeAt g k ((cs.toList.drop k).take n):=λj v c=>by
 rw[yI] at c;split at c
 .rw[mD] at c;rw[h.cell];simpa using c
 .cases c
theorem Gt {w:World}(ty:nS){S T:nS}{sz s:Nat}{z:Value}(h:ZQ S T sz s z)(base:Nat)(v:Value)(n:Nat)(cs:Y8)(C:w.ownsRow base T sz v n cs)(B:Nat)(A:Y5)(m c:Nat)(f:Y8)(e:yl w B sz A m c f)
  (U:n+m<=gP) (N:(n+m)*s<=140737488355328) (M:base<=w.heap.size) :
  ∃k w',(Builtin.append_ #[S,S] ty #[v,X1 A m c]).run Y3 w=.ok k w'/\w'.ownsRow base T sz k (n+m) (cs++f)/\w.grownBy w' v.ownBlock:=by
 obtain⟨F,hi,Z,aA,aB⟩:=mj h.inf;have aC:=e.le;rcases A with _|q
 .have O:=e.nil rfl;obtain rfl:m=0:=K5
  obtain rfl:f=[]:=qI (by rw[e.len];omega);subst O;have i:=run_append_owned_none (P:=Y3) w base S ty T F sz h.oB hi v n cs C;exact⟨v,w,i,by rw[qW];exact C,fF _ _⟩
 .have X:∀j u,f[j]?=some u->w.cell? (q.add j)=some u:=by
   intro j u hu;have V:0<m:=by
    rcases mf m with x|x
    .subst x;have:=e.len;obtain rfl:f=[]:=qI K5;simp at hu
    .exact x
   obtain⟨g,o',I,_,i⟩:=e.pO V;obtain rfl:q=⟨g,o',none⟩:=by simpa using I
   rw[Addr.add_mid];exact i j u hu
  obtain⟨k,w',i,h2,G,_,_⟩:=run_append_own_at (P:=Y3) w base S ty T F z sz s h.oB hi Z aA aB h.zs h.pos v n cs C q m c f e.len X e.one U N M;exact⟨k,w',i,h2,G⟩
section
variable {w:World}{ops:Array nh}{o:nh}{a:gh}{Q:mh->gh->World->Prop}{K:gh->World->Prop}{E:Prop}
theorem VT (C:o.guard=none){S T:nS}{sz i:Nat}{z:Value}(k:ZQ S T sz i z)(s x:nO)(I:o.op=.call {callee:=.builtin .append,args:=#[s,x],argTypes:=#[S,S]})
  (base:Nat) (v:Value) (n:Nat) (cs:Y8) (hs:a.eval s=v) (M:w.ownsRow base T sz v n cs) (B:Nat) (A:Y5) (m c:Nat) (f:Y8) (U:a.eval x=X1 A m c) (F:yl w B sz A m c f)
  (G:n+m<=gP) (u:(n+m)*i<=140737488355328) (q:base<=w.heap.size)
  (h:∀e w',w'.ownsRow base T sz e (n+m) (cs++f)->w.grownBy w' v.ownBlock->K (a.put o.dst e) w'):if gS o (fy ops a.tmps)=true then mW Y3 o a w K Q else E:=by
 have O:gS o (fy ops a.tmps)=true:=by simp[gS,C]
 rw[if_pos O];obtain⟨e,w',N,h2,j⟩:=Gt (w:=w) o.type k base v n cs M B A m c f F G u q;unfold mW nQ;simp only[I,resolve,invoke,builtin,gJ,ny,nc,zJ,zL,zN,hs,U,N];exact h e w' h2 j
end
def qa (w:World)(r:Nat)(es:Array nZ)(clock:Nat):Prop:=w.heap[r]?=some (.map es clock)
theorem qa.lt {w:World}{r:Nat}{es:Array nZ}{clock:Nat}(h:qa w r es clock):r<w.heap.size:=(zI.1 h).1
theorem qa.below {w w':World}{B r:Nat}{es:Array nZ}{clock:Nat}(h:qa w r es clock)(hB:nH B w w')(c:r<B):qa w' r es clock:=(hB.block r c).trans h
theorem qa.grown {w w':World}{r:Nat}{es:Array nZ}{clock:Nat}{row:Option Nat}(h:qa w r es clock)(c:w.grownBy w' row)(e:some r≠row):qa w' r es clock:=(c.block r h.lt e).trans h
def setMap (w:World)(r:Nat)(es:Array nZ)(clock:Nat):World:={w with heap:=w.heap.setIfInBounds r (.map es clock)}
theorem qa.set {w:World}{r:Nat}{es:Array nZ}{clock:Nat}(h:qa w r es clock)(es':Array nZ)(clock':Nat):qa (setMap w r es' clock') r es' clock':=(MapKept.heap_set (o':=.map es' clock') h).1
theorem vP {w:World}{r:Nat}{es:Array nZ}{clock:Nat}(h:qa w r es clock)(es':Array nZ)(c:Nat):w.grownBy (setMap w r es' c) (some r) :=
 ⟨rfl,rfl,rfl,by simp[setMap],λk _ f=>(MapKept.heap_set (o':=.map es' c) h).2 k (λe=>f (by rw[e]))⟩
theorem za.dD {w:World}{g q:Nat}{t:nS}{cs:Y7}{i:Array nZ}{f:Nat}(h:za w g t cs)(k:qa w q i f)(es':Array nZ)(c:Nat):za (setMap w q es' c) g t cs:=by
 have s:g≠q:=by intro e;subst e;have j:w.heap[g]?=some (Q9 cs t (0,0)):=h;rw[show w.heap[g]?=some (.map i f) from k] at j;cases j
 exact((MapKept.heap_set (o':=.map es' c) k).2 g s).trans h
section
variable {P:gF}{w:World}{mty kt et:nS}{d:TypeDesc}{r clock:Nat}{es:Array nZ}{key val:Value}
theorem TD (f:P.underlying mty=some (.map kt et))(hd:P.underlying kt=some d)(e:gz d key)(c:qa w r es clock)(hf:lT d key es.toList 0=some none):(lj mty (Q1 (some r)) key val).run P w=.ok () (setMap w r (es.push {key:=key,val:=val,born:=clock}) (clock+1)):=by
 have hc:(lW false 10000 kt key).run P w=.ok () w:=mY hd e false 9999;simp[lj,gK f,gL c,hc,ga hd hf,MapKept.run_setObj_map _ c,nM,setMap]
theorem Rq (f:P.underlying mty=some (.map kt et))(hd:P.underlying kt=some d)(e:gz d key)(c:qa w r es clock){i:Nat}{v:Value}(hf:lT d key es.toList 0=some (some (i,v))):(lU mty (Q1 (some r)) key false).run P w=.ok v w:=by
 have hc:(lW es.isEmpty 10000 kt key).run P w=.ok () w:=mY hd e _ 9999;simp[lU,gK f,gL c,hc,ga hd hf,nM]
end
section
variable {P:gF}{w:World}{ops:Array nh}{rest:List nh}{o:nh}{a:gh}{Q:mh->gh->World->Prop}{mty kt et:nS}{d:TypeDesc}{r clock:Nat}{es:Array nZ}{key val:Value}
theorem Qv (e:o.guard=none)(f:o.op=.makeMap mty none)(h:qa (w.alloc (.map #[] 0)) w.heap.size #[] 0->mX P ops Q rest (a.put o.dst (Q1 (some w.heap.size))) (w.alloc (.map #[] 0))):mX P ops Q (o::rest) a w :=
 fO e λ_ c=>by unfold mW nQ;simp only[f,Option.map_none,run_makeMap,gJ,nc,ny];exact c _ _ (h (lD w _))
theorem Xe (q:o.guard=none)(m x y:nO)(c:o.op=.insert mty m x y\/o.op=.mapUpdate mty m x y)(u:P.underlying mty=some (.map kt et))(hd:P.underlying kt=some d)(s:gz d key)(f:a.eval m=Q1 (some r))(i:a.eval x=key)(j:a.eval y=val)
  (e:qa w r es clock) (hf:lT d key es.toList 0=some none)
  (h:∀w',qa w' r (es.push {key:=key,val:=val,born:=clock}) (clock+1)->w.grownBy w' (some r)->mX P ops Q rest (a.put o.dst gQ) w'):mX P ops Q (o::rest) a w :=
 fO q λ_ k=>by unfold mW nQ;rcases c with c|c<;>simp only[c,f,i,j,TD u hd s e hf,gJ,nc,ny]<;>exact k _ _ (h _ (e.set _ _) (vP e _ _))
theorem za.pk {w w':World}{g r:Nat}{t:nS}{cs:Y7}{es:Array nZ}{clock:Nat}(h:za w g t cs)(i:qa w r es clock)(f:w.grownBy w' (some r)):za w' g t cs:=by
 refine h.grown f (λe => ?_);injection e with e
 subst e;have c:w.heap[g]?=some (Q9 cs t (0,0)):=h;rw[show w.heap[g]?=some (.map es clock) from i] at c;cases c
end
def uJ (l:Y4):Value :=
 match rd l with
 | some (n,k) => Q2 #[Y1 Q6 (n:Int),Y1 Q4 (k:Int),Y1 Q4 0]
 | none => Q2 #[Y1 Q6 0,Y1 Q4 0,Y1 Q4 130]
theorem Gv {l:Y4}{n k:Nat}(h:rd l=some (n,k)):uJ l=Q2 #[Y1 Q6 (n:Int),Y1 Q4 (k:Int),Y1 Q4 0]:=by unfold uJ;rw[h]
theorem Kd {l:Y4}(h:rd l=none):uJ l=Q2 #[Y1 Q6 0,Y1 Q4 0,Y1 Q4 130]:=by unfold uJ;rw[h]
def De (l:Y4)(acc k:Nat):Prop:=Co (10-k) k acc (l.drop k)=rd l/\acc<128^k/\k<=10
theorem De.start (l:Y4):De l 0 0:=⟨rfl,by simp,by omega⟩
theorem De.unfold {l:Y4}{c k:Nat}(h:De l c k)(e:k<l.length)(f:k<10):rd l=if k=9/\1<l[k].toNat then none else if 128<=l[k].toNat then Co (10-(k+1)) (k+1) (c+l[k].toNat%128*128^k) (l.drop (k+1))
   else if l[k].toNat=0/\0<k then none else some (c+l[k].toNat%128*128^k,k+1):=by
 rw[<-h.1,qS e,show 10-k=(10-(k+1))+1 from by omega];rfl
theorem De.out {l:Y4}{e k:Nat}(h:De l e k)(c:l.length<=k\/10<=k):rd l=none:=by
 rw[<-h.1];rcases c with c|c
 .rw[List.drop_eq_nil_of_le c];cases 10-k<;>rfl
 .rw[show 10-k=0 from by omega];rfl
theorem De.next {l:Y4}{c k:Nat}(h:De l c k)(e:k<l.length)(f:k<9)(hc:128<=l[k].toNat):De l (c+l[k].toNat%128*128^k) (k+1):=by
 refine⟨?_,?_,by omega⟩
 .rw[h.unfold e K5,if_neg K5,if_pos hc]
 .have h1:l[k].toNat%128<=127:=K5
  have h2:l[k].toNat%128*128^k<=127*128^k:=mr _ h1;have:=h.2.1;omega
theorem tK {e c k:Nat}(hc:c<256)(B:k<10)(x:k=9->c<=1)(ha:e<128^k):bits .or .u64 (e:Int) (IntKind.u64.wrap (IntKind.u64.wrap (bits .andNot .u8 (c:Int) 128)*2^(7*k)))=((e+c%128*128^k:Nat):Int):=by
 have h:bits .andNot .u8 (c:Int) 128=((c%128:Nat):Int):=by have:=u8_andNot_nat c 128 hc K5;have h2:(((128:Nat)):Int)=128:=rfl;rw[h2] at this;rw[this,show 255-128=2^7-1 from rfl,Nat.and_two_pow_sub_one_eq_mod]
 have f:(128:Nat)^k=2^(7*k):=by rw[Nat.pow_mul]
 have A:128^k<=128^9:=lG K5 K5;have z:c%128*128^k<18446744073709551616:=by
  by_cases s:k=9
  .have:c%128*128^k<=1*128^9:=by subst s;exact mr _ (by have:=x rfl;omega)
   simp at this;omega
  .have u:128^k<=128^8:=lG K5 K5;have:c%128*128^k<=127*128^8:=Nat.mul_le_mul K5 u;simp at this;omega
 have i:IntKind.u64.wrap ((c%128:Nat):Int)=((c%128:Nat):Int):=by rw[IntKind.wrap_u64];omega
 have j:(((c%128:Nat):Int))*2^(7*k)=((c%128*128^k:Nat):Int):=by rw[f];push_cast;rfl
 have q:IntKind.u64.wrap ((c%128*128^k:Nat):Int)=((c%128*128^k:Nat):Int):=by rw[IntKind.wrap_u64];omega
 rw[h,i,j,q,u64_or_nat _ _ (by simp at A;omega) z];congr 1;rw[Nat.or_comm,nat_join (7*k) _ _ (by rw[f];exact Nat.mul_mod_left _ _) (by rw[<-f];exact ha)];omega
def rU (l:Y4)(a:gh):Prop:=rd l=none/\∃u0 u1 u2 u3 u4 u5 u6 u7 u8 u9 u10 u11 u12 u13 u14 u15 u16 u17 u18 u19 u20 u21 u22 u23 u24 u25 u26 u27 u28 u29 u30 u31 u32 u33 u34 u35 u36 u37 u38 u39 u40 u41 u42 u43:Value,a={tmps:=#[u0,u1,u2,u3,u4,u5,u6,u7,u8,u9,u10,u11,u12,u13,u14,u15,u16,u17,u18,u19,u20,u21,u22,u23,u24,u25,u26,u27,u28,u29,u30,u31,u32,u33,u34,u35,u36,u37,u38,u39,u40,u41,u42,u43],defers:=[]}
theorem Ur (w:World)(g o c:Nat)(l:Y4)(hl:0<l.length)(hc:l.length<=c)(hm:c<=9223372036854775807)(G:∀j (h:j<l.length),w.cell? ⟨g,o+j,K3⟩=K4 (Y1 Q5 (l[j].toNat:Int))):nK Y3 313 #[X1 (K4 ⟨g,o,K3⟩) l.length c] w λe w'=>e=Y0 (uJ l)/\w=w':=by
 go_enter func313,ntmps313
 go_wp2_with fail
 refine wp_scope_jumps (rest:=?rest) 0 (λa w'=>rU l a/\w=w') (λ_ _=>0) ?hf ?first ?pass
 case hf=>exact rfl
 case pass =>
  rintro a w' ⟨⟨hn,u0,u1,u2,u3,u4,u5,u6,u7,u8,u9,u10,u11,u12,u13,u14,u15,u16,u17,u18,u19,u20,u21,u22,u23,u24,u25,u26,u27,u28,u29,u30,u31,u32,u33,u34,u35,u36,u37,u38,u39,u40,u41,u42,aF,rfl⟩,rfl⟩;have O:=nI (Kd hn);clear hn;go_wp2;simp only[fp];go_wp2
  go_ret3
  exact⟨by rw[O.out];rfl,rfl⟩
 case first =>
  go_wp2_with fail
  all_goals
   go_loop [2,13] (λa i=>∃(z k:Nat),i=Y1 Q4 k/\k<=l.length/\k<=10/\a=Y1 Q6 z/\Hid (De l z k)) (λ_ i=>l.length-(intOf i).toNat)
   case atStart=>exact⟨0,0,rfl,by omega,by omega,rfl,nI (De.start l)⟩
   case round =>
    obtain⟨z,k,rfl,hk,aE,rfl,f⟩:=hrel
    by_cases T:k<l.length/\k<10
    .obtain⟨h1,h2⟩:=T;have aD:=G k h1;clear G;have N:=(l[k]).toNat_lt;have hu:=nI (f.out.unfold h1 h2)
     by_cases q:k=9/\1<l[k].toNat
     .have hn:Hid (rd l=none):=by have:=hu.out;rw[if_pos q] at this;exact nI this
      clear hu f;obtain⟨s,q⟩:=q;subst s
      go_wp2_with fail
      go_step3
      exact⟨rfl,⟨hn.out,by repeat (first|exact rfl|apply lS)⟩,rfl⟩
     .by_cases hB:128<=l[k].toNat
      .have U:=nI (f.out.next h1 K5 hB);have V:=tK N h2 K5 f.out.2.1;clear hu f;have s:¬ (k:Int)=9:=K5
       clear q
       go_wp2_with fail
       refine⟨⟨_,k+1,by go_num,by omega,by omega,rfl,U⟩,by simp[intOf];omega⟩
      .by_cases A:l[k].toNat=0/\0<k
       .have hn:Hid (rd l=none):=by have:=hu.out;rw[if_neg q,if_neg hB,if_pos A] at this;exact nI this
        clear hu f;obtain⟨B,S⟩:=A;have s:(k:Int)<9\/(k:Int)=9:=K5
        clear q;rcases s with s|s
        .go_wp2_with fail
         go_step3
         exact⟨rfl,⟨hn.out,by repeat (first|exact rfl|apply lS)⟩,rfl⟩
        .obtain rfl:k=9:=K5
         go_wp2_with fail
         go_step3
         exact⟨rfl,⟨hn.out,by repeat (first|exact rfl|apply lS)⟩,rfl⟩
       .have hn:Hid (rd l=some (z+l[k].toNat%128*128^k,k+1)):=by have:=hu.out;rw[if_neg q,if_neg hB,if_neg A] at this;exact nI this
        have V:=tK N h2 K5 f.out.2.1;have C:k=9->l[k].toNat<=1:=K5
        clear hu f;have I:=nI (Gv hn.out);clear hn;have M:∀x:Value,x=uJ l->eJ x=eJ (uJ l):=λx X=>by rw[X]
        have F:=nI M;have u:l[k].toNat<1->k<=0:=K5
        clear M q A
        by_cases s:k<9
        .clear C
         by_cases B:l[k].toNat<1
         .have S:k<=0:=u B;have Z:((l[k].toNat:Int)==0)=true:=by rw[beq_iff_eq];omega
          clear u B
          go_wp2_with fail
          all_goals
           simp only[fp];go_wp2
           go_ret3
           exact⟨F.out _ (by rw[I.out];rfl),rfl⟩
         .clear u
          go_wp2_with fail
          all_goals
           simp only[fp];go_wp2
           go_ret3
           exact⟨F.out _ (by rw[I.out];rfl),rfl⟩
        .have aB:l[k].toNat<=1:=C K5;have aC:1<=l[k].toNat:=by
          rcases mw l[k].toNat 1 with h|h
          .have:=u h;omega
          .exact h
         have aA:((k:Int)==9)=true:=by rw[beq_iff_eq];omega
         clear u C
         go_wp2_with fail
         all_goals
          simp only[fp];go_wp2
          go_ret3
          exact⟨F.out _ (by rw[I.out];rfl),rfl⟩
    .have hn:=nI (Kd (f.out.out K5));clear G f
     go_wp2_with fail
     go_step3
     go_wp2_with fail
     simp only[fp];go_wp2
     go_ret3
     exact⟨by rw[hn.out];rfl,rfl⟩
theorem VY (w:World)(A:Y5)(c:Nat):nK Y3 313 #[X1 A 0 c] w λe w'=>e=Y0 (uJ [])/\w=w':=by
 go_enter func313,ntmps313
 go_wp2_with fail
 refine wp_scope_straight ?_
 go_wp2_with fail
 refine wp_loop_rounds 1 ?_;rw[rounds_succ]
 go_wp2_with fail
 go_step3
 go_wp2_with fail
 rw[Exit.noGoto_ret];go_wp2
 go_ret3
 exact⟨rfl,rfl⟩
theorem XO (w:World)(B:Nat)(A:Y5)(c:Nat)(l:Y4)(h:qv w B A c l):nK Y3 313 #[X1 A l.length c] w λe w'=>e=Y0 (uJ l)/\w=w':=by
 rcases mf l.length with f|f
 .obtain rfl:=qI f;exact VY w A c
 .obtain⟨g,o,rfl,_,hc⟩:=h.pO f;exact Ur w g o c l f h.le h.max hc

theorem JJ (w:World)(g o:Nat)(A:Y5)(len c n:Nat)(f:len<=9223372036854775807)(hc:w.cell? ⟨g,o,K3⟩=some (X1 A len c)):nK Y3 263 #[Y9 (K4 ⟨g,o,K3⟩),Y1 Q6 n] w λe w'=>e=Y0 (X3 (decide (n<=len)))/\w=w':=by
 go_enter func263,ntmps263
 go_wp2;go_ret;exact⟨rfl,rfl⟩
theorem Gh (w:World)(g o:Nat)(A:Y5)(len c n:Nat)(i:len<=c)(h:c<=9223372036854775807)(hn:n<=len)(hc:w.cell? ⟨g,o,K3⟩=some (X1 A len c))(hf:w.frozen? ⟨g,o,K3⟩=false):nK Y3 264 #[Y9 (K4 ⟨g,o,K3⟩),Y1 Q4 n] w λe w'=>e=Y0 (X1 A n n)/\w.setCell ⟨g,o,K3⟩ (.slice (ku A c n) (len-n) (c-n))=w':=by
 by_cases f:c=n
 .obtain rfl:len=c:=K5
  subst f
  go_enter func264,ntmps264
  go_wp2;go_ret;refine⟨rfl,?_⟩;simp[ku]
 .go_enter func264,ntmps264
  go_wp2;go_ret;refine⟨rfl,?_⟩;simp[ku,f]
theorem Iw (l:Y4)(c:UInt8):xH (l++[c])=256*xH l+c.toNat:=by simp[xH]
theorem ZV {l:Y4}{k:Nat}(c:k<l.length):xH (l.take (k+1))=256*xH (l.take k)+l[k].toNat:=by
 rw[zU c,Iw]
theorem Rt {l:Y4}{k m:Nat}(c:k<=m)(e:m<=8):xH (l.take k)<18446744073709551616:=by
 have h1:=GG (l.take k);have h2:256^(l.take k).length<=256^8:=lG K5 (by simp;omega);omega
theorem BZ {l:Y4}{k m:Nat}(c:k<m)(e:m<=8):IntKind.u64.wrap (256*(xH (l.take k):Int))=256*(xH (l.take k):Int):=by
 have h1:=GG (l.take k);have h2:256^(l.take k).length<=256^7:=lG K5 (by simp;omega);rw[IntKind.wrap_u64];omega
theorem uH {l:Y4}{k m:Nat}(hl:k<l.length)(c:k<m)(e:m<=8):bits .or .u64 (IntKind.u64.wrap ((xH (l.take k):Int)*256)) (l[k].toNat:Int)=(xH (l.take (k+1)):Int):=by
 have f:=BZ (l:=l) c e;rw[Int.mul_comm,f];have hc:=l[k].toNat_lt;have h1:=Rt (l:=l) (show k+1<=m from c) e;rw[ZV hl] at h1;have h2:=u64_or_nat (256*xH (l.take k)) l[k].toNat K5 K5;rw[show 256*(xH (l.take k):Int)=((256*xH (l.take k):Nat):Int) from by omega,h2,ZV hl];congr 1;exact nat_join 8 _ _ K5 K5
def Ot (m:Nat)(l:Y4):Value:=if l.length<m then Q2 #[Y1 Q6 0,Y1 Q4 130] else Q2 #[Y1 Q6 (xH (l.take m):Int),Y1 Q4 0]
theorem JV (w:World)(g B:Nat)(A:Y5)(c:Nat)(l:Y4)(m:Nat)(x:m<=8)(hB:B<=g)(h:qv w B A c l)(hc:w.cell? g=some (X1 A l.length c))(hf:w.frozen? g=false):nK Y3 198 #[Y9 g,Y1 Q4 m] w λe w'=>e=Y0 (Ot m l)/\nH g w w':=by
 have M:=h.le;have N:=h.max;unfold Ot
 by_cases hs:l.length<m
 .rw[if_pos hs];have hd:decide (m<=l.length)=false:=by simp;omega
  go_enter func198,ntmps198
  go_wp2_with (first|(go_at_call 263;refine(JJ _ g 0 A l.length c m K5 hc).mono ?_;rintro e w' ⟨rfl,rfl⟩))
  go_ret2
  exact⟨rfl,nF _ _⟩
 .rw[if_neg hs];have hd:decide (m<=l.length)=true:=by simp;omega
  have q:qv (w.setCell g (.slice (ku A c m) (l.length-m) (c-m))) B A c l:=h.pR λp z=>World.cell?_setCell_other w _ p _ (λe=>by subst e;simp at z;omega)
  go_enter func198,ntmps198
  go_wp2_with (first|(go_at_call 263;refine(JJ _ g 0 A l.length c m K5 hc).mono ?_;rintro e w' ⟨rfl,rfl⟩)|(go_at_call 264;refine(Gh _ g 0 A l.length c m K5 K5 K5 hc hf).mono ?_;rintro e w' ⟨rfl,rfl⟩))
  clear hc;have j:nH g w (w.setCell g (.slice (ku A c m) (l.length-m) (c-m))):=(nF g w).setCell (p:=⟨g,0,K3⟩) (zG g) _;generalize w.setCell g (.slice (ku A c m) (l.length-m) (c-m))=W at *
  go_loop [4,21] (λs i=>∃k:Nat,k<=m/\i=Y1 Q4 k/\s=Y1 Q6 (xH (l.take k):Int)) (λ_ i=>m-(intOf i).toNat)
  case atStart=>exact⟨0,by omega,rfl,rfl⟩
  case round =>
   obtain⟨k,I,rfl,rfl⟩:=hrel
   by_cases u:k<m
   .have f:k<l.length:=K5
    obtain⟨C,o,rfl,_,hc⟩:=q.pO K5;have G:=hc k f;clear hc;have F:=(l[k]).toNat_lt;have h1:=uH f u x
    go_wp2_with fail
    refine⟨⟨k+1,by omega,by go_num,rfl⟩,by simp[intOf];omega⟩
   .obtain rfl:k=m:=K5
    go_wp2_with fail
    go_ret2
    exact⟨rfl,j⟩
def Vj (l:Y4):Value:=if l.length<4 then Q2 #[Y1 Q7 0,Y1 Q4 130] else Q2 #[Y1 Q7 (xH (l.take 4):Int),Y1 Q4 0]
theorem Er {m:Nat}{l:Y4}(h:l.length<m):Ot m l=Q2 #[Y1 Q6 0,Y1 Q4 130]:=by unfold Ot;rw[if_pos h]
theorem Fa {m:Nat}{l:Y4}(h:¬ l.length<m):Ot m l=Q2 #[Y1 Q6 (xH (l.take m):Int),Y1 Q4 0]:=by unfold Ot;rw[if_neg h]
theorem CL {l:Y4}(h:l.length<4):Vj l=Q2 #[Y1 Q7 0,Y1 Q4 130]:=by unfold Vj;rw[if_pos h]
theorem Vi {l:Y4}(h:¬ l.length<4):Vj l=Q2 #[Y1 Q7 (xH (l.take 4):Int),Y1 Q4 0]:=by unfold Vj;rw[if_neg h]
theorem Us (w:World)(A:Y5)(c:Nat)(l:Y4)(h:qv w w.heap.size A c l):nK Y3 225 #[X1 A l.length c] w λe w'=>e=Y0 (Ot 8 l)/\nH w.heap.size w w':=by
 have f:nH w.heap.size w (w.alloc (Obj.cells #[mN A l.length c] 279)):=(nF _ _).alloc (zG _) _;have H:=JV (w.alloc (Obj.cells #[mN A l.length c] 279)) w.heap.size w.heap.size A c l 8 K5 (zG _) (h.below f) (YD _ _ _) (Hl _ _ _ _)
 by_cases hs:l.length<8
 .rw[Er hs] at H ⊢
  go_enter func225,ntmps225
  go_wp2_with (go_at_call 198;refine H.mono ?_;rintro e w' ⟨rfl,i⟩)
  go_ret2
  exact⟨rfl,f.trans i⟩
 .rw[Fa hs] at H ⊢
  go_enter func225,ntmps225
  go_wp2_with (go_at_call 198;refine H.mono ?_;rintro e w' ⟨rfl,i⟩)
  go_ret2
  exact⟨rfl,f.trans i⟩
theorem YB (w:World)(A:Y5)(c:Nat)(l:Y4)(h:qv w w.heap.size A c l):nK Y3 120 #[X1 A l.length c] w λe w'=>e=Y0 (Vj l)/\nH w.heap.size w w':=by
 have f:nH w.heap.size w (w.alloc (Obj.cells #[mN A l.length c] 279)):=(nF _ _).alloc (zG _) _;have H:=JV (w.alloc (Obj.cells #[mN A l.length c] 279)) w.heap.size w.heap.size A c l 4 K5 (zG _) (h.below f) (YD _ _ _) (Hl _ _ _ _)
 by_cases hs:l.length<4
 .rw[Er hs] at H;rw[CL hs]
  go_enter func120,ntmps120
  go_wp2_with (go_at_call 198;refine H.mono ?_;rintro e w' ⟨rfl,i⟩)
  go_ret2
  exact⟨rfl,f.trans i⟩
 .rw[Fa hs] at H;rw[Vi hs];have j:xH (l.take 4)<4294967296:=by have h1:=GG (l.take 4);have h2:256^(l.take 4).length<=256^4:=lG K5 (by simp;omega);omega
  go_enter func120,ntmps120
  go_wp2_with (go_at_call 198;refine H.mono ?_;rintro e w' ⟨rfl,i⟩)
  go_ret2
  exact⟨rfl,f.trans i⟩
def Il (l:Y4):Y4:=jU l.length++l
theorem yY.below {w0 w w':World}{v:Value}{l:Y4}(h:yY w w0.heap.size v l)(c:nH w0.heap.size w0 w)(e:w.grownBy w' v.ownBlock):nH w0.heap.size w0 w' :=
 c.grown e c.size (λk f=>(fZ h k f).1)
theorem Rp (l:Y4)(hl:l.length<=1000000000)(w:World):nK Y3 269 #[.string (KQ l)] w (yV w (Il l)):=by
 have j:=ZS l;have hn:=xc l.length
 go_enter func269,ntmps269
 go_wp2_with fail
 refine(Kk l.length K5 _).mono ?_;rintro e k ⟨v,rfl,c,hB⟩
 go_wp2_with (at_builtin;refine uB rfl _ _ rfl w.heap.size v (jU l.length) rfl c (KQ l) rfl K5 hB.size ?_;intro i w' h f)
 go_ret;exact⟨i,rfl,h,c.below hB f⟩
def Lv (l:Y4):Option (Y4×Nat) :=
 match rd l with
 | some (n,k)=>if n<=l.length-k then some ((l.drop k).take n,k+n) else none
 | none=>none
def Gx (l:Y4):Value :=
 match Lv l with
 | some (s,k) => Q2 #[.string (KQ s),Y1 Q4 (k:Int),Y1 Q4 0]
 | none => Q2 #[.string (KQ []),Y1 Q4 0,Y1 Q4 130]
theorem tx {l:Y4}(h:rd l=none):Gx l=Q2 #[.string (KQ []),Y1 Q4 0,Y1 Q4 130]:=by unfold Gx Lv;rw[h]
theorem tw {l:Y4}{n k:Nat}(h:rd l=some (n,k))(hn:¬ n<=l.length-k):Gx l=Q2 #[.string (KQ []),Y1 Q4 0,Y1 Q4 130]:=by unfold Gx Lv;rw[h];simp only[if_neg hn]
theorem tv {l:Y4}{n k:Nat}(h:rd l=some (n,k))(hn:n<=l.length-k):Gx l=Q2 #[.string (KQ ((l.drop k).take n)),Y1 Q4 ((k:Int)+(n:Int)),Y1 Q4 0]:=by unfold Gx Lv;rw[h];simp only[if_pos hn];rfl
theorem VX (w:World)(A:Y5)(c:Nat)(l:Y4)(h:qv w w.heap.size A c l):nK Y3 315 #[X1 A l.length c] w λe w'=>e=Y0 (Gx l)/\nH w.heap.size w w':=by
 have I:=h.le;have M:=h.max;have H:=XO w _ A c l h;have j:∀u,nH w.heap.size w (w.alloc (Obj.cells #[u] 279)):=λu=>(nF _ _).alloc (zG _) _
 rcases f:rd l with _|⟨n,k⟩
 .rw[Kd f] at H;have i:=nI (tx f);clear f
  go_enter func315,ntmps315
  go_wp2_with (first|(go_at_call 313;refine H.mono ?_;clear H;rintro e w' ⟨rfl,rfl⟩))
  go_ret3
  exact⟨by rw[i.out];rfl,j _⟩
 .rw[Gv f] at H;obtain⟨F,G,B⟩:=XP f;have hcut:(if c=k then A else Option.map (λx=>x.add k) A)=ku A c k:=rfl;have q:qv w w.heap.size (ku A c k) (c-k) (l.drop k):=h.drop k B;have C:(l.drop k).length=l.length-k:=by simp
  clear F
  by_cases hs:n<=l.length-k
  .have i:=nI (tv f hs);have hd:decide (n<=l.length-k)=true:=by simp[hs]
   have s:=q.take n n K5 (zG _) K5;have N:∀W,nH w.heap.size w W->(convert 129 9 (.slice (ku A c k) n n)).run Y3 W=.ok (.string (KQ ((l.drop k).take n))) W:=by
    intro W z;have:=(s.below z).string
    rwa [qB,C,fj hs] at this
   clear f q s
   go_enter func315,ntmps315
   go_wp2_with (first
    |(go_at_call 313;refine H.mono ?_;clear H;rintro e w' ⟨rfl,rfl⟩)
    |(go_at_call 263;refine(JJ _ w.heap.size 0 (ku A c k) (l.length-k) (c-k) n K5 (YD _ _ _)).mono ?_;rintro e w' ⟨rfl,rfl⟩)
    |(go_at_call 264;refine(Gh _ w.heap.size 0 (ku A c k) (l.length-k) (c-k) n K5 K5 K5 (YD _ _ _) (Hl _ _ _ _)).mono ?_;rintro e w' ⟨rfl,rfl⟩))
   go_ret3
   exact⟨by rw[i.out];rfl,by first|exact j _|exact(j _).setCell (p:=⟨w.heap.size,0,K3⟩) (zG _) _⟩
  .have i:=nI (tw f hs);have hd:decide (n<=l.length-k)=false:=by simp;omega
   clear f q
   go_enter func315,ntmps315
   go_wp2_with (first
    |(go_at_call 313;refine H.mono ?_;clear H;rintro e w' ⟨rfl,rfl⟩)
    |(go_at_call 263;refine(JJ _ w.heap.size 0 (ku A c k) (l.length-k) (c-k) n K5 (YD _ _ _)).mono ?_;rintro e w' ⟨rfl,rfl⟩))
   go_ret3
   exact⟨by rw[i.out];rfl,j _⟩
structure wg (w:World)(A:Y5)(xs:List Int):Prop where
 pO:0<xs.length->∃g o,A=some ⟨g,o,K3⟩/\∀j (h:j<xs.length),w.cell? ⟨g,o+j,K3⟩=K4 (Y1 Q4 xs[j])
theorem zg (n:Int)(h0 : -9223372036854775808<=n:=by omega)(h1:n<9223372036854775808:=by omega):IntKind.i64.wrap n=n:=by
 simp[IntKind.wrap,IntKind.bits,IntKind.signed];split<;>omega
theorem Uw (w:World)(A:Y5)(c:Nat)(xs:List Int)(h:wg w A xs)(N:xs.length<=9223372036854775807)(p:Int->Bool)(f:FuncId)(lb:Y7)(F:∀args w,(gm f args).run Y3 w=.ok (.enter f args) w)
  (hf:∀x,nK Y3 f (#[Y1 Q4 x]++lb) w λe w'=>e=Y0 (.bool (p x))/\w=w') :
  nK Y3 199 #[X1 A xs.length c,.func (.func f) #[] lb] w λe w'=>(∃k:Int,e=Y0 (Y1 Q4 k)/\decide (0<=k)=xs.any p)/\w=w':=by
 go_enter func199,ntmps199
 go_wp2_with fail
 go_loop [8] (λi=>∃k:Nat,k<=xs.length/\i=Y1 Q4 k/\Hid ((xs.take k).any p=false)) (λi=>xs.length-(intOf i).toNat)
 case atStart=>exact⟨0,ly _,rfl,nI K9⟩
 case round =>
  obtain⟨k,I,rfl,s⟩:=hrel
  by_cases q:k<xs.length
  .obtain⟨g,o,rfl,hc⟩:=h.pO K5;have G:=hc k q;have H:=hf xs[k];clear hc hf;have M:IntKind.i64.wrap ((k:Int)+1)=(k:Int)+1:=zg _;have u:p xs[k]=false->(xs.take (k+1)).any p=false:=by intro j;rw[zU q,List.any_append,s.out];simp[j]
   have z:p xs[k]=true->xs.any p=true:=λj=>List.any_eq_true.2 ⟨xs[k],qJ q,j⟩
   cases j:p xs[k] with
   | true =>
    have C:=z j;rw[j] at H
    go_wp2_with fail
    refine H.mono ?_;clear H;rintro e w' ⟨rfl,rfl⟩;go_wp2;go_ret;exact⟨⟨(k:Int),rfl,by rw[C];simp⟩,rfl⟩
   | false =>
    have hn:=nI (u j);rw[j] at H;clear u z
    go_wp2_with fail
    refine H.mono ?_;clear H;rintro e w' ⟨rfl,rfl⟩;go_wp2;refine⟨⟨k+1,by omega,by go_num,hn⟩,by simp[intOf];omega⟩
  .obtain rfl:k=xs.length:=K5
   have hn:=s.out;rw[List.take_length] at hn;have B:=nI hn;clear hn s hf;go_wp2;go_ret;exact⟨⟨-1,rfl,by rw[B.out];simp⟩,rfl⟩
theorem Dj (w:World)(a b:nN)(lo hi x:Int)(ha:w.cell? a=K4 (Y1 Q4 lo))(c:w.cell? b=K4 (Y1 Q4 hi)):nK Y3 323 (#[Y1 Q4 x]++#[Y9 (some a),Y9 (some b)]) w λe w'=>e=Y0 (X3 (decide (x<lo)||decide (hi<x)))/\w=w':=by
 by_cases h1:x<lo
 .go_enter func323,ntmps323
  go_wp2;go_ret;exact⟨by simp[h1],rfl⟩
 .go_enter func323,ntmps323
  go_wp2;go_ret;have h2:decide (x<lo)=false:=decide_eq_false K5;exact⟨by rw[h2,Bool.false_or];rfl,rfl⟩
def YF (lo hi:Int)(xs:List Int):Bool:=!xs.any (λx=>decide (x<lo)||decide (hi<x))
theorem Hv (lo hi x:Int):YF lo hi [x]=decide (lo<=x/\x<=hi):=by
 simp only[YF,List.any_cons,List.any_nil,Bool.or_false]
 by_cases h1:x<lo<;>by_cases h2:hi<x<;>simp[h1,h2]<;>omega
theorem AQ (lo hi x y:Int):YF lo hi [x,y]=(YF lo hi [x]&&YF lo hi [y]):=by
 simp[YF,Bool.not_or]
theorem KW (w:World)(A:Y5)(c:Nat)(xs:List Int)(h:wg w A xs)(s:∀g o,A=some ⟨g,o,K3⟩->g<w.heap.size)(C:xs.length<=9223372036854775807)(lo hi:Int):nK Y3 289 #[Y1 Q4 lo,Y1 Q4 hi,X1 A xs.length c] w λe w'=>e=Y0 (.bool (YF lo hi xs))/\nH w.heap.size w w':=by
 have f:nH w.heap.size w ((w.alloc (Q9 #[Y1 Q4 lo] 3)).alloc (Q9 #[Y1 Q4 hi] 3)):=((nF _ _).alloc (zG _) _).alloc K9 _;have b0:=(za.new w 3 #[Y1 Q4 lo]).alloc (Q9 #[Y1 Q4 hi] 3);have b1:=za.new (w.alloc (Q9 #[Y1 Q4 lo] 3)) 3 #[Y1 Q4 hi];rw[nG] at b1
 have z:wg ((w.alloc (Q9 #[Y1 Q4 lo] 3)).alloc (Q9 #[Y1 Q4 hi] 3)) A xs:=⟨λhl=>by
  obtain⟨g,o,e,hc⟩:=h.pO hl
  exact⟨g,o,e,λj B=>(f.cell (p:=⟨g,o+j,K3⟩) (s g o e)).trans (hc j B)⟩⟩
 have H:=Uw _ A c xs z C (λx=>decide (x<lo)||decide (hi<x)) 323 #[Y9 w.heap.size,Y9 (w.heap.size+1:Nat)] (enters_of func323 K6 rfl)
  (λx=>Dj _ _ _ lo hi x b0.boxed b1.boxed)
 have q:nK Y3 121 #[X1 A xs.length c,.func (.func 323) #[] #[Y9 w.heap.size,Y9 (w.heap.size+1:Nat)]] ((w.alloc (Q9 #[Y1 Q4 lo] 3)).alloc (Q9 #[Y1 Q4 hi] 3))
   λe w'=>e=Y0 (.bool (xs.any (λx=>decide (x<lo)||decide (hi<x))))/\((w.alloc (Q9 #[Y1 Q4 lo] 3)).alloc (Q9 #[Y1 Q4 hi] 3))=w':=by
  go_enter func121,ntmps121
  go_wp2_with fail
  refine H.mono ?_;rintro e w' ⟨⟨k,rfl,i⟩,rfl⟩;have u:=nI i;clear i;go_wp2;go_ret;exact⟨congrArg (λb=>eJ (X3 b)) u.out,rfl⟩
 clear H
 go_enter func289,ntmps289
 go_wp2_with fail
 refine q.mono ?_;rintro e w' ⟨rfl,rfl⟩;go_wp2;go_ret;exact⟨rfl,f⟩
theorem On (n:Nat)(hn:n<=140737488355328)(w:World):nK Y3 247 #[X1 none 0 0,Y1 Q4 n] w (yV w []):=by
 obtain⟨s,hi,k,A,q⟩:=mj Yy;have u:IntKind.i64.wrap ((n:Int)-0)=(n:Int):=by rw[zg _];omega
 have x:IntKind.i64.wrap (n:Int)=(n:Int):=zg _
 by_cases e:0<n
 .have j:=Lib.run_append_nil_zeros (P:=Y3) w 129 3 129 5 s (Y1 Q5 0) .i64 .i64 underlying129 underlying3 hi k n e K5 K5 (by rw[q];omega);have h:=grownCap_le_maxLen w n 0 5 (by unfold gP;omega);have z:=grownCap_ge w n 0 5
  go_enter func247,ntmps247
  generalize grownCap w n 0 5=c at *;generalize i:la (fY .u8 0).cells n++la (fY .u8 0).cells (c-n)=cur at *
  go_wp2_with (at_builtin;refine Lib.wpList_append_run _ rfl (.tmp 20) (.tmp 21) _ _ rfl _ _ rfl rfl _ _ j ?_)
  go_ret;have f:nH w.heap.size w (w.drew.alloc (Q9 cur 5)):=((nF _ w).drew).alloc (zG _) _;refine⟨_,rfl,⟨by simp,.inr ⟨w.heap.size,c,cur,rfl,zG _,lD w.drew _,ly _,h,?_,by simp⟩⟩,f⟩;rw[<-i,Array.size_append,size_zeroCells,size_zeroCells];simp[Value.cells];omega
 .obtain rfl:n=0:=K5
  go_enter func247,ntmps247
  go_wp2;go_ret;exact⟨_,rfl,yY.nil _ _,nF _ _⟩
theorem Ik (ls:List Y4)(k:Nat)(h:k<ls.length):(ls.take (k+1)).flatten=(ls.take k).flatten++ls[k]:=by
 rw[zU h,List.flatten_append];simp
theorem uc (ls:List Y4)(k:Nat):(ls.take k).flatten.length<=ls.flatten.length:=by
 have:ls.flatten=(ls.take k).flatten++(ls.drop k).flatten:=by rw[<-List.flatten_append,qK]
 rw[this,zH];omega
theorem Xv (w:World)(A:Y5)(c:Nat)(zs:List (xA w w.heap.size))(u:Cn w w.heap.size A c zs)(aC:(zs.map xA.l).flatten.length<=1000000000):nK Y3 185 #[X1 A zs.length c] w (yV w (zs.map xA.l).flatten):=by
 have aB:=u.le;have aD:=u.max;have x:=λk=>uc (zs.map xA.l) k
 have N:∀k (h:k<zs.length),((zs.map xA.l).take (k+1)).flatten=((zs.map xA.l).take k).flatten++zs[k].1.2:=λk h=>by rw[Ik _ _ (by simpa using h)];simp[xA.l]
 have G:((zs.map xA.l).take zs.length).flatten=(zs.map xA.l).flatten:=by rw[qE K9]
 generalize zs.map xA.l=ls at *;have z:=nI N;have O:=nI G;clear N G
 go_enter func185,ntmps185
 go_wp2_with fail
 go_loop [3,11] (λs i=>∃k t:Nat,k<=zs.length/\i=Y1 Q4 k/\s=Y1 Q4 t/\t<=1000000000/\Hid (t=(ls.take k).flatten.length)) (λ_ i=>zs.length-(intOf i).toNat)
 case atStart=>exact⟨0,0,ly _,rfl,rfl,by omega,nI K9⟩
 case round =>
  obtain⟨k,t,Z,rfl,rfl,ht,U⟩:=hrel
  by_cases f:k<zs.length
  .obtain⟨g,o,rfl,I,hc⟩:=u.pO K5;have C:=hc k f;have q:zs[k].val=.slice zs[k].1.1.1 zs[k].1.2.length zs[k].1.1.2:=rfl;rw[q] at C;have M:t+zs[k].1.2.length=(ls.take (k+1)).flatten.length:=by rw[z.out k f,zH,U.out]
   have B:=x (k+1);have T:=nI M;have V:t+zs[k].1.2.length<=1000000000:=K5
   have aE:IntKind.i64.wrap ((t:Int)+(zs[k].1.2.length:Int))=(t:Int)+(zs[k].1.2.length:Int):=zg _;clear hc q M B x
   go_wp2_with fail
   exact⟨⟨k+1,t+zs[k].1.2.length,by omega,by simp,by simp,V,T⟩,by simp[intOf];omega⟩
  .obtain rfl:k=zs.length:=K5
   go_wp2_with fail
   refine(On t K5 _).mono ?_;rintro e w1 ⟨v,rfl,j,hB⟩
   go_wp2_with fail
   go_loopw [6,27] (λv i wr=>∃k:Nat,k<=zs.length/\i=Y1 Q4 k/\yY wr w.heap.size v (ls.take k).flatten/\nH w.heap.size w wr) (λ_ i _=>zs.length-(intOf i).toNat)
   case atStart=>exact⟨0,ly _,rfl,by simpa using j,hB⟩
   case round =>
    obtain⟨k,Z,rfl,j,hB⟩:=hrel;have F:=hB.size
    by_cases f:k<zs.length
    .obtain⟨g,o,rfl,I,hc⟩:=u.pO K5;have C:=(hB.cell (p:=⟨g,o+k,K3⟩) I).trans (hc k f);have q:zs[k].val=.slice zs[k].1.1.1 zs[k].1.2.length zs[k].1.1.2:=rfl;rw[q] at C;have hz:=(zs[k].2.below hB).more F;have B:=x (k+1);rw[z.out k f,zH] at B;clear hc q x;have t1:(ls.take k).flatten.length+zs[k].1.2.length<=140737488355328:=K5
     go_wp2_with (at_builtin;refine GF rfl (.tmp 31) (.tmp 32) rfl w.heap.size u6 (ls.take k).flatten J0 j wr.heap.size zs[k].1.1.1 zs[k].1.1.2 zs[k].1.2 J0 hz t1 F ?_;intro v' w2 aA X;have S:=j.below hB X)
     refine⟨⟨k+1,by omega,by simp,by rw[z.out k f];exact aA,S⟩,by simp[intOf];omega⟩
    .obtain rfl:k=zs.length:=K5
     go_wp2;go_ret;rw[O.out] at j;exact⟨_,rfl,j,hB⟩
end
section
open Go Go.RowKit
def yK (w w':World):Prop:=nH w.heap.size w w'
theorem yK.refl (w:World):yK w w:=nF _ _
theorem yK.trans {a b c:World}(h:yK a b)(k:yK b c):yK a c:=Below.trans h (Below.mono k h.size)
theorem yK.drew (w:World):yK w w.drew:=(nF _ _).drew
theorem yK.alloc (w:World)(o:Obj):yK w (w.alloc o):=(nF _ _).alloc (zG _) o
namespace Qu
variable {P:gF}{ops:Array nh}{FS:eQ->Value->World->Prop}
def FSd (FS:eQ->Value->World->Prop):Option eQ->Value->World->Prop
 | some d,v,w=>FS d v w
 | none,_,_=>True
def OpOk (P:gF)(ops:Array nh)(FS:eQ->Value->World->Prop)(w0:World)(o:nh):Prop :=
 ∀(a:gh) (w:World) (K:gh->World->Prop) (Q:mh->gh->World->Prop),yK w0 w->(∀t,(o.looksAt ops).contains t=true->FS t (a.eval (.tmp t)) w) ->
  (∀v w',yK w w'->FSd FS o.dst v w'->K (a.put o.dst v) w') ->
  (if gS o (fy ops a.tmps) then o.wp P a w K Q\/(o.asks P a w/\LetsOut Q) else K (a.put o.dst gQ) w)
def AllOk (P:gF)(ops:Array nh)(FS:eQ->Value->World->Prop)(w0:World):List nh->Prop
 | []=>True
 | o::r=>OpOk P ops FS w0 o/\AllOk P ops FS w0 r
theorem AllOk.get {w0:World}:∀{l:List nh},AllOk P ops FS w0 l->∀o∈l,OpOk P ops FS w0 o
 | [],_,o,h=>by cases h
 | x::r,h,o,c=>by
  rcases qN.1 c with rfl|c
  .exact h.1
  .exact AllOk.get h.2 o c
def covered (ops:Array nh):Bool :=
 ops.toList.zipIdx.all λ(o,i) =>
  (o.after.toList.all λe => !gI .any e||decide (e.on<i)) &&
  (o.looksAt ops).all λt=>ops.toList.zipIdx.all λ(p,j)=>p.dst != some t||(o.after.toList.any λe=>gI .any e&&e.on==j)
def Known (ops:Array nh)(listed:Array Bool)(t:eQ):Prop:=∀(j:Nat) (p:nh),ops[j]?=some p->p.dst=some t->listed.getD j true=true
structure J (ops:Array nh)(FS:eQ->Value->World->Prop)(w0:World)(n:Nat)(d:List Deferred)(listed:Array Bool)(a:gh)(w:World):Prop where
 size:a.tmps.size=n
 defers:a.defers=d
 grow:yK w0 w
 facts:∀t,Known ops listed t->FS t (a.eval (.tmp t)) w
theorem eval_put_same {a:gh}{d:eQ}{v:Value}(h:d<a.tmps.size):(a.put (some d) v).eval (.tmp d)=v:=by
 simp[nJ,Act.eval,h]
theorem eval_put_other {a:gh}{d t:eQ}{v:Value}(h:t≠d):(a.put (some d) v).eval (.tmp t)=a.eval (.tmp t):=by
 simp[nJ,Act.eval,zX,Ne.symm h]
theorem ready_mem {i:Nat}{listed:Array Bool}(h:i∈nw .any ops listed):∃o,ops[i]?=some o/\listed.getD i true=false/\∀e∈o.after.toList,gI .any e=true->listed.getD e.on false=true:=by
 unfold nw at h;simp only[yD,List.mem_range,gN,Bool.not_eq_true'] at h;obtain⟨hi,h1,h2⟩:=h;cases c:ops[i]? with
 | none=>simp[c] at h2
 | some o =>
  refine⟨o,rfl,h1,?_⟩;simp only[c,gv,fX] at h2;intro e j f;rw[lH] at h2;have:=h2 e (Array.mem_toList_iff.1 j);simpa[f] using this
theorem covered_spec (h:covered ops=true){i:Nat}{o:nh}(s:ops[i]?=some o):(∀e∈o.after.toList,gI .any e=true->e.on<i) /\
  (∀t,(o.looksAt ops).contains t=true->∀(j:Nat) (p:nh),ops[j]?=some p->p.dst=some t->∃e∈o.after.toList,gI .any e=true/\e.on=j):=by
 unfold covered at h;rw[yF] at h;have q:(o,i)∈ops.toList.zipIdx:=by rw[lE];simpa using s
 have:=h _ q;simp only[gN,yF] at this;obtain⟨h1,h2⟩:=this;constructor
 .intro e f c;have:=h1 e f;simpa[c] using this
 .intro t ht j p u hd;have x:(p,j)∈ops.toList.zipIdx:=by rw[lE];simpa using u
  have:=h2 t (by simpa using ht) _ x;simp only[hd,bne_self_eq_false,Bool.false_or,fA,gN,beq_iff_eq] at this;obtain⟨e,f,c,k⟩:=this;exact⟨e,f,c,k⟩
def left (listed:Array Bool):Nat:=(listed.toList.filter (! ·)).length
theorem region_wpAny (hm:P.follows .mixedOrders=true)(C:covered ops=true){a0:gh}{w0:World}{Q:mh->gh->World->Prop}(n:Nat)(hn:a0.tmps.size=n)
  (V:∀o∈ops.toList,∀d,o.dst=some d->d<n) (FS:eQ->Value->World->Prop)
  (N:∀t v w w',FS t v w->yK w w'->FS t v w')
  (aE:∀t,(∀o∈ops.toList,o.dst≠some t)->FS t (a0.eval (.tmp t)) w0)
  (aD:AllOk P ops FS w0 ops.toList)
  (Z:∀a w,a.tmps.size=n->a.defers=a0.defers->yK w0 w->(∀t,FS t (a.eval (.tmp t)) w)->Q .normal a w) :
  wpAny P .any ops Q ops.size (Array.replicate ops.size false) a0 {w0 with drawn:=w0.drawn+1}:=by
 have key:∀(k:Nat) (listed:Array Bool) (a:gh) (w:World),listed.size=ops.size->left listed<=k->J ops FS w0 n a0.defers listed a w->wpAny P .any ops Q k listed a w:=by
  intro k;have F:∀(listed:Array Bool) (a:gh) (w:World),listed.size=ops.size->J ops FS w0 n a0.defers listed a w->nw .any ops listed=[]->Q .normal a w:=by
   intro listed a w hs c q;have U:∀i,i<ops.size->listed.getD i true=true:=by
    intro i
    induction i using Nat.strongRecOn with
    | _ i ih =>
     intro hi;cases hl:listed.getD i true with
     | true=>rfl
     | false =>
      exfalso;have:i∈nw .any ops listed:=by
       unfold nw;simp only[yD,List.mem_range,gN,Bool.not_eq_true'];refine⟨hi,hl,?_⟩;have f:ops[i]?=some ops[i]:=gr hi;simp only[f,gv,fX];rw[lH];intro e z;have hc:=(covered_spec C f).1 e (Array.mem_toList_iff.2 z);cases x:gI .any e with
       | false=>simp
       | true =>
        have B:=hc x;have h1:=ih e.on B K5;have h2:e.on<listed.size:=K5
        simp only[mS,h2,dif_pos] at h1 ⊢;simpa using h1
      rw[q] at this;cases this
   refine Z a w c.size c.defers c.grow (λt=>c.facts t ?_);intro j p h _;exact U j (zI.1 h).1
  induction k with
  | zero =>
   intro listed a w hs hf c;have q:nw .any ops listed=[]:=by
    rcases q:nw .any ops listed with _|⟨i,r⟩
    .rfl
    .exfalso;obtain⟨o,f,hl,_⟩:=ready_mem (ops:=ops) (listed:=listed) (i:=i) (by rw[q];simp);have hi:i<listed.size:=by rw[hs];exact(zI.1 f).1
     have aB:listed[i]∈listed.toList.filter (! ·):=by
      rw[yD];refine⟨by simp,?_⟩;have A:listed[i]=false:=by simpa[mS,hi] using hl
      simp[A]
     have:0<left listed:=List.length_pos_of_mem aB;omega
   exact⟨q,F listed a w hs c q⟩
  | succ k ih =>
   intro listed a w hs hf c;refine⟨F listed a w hs c,λi hi => ?_⟩;obtain⟨o,f,hl,X⟩:=ready_mem hi;have M:o∈ops.toList:=by obtain⟨h1,h2⟩:=zI.1 f;subst h2;simp
   have u:i<listed.size:=by rw[hs];exact(zI.1 f).1
   have aA:∀t,(o.looksAt ops).contains t=true->FS t (a.eval (.tmp t)) w:=by
    intro t ht;refine c.facts t ?_;intro j p h hd;obtain⟨e,z,x,rfl⟩:=(covered_spec C f).2 t ht j p h hd;have:=X e z x;have B:e.on<listed.size:=by rw[hs];exact(zI.1 h).1
    simp only[mS,B,dif_pos] at this ⊢;exact this
   have aC:∀v w',yK w w'->FSd FS o.dst v w'->wpAny P .any ops Q k (listed.setIfInBounds i true) (a.put o.dst v) w':=by
    intro v w' G O;refine ih _ _ _ (by simpa using hs) ?_ ⟨?_,?_,c.grow.trans G,?_⟩
    .have A:listed[i]=false:=by simpa[mS,u] using hl
     have:left (listed.setIfInBounds i true)<left listed:=by
      unfold left;rw[Array.toList_setIfInBounds];have S:listed.toList=listed.toList.take i++false::listed.toList.drop (i+1):=by
       have T:listed.toList[i]'(by simpa using u)=false:=by simpa using A
       conv=>lhs;rw[<-qK i listed.toList,qS (by simpa using u),T]
      rw[List.set_eq_take_append_cons_drop,if_pos (by simpa using u)]
      conv=>rhs;rw[S]
      simp
     omega
    .cases hd:o.dst with
     | none=>simpa[nJ] using c.size
     | some d=>simpa[nJ] using c.size
    .cases hd:o.dst with
     | none=>simpa[nJ] using c.defers
     | some d=>simpa[nJ] using c.defers
    .intro t ht
     by_cases s:o.dst=some t
     .rw[s] at O ⊢;rw[eval_put_same (by rw[c.size];exact V o M t s)];exact O
     .have hk:Known ops listed t:=by
       intro j p h hd;have:=ht j p h hd
       by_cases e:i=j
       .subst e;rw[f] at h;injection h with h
        subst h;exact absurd hd s
       .simpa[zX,zS,e] using this
      have:=N t _ w w' (c.facts t hk) G;cases hd:o.dst with
      | none=>simpa[nJ] using this
      | some d =>
       rw[eval_put_other (by intro e;subst e;exact s hd)];exact this
   have:=AllOk.get aD o M a w _ Q c.grow aA aC;unfold wpOp;simp only[f];exact this
 refine key ops.size _ a0 _ K9 ?_ ⟨hn,rfl,yK.drew w0,?_⟩
 .unfold left;simp
 .intro t ht;refine N t _ w0 _ (aE t ?_) (yK.drew w0);intro o f hd;obtain⟨i,hi,rfl⟩:=yG f;have I:i<ops.size:=by simpa using hi
  have:=ht i ops[i] (gr I) (by simpa using hd);simp[mS,I] at this
theorem region (c:P.follows .mixedOrders=true)(e:covered ops=true){q:Nat}{a0:gh}{w0:World}{Q:mh->gh->World->Prop}(n:Nat)(hn:a0.tmps.size=n)
  (f:∀o∈ops.toList,∀d,o.dst=some d->d<n) (FS:eQ->Value->World->Prop)
  (j:∀t v w w',FS t v w->yK w w'->FS t v w')
  (k:∀t,(∀o∈ops.toList,o.dst≠some t)->FS t (a0.eval (.tmp t)) w0)
  (i:AllOk P ops FS w0 ops.toList)
  (h:∀a w,a.tmps.size=n->a.defers=a0.defers->yK w0 w->(∀t,FS t (a.eval (.tmp t)) w)->Q .normal a w) :
  (lV q ops true).wp P Q a0 w0 :=
 wp_region_any c (region_wpAny c e n hn f FS j k i h)
variable {w0:World}{o:nh}
def RunOk (P:gF)(ops:Array nh)(FS:eQ->Value->World->Prop)(w0:World)(o:nh):Prop :=
 ∀(a:gh) (w:World) (K:gh->World->Prop) (Q:mh->gh->World->Prop),yK w0 w->(∀t,(o.looksAt ops).contains t=true->FS t (a.eval (.tmp t)) w) ->
  (∀v w',yK w w'->FSd FS o.dst v w'->K (a.put o.dst v) w')->o.wp P a w K Q
theorem ok_none (f:o.guard=none)(h:RunOk P ops FS w0 o):OpOk P ops FS w0 o:=by
 intro a w K Q c hl e;rw[if_pos (by simp[gS,f])];exact .inl (h a w K Q c hl e)
theorem ok_guard (j:Nat)(want:Bool)(d:eQ)(q:o.guard=some (j,want))(hd:(ops[j]?).bind (·.dst)=some d)(hl:(o.looksAt ops).contains d=true)(hF:∀v w,FS d v w->v=X3 want)
  (h:RunOk P ops FS w0 o):OpOk P ops FS w0 o:=by
 intro a w K Q i c k;have e:=hF _ _ (c d hl);have s:gS o (fy ops a.tmps)=true:=by
  have h2:a.tmps[d]?=some (X3 want):=by
   replace e:a.tmps.getD d gQ=X3 want:=e;rw[zX] at e;cases f:a.tmps[d]? with
   | none=>rw[f] at e;cases e
   | some x=>rw[f] at e;simpa using e
  simp[gS,q,fy,hd,h2]
 rw[if_pos s];exact .inl (h a w K Q i c k)
def Has (ops:Array nh)(FS:eQ->Value->World->Prop)(o:nh)(x:nO)(v:Value):Prop :=
 ∀(a:gh) (w:World),(∀t,(o.looksAt ops).contains t=true->FS t (a.eval (.tmp t)) w)->a.eval x=v
theorem has_tmp {t:eQ}{v:Value}(h:(o.looksAt ops).contains t=true)(hF:∀u w,FS t u w->u=v):Has ops FS o (.tmp t) v:=λ_ _ hl=>hF _ _ (hl t h)
theorem has_const {v:Value}:Has ops FS o (.const v) v:=λ_ _ _=>rfl
theorem run_mvF (t:eQ)(c:o.op=.move (.tmp t)\/o.op=.assign (.tmp t))(hc:(o.looksAt ops).contains t=true)(hd:∀v w,FS t v w->FSd FS o.dst v w):RunOk P ops FS w0 o:=by
 intro a w K Q f hl e;unfold mW nQ;rcases c with c|c<;>simp only[c,ny,Oper.upon_value]<;>exact e _ w (yK.refl w) (hd _ _ (hl t hc))
theorem run1 (x:nO){u r:Value}(f:Has ops FS o x u)(e:∀(ρ:nO->Value) (w:World),ρ x=u->(nQ ρ o).run P w=.ok (.value r) w)(hd:∀w,FSd FS o.dst r w):RunOk P ops FS w0 o:=by
 intro a w K Q h hl c;unfold mW;rw[e a.eval w (f a w hl)];exact c r w (yK.refl w) (hd w)
theorem run2 (x y:nO){u v r:Value}(f:Has ops FS o x u)(h:Has ops FS o y v)(e:∀(ρ:nO->Value) (w:World),ρ x=u->ρ y=v->(nQ ρ o).run P w=.ok (.value r) w)(hd:∀w,FSd FS o.dst r w):RunOk P ops FS w0 o:=by
 intro a w K Q i hl c;unfold mW;rw[e a.eval w (f a w hl) (h a w hl)];exact c r w (yK.refl w) (hd w)
theorem run_call (f:FuncId)(xs:Array nO)(B:Array nS)(z:o.op=.call {callee:=.value (.func f),args:=xs,argTypes:=B})(u:∀args w,(gm f args).run P w=.ok (.enter f args) w)
  (args:Y7) (s:∀(a:gh) (w:World),(∀t,(o.looksAt ops).contains t=true->FS t (a.eval (.tmp t)) w)->xs.map a.eval=args)
  (j:∀w,yK w0 w->nK P f args w λe w'=>∃v,e=Y0 v/\yK w w'/\FSd FS o.dst v w'):RunOk P ops FS w0 o:=by
 intro a w K Q k hl q;have e:=s a w hl;unfold mW;have A:(nQ a.eval o).run P w=.ok (.enter f args) w:=by have c:(Array.map a.eval xs)=args:=e;have i:a.eval (.func f)=.func (.func f) #[] #[]:=rfl;have h:=u args w;simp[nQ,z,resolve,c,i,lP,invoke,h]
 rw[A,Oper.upon_enter];refine(j w k).mono ?_;rintro e w' ⟨v,rfl,x,hf⟩;exact q v w' x hf
end Qu
end
section
open Go Go.RowKit xq
inductive vh where
 | val (v:Value)
 | res (l:Y4)
 | any
 | pred (p:Value->World->Prop) (h:∀v w w',p v w->yK w w'->p v w')
def vh.holds:vh->Value->World->Prop
 | .val x,v,_=>v=x
 | .res l,v,w=>∃A c,v=X1 A l.length c/\qv w w.heap.size A c l
 | .any,_,_=>True
 | .pred p _,v,w=>p v w
theorem vh.ph (f:vh){v:Value}{w w':World}(h:f.holds v w)(i:yK w w'):f.holds v w':=by
 cases f with
 | val x=>exact h
 | res l =>
  obtain⟨A,c,e,j⟩:=h;exact⟨A,c,e,(j.below i).more i.size⟩
 | any=>trivial
 | pred p hp=>exact hp v w w' h i
def qu:List (Nat×vh)->Nat->vh
 | [],_ => .any
 |(k,f)::r,t=>if k==t then f else qu r t
def xD (L:List (Nat×vh))(t:eQ)(v:Value)(w:World):Prop:=(qu L t).holds v w
theorem xD.ph (L:List (Nat×vh))(t:eQ)(v:Value)(w w':World)(h:xD L t v w)(c:yK w w'):xD L t v w':=vh.ph _ h c
def KU (ops:Array nh)(t:Nat):Bool:=ops.toList.any λo=>o.dst==some t
def Zr (ops:Array nh)(n:Nat):Bool:=ops.toList.all λo=>match o.dst with|some d=>decide (d<n)|none=>true
namespace Qu
def StartOk (a0:gh)(w0:World):List (Nat×vh)->Prop
 | []=>True
 |(k,f)::r=>f.holds (a0.eval (.tmp k)) w0/\StartOk a0 w0 r
theorem start_fact {a0:gh}{w0:World}{ops:Array nh}:∀(V W:List (Nat×vh)),StartOk a0 w0 V->(W.all λp=>KU ops p.1)=true->∀t,(∀o∈ops.toList,o.dst≠some t)->(qu (V++W) t).holds (a0.eval (.tmp t)) w0
 | [],[],_,_,t,_=>by simp[qu,vh.holds]
 | [],(k,f)::r,hV,hW,t,ht=>by
  simp only[List.all_cons,gN] at hW;simp only[zQ,qu];split
  .rename_i e
   obtain rfl:k=t:=by simpa using e
   exfalso;have:=hW.1;simp only[KU,fA,beq_iff_eq] at this;obtain⟨o,c,hd⟩:=this;exact ht o c hd
  .exact start_fact [] r hV hW.2 t ht
 |(k,f)::r,W,hV,hW,t,ht=>by
  simp only[zW,qu];split
  .rename_i e
   obtain rfl:k=t:=by simpa using e
   exact hV.1
  .exact start_fact r W hV.2 hW t ht
theorem allOk_cons {P:gF}{ops:Array nh}{FS:eQ->Value->World->Prop}{w0:World}{o:nh}{r:List nh}(h:OpOk P ops FS w0 o)(k:AllOk P ops FS w0 r):AllOk P ops FS w0 (o::r):=⟨h,k⟩
theorem allOk_nil {P:gF}{ops:Array nh}{FS:eQ->Value->World->Prop}{w0:World}:AllOk P ops FS w0 []:=trivial
section rules
variable {ops:Array nh}{FS:eQ->Value->World->Prop}{w0:World}{o:nh}
theorem rule_convS (x:nO)(S D:nS){u r:Value}(h:o.op=.convert S D x)(k:Has ops FS o x u)(j:∀w,yK w0 w->(convert S D u).run Y3 w=.ok r w)(hd:∀w,FSd FS o.dst r w):RunOk Y3 ops FS w0 o:=by
 intro a w K Q c hl f;have e:=k a w hl;unfold mW;have i:(nQ a.eval o).run Y3 w=.ok (.value r) w:=by simp[nQ,h,e,j w c,nM]
 rw[i];exact f r w (yK.refl w) (hd w)
theorem args1 {x:nO}{u:Value}(h:Has ops FS o x u):∀(a:gh) (w:World),(∀t,(o.looksAt ops).contains t=true->FS t (a.eval (.tmp t)) w)->Array.map a.eval #[x]=#[u]:=λa w hl=>by simp[h a w hl]
end rules
theorem gives_grow {P:gF}{w:World}{f:FuncId}{args:Y7}{v:Value}(h:nK P f args w λe w'=>e=Y0 v/\nH w.heap.size w w'):nK P f args w λe w'=>∃u,e=Y0 u/\yK w w'/\u=v :=
 h.mono (by rintro e w' ⟨rfl,hB⟩;exact⟨_,rfl,hB,rfl⟩)
theorem gives_res {w:World}{f:FuncId}{args:Y7}{l:Y4}(h:nK Y3 f args w (yV w l)):nK Y3 f args w λe w'=>∃v,e=Y0 v/\yK w w'/\(vh.res l).holds v w' :=
 h.mono λe w' ⟨v,c,i,hB⟩=>⟨v,c,hB,i.inB⟩
def FD (L:List (Nat×vh)):Option eQ->vh
 | some d=>qu L d
 | none => .any
theorem fsd {L:List (Nat×vh)}{d:Option eQ}{f:vh}{v:Value}{w:World}(h:FD L d=f)(c:f.holds v w):FSd (xD L) d v w:=by
 cases d with
 | none=>trivial
 | some d=>subst h;exact c
section lists
variable {L:List (Nat×vh)}{ops:Array nh}{w0:World}{o:nh}{P:gF}
theorem hs (t:eQ)(v:Value)(hc:(o.looksAt ops).contains t=true)(hF:qu L t=.val v):Has ops (xD L) o (.tmp t) v :=
 has_tmp hc λu w h=>by have c:(qu L t).holds u w:=h;rw[hF] at c;exact c
theorem hc (v:Value):Has ops (xD L) o (.const v) v:=has_const
theorem okg (j:Nat)(c:Bool)(d:eQ)(f:o.guard=some (j,c))(hd:(ops[j]?).bind (·.dst)=some d)(hl:(o.looksAt ops).contains d=true)(hF:qu L d=.val (X3 c))
  (h:RunOk P ops (xD L) w0 o):OpOk P ops (xD L) w0 o :=
 ok_guard j c d f hd hl (λv w h=>by
  have e:(qu L d).holds v w:=h;rw[hF] at e
  exact e) h
theorem l_mvF (t:eQ)(f:vh)(e:o.op=.move (.tmp t)\/o.op=.assign (.tmp t))(hc:(o.looksAt ops).contains t=true)(hF:qu L t=f)(hd:FD L o.dst=f):RunOk P ops (xD L) w0 o :=
 run_mvF t e hc λv w h=>fsd hd (by
  have c:(qu L t).holds v w:=h;rw[hF] at c
  exact c)
theorem l_run1 (x:nO)(u r:Value)(e:Has ops (xD L) o x u)(c:∀(ρ:nO->Value) (w:World),ρ x=u->(nQ ρ o).run P w=.ok (.value r) w)(hd:FD L o.dst=.val r):RunOk P ops (xD L) w0 o :=
 run1 x e c λ_=>fsd hd rfl
theorem l_convS (x:nO)(S D:nS)(u r:Value)(c:o.op=.convert S D x)(f:Has ops (xD L) o x u)(e:∀w,yK w0 w->(convert S D u).run Y3 w=.ok r w)(hd:FD L o.dst=.val r):RunOk Y3 ops (xD L) w0 o :=
 rule_convS x S D c f e λ_=>fsd hd rfl
theorem l_call (f:FuncId)(xs:Array nO)(c:Array nS)(s:o.op=.call {callee:=.value (.func f),args:=xs,argTypes:=c})(k:∀args w,(gm f args).run P w=.ok (.enter f args) w)
  (args:Y7) (g:vh) (j:∀(a:gh) (w:World),(∀t,(o.looksAt ops).contains t=true->xD L t (a.eval (.tmp t)) w)->xs.map a.eval=args)
  (h:∀w,yK w0 w->nK P f args w λe w'=>∃v,e=Y0 v/\yK w w'/\g.holds v w') (hd:FD L o.dst=g):RunOk P ops (xD L) w0 o :=
 run_call f xs c s k args j λw i=>(h w i).mono λ_ _ ⟨v,e,q,hh⟩=>⟨v,e,q,fsd hd hh⟩
theorem l_callP (f:FuncId)(t:eQ)(p:Value->World->Prop)(A:∀v w w',p v w->yK w w'->p v w')(C:Array nS)(z:o.op=.call {callee:=.value (.func f),args:=#[.tmp t],argTypes:=C})(s:∀args w,(gm f args).run P w=.ok (.enter f args) w)
  (g:vh) (hc:(o.looksAt ops).contains t=true) (hF:qu L t=.pred p A)
  (j:∀w u,yK w0 w->p u w->nK P f #[u] w λe w'=>∃v,e=Y0 v/\yK w w'/\g.holds v w') (hd:FD L o.dst=g):RunOk P ops (xD L) w0 o:=by
 intro a w K Q k hl q;have c:(qu L t).holds (a.eval (.tmp t)) w:=hl t hc;rw[hF] at c;have e:a.eval (.tmp t)=a.eval (.tmp t):=rfl;revert c e;generalize hu:a.eval (.tmp t)=u;intro c _;unfold mW;have B:(nQ a.eval o).run P w=.ok (.enter f #[u]) w:=by have i:a.eval (.func f)=.func (.func f) #[] #[]:=rfl;have h:=s #[u] w;simp[nQ,z,resolve,hu,i,lP,invoke,h]
 rw[B,Oper.upon_enter];refine(j w u k c).mono ?_;rintro e w' ⟨v,rfl,x,hf⟩;exact q v w' x (fsd hd hf)
theorem l_run2W (x y:nO)(g:vh)(u v:Value)(i:Has ops (xD L) o x u)(j:Has ops (xD L) o y v)
  (h:∀(ρ:nO->Value) (w:World),yK w0 w->ρ x=u->ρ y=v->∃r w',(nQ ρ o).run P w=.ok (.value r) w'/\yK w w'/\g.holds r w') (hd:FD L o.dst=g):RunOk P ops (xD L) w0 o:=by
 intro a w K Q e hl f;obtain⟨r,w',h1,h2,c⟩:=h a.eval w e (i a w hl) (j a w hl);unfold mW;rw[h1];exact f r w' h2 (fsd hd c)
theorem l_run1W (x:nO)(g:vh)(u:Value)(i:Has ops (xD L) o x u)
  (h:∀(ρ:nO->Value) (w:World),yK w0 w->ρ x=u->∃r w',(nQ ρ o).run P w=.ok (.value r) w'/\yK w w'/\g.holds r w') (hd:FD L o.dst=g):RunOk P ops (xD L) w0 o:=by
 intro a w K Q e hl f;obtain⟨r,w',h1,h2,c⟩:=h a.eval w e (i a w hl);unfold mW;rw[h1];exact f r w' h2 (fsd hd c)
end lists
end Qu
namespace Qu
theorem OpOk.mono {P:gF}{ops:Array nh}{FS c:eQ->Value->World->Prop}{w0:World}{o:nh}(h:OpOk P ops FS w0 o)(h1:∀t v w,c t v w->FS t v w)(h2:∀d v w,o.dst=some d->FS d v w->c d v w):OpOk P ops c w0 o:=by
 intro a w K Q e hl f;refine h a w K Q e (λt ht=>h1 _ _ _ (hl t ht)) (λv w' i hf=>f v w' i ?_);cases hd:o.dst with
 | none=>trivial
 | some d =>
  rw[hd] at hf;exact h2 d v w' hd hf
theorem AllOk.mono {P:gF}{ops:Array nh}{FS c:eQ->Value->World->Prop}{w0:World}(h1:∀t v w,c t v w->FS t v w):∀{l:List nh},(∀o∈l,∀d v w,o.dst=some d->FS d v w->c d v w)->AllOk P ops FS w0 l->AllOk P ops c w0 l
 | [],_,_=>trivial
 | o::r,h2,h=>⟨h.1.mono h1 (h2 o (List.mem_cons_self ..)),h.2.mono h1 λo e=>h2 o (List.mem_cons_of_mem _ e)⟩
def dstsAre (ops:Array nh)(D:List Nat):Bool:=ops.toList.all λo=>match o.dst with|some d=>D.contains d|none=>true
theorem region_acts {P:gF}{ops:Array nh}(A:P.follows .mixedOrders=true)(u:covered ops=true){C:Nat}{a0:gh}{w0:World}{Q:mh->gh->World->Prop}(n:Nat)(hn:a0.tmps.size=n)
  (f:Zr ops n=true) (D:List Nat) (e:dstsAre ops D=true) (V W:List (Nat×vh)) (q:StartOk a0 w0 V) (s:(W.all λp=>KU ops p.1)=true)
  (B:AllOk P ops (xD (V++W)) w0 ops.toList)
  (x:∀a w,a.tmps.size=n->a.defers=a0.defers->yK w0 w->(∀t,xD (V++W) t (a.eval (.tmp t)) w)->(∀t,D.contains t=false->a.eval (.tmp t)=a0.eval (.tmp t))->Q .normal a w) :
  (lV C ops true).wp P Q a0 w0:=by
 have k:∀o∈ops.toList,∀d,o.dst=some d->D.contains d=true:=by intro o c d hd;unfold dstsAre at e;rw[yF] at e;have:=e o c;simpa[hd] using this
 refine region A u n hn ?_ (λt v w=>xD (V++W) t v w/\(D.contains t=false->v=a0.eval (.tmp t))) (λt v w w' h z=>⟨xD.ph _ _ _ _ _ h.1 z,h.2⟩) (λt ht=>⟨start_fact V W q s t ht,λ_=>rfl⟩)
  (AllOk.mono (λ_ _ _ h=>h.1) (λo c d v w hd h=>⟨h,λhn=>by rw[k o c d hd] at hn;cases hn⟩) B) ?_
 .intro o c d hd;unfold Zr at f;rw[yF] at f;have:=f o c;simpa[hd] using this
 .intro a w h1 h2 j i;exact x a w h1 h2 j (λt=>(i t).1) (λt=>(i t).2)
theorem acts_eq {a a0:gh}:∀(D:List Nat),a.tmps.size=a0.tmps.size->a.defers=a0.defers->(∀t,D.contains t=false->a.eval (.tmp t)=a0.eval (.tmp t))->a=D.foldl (λx d=>x.put (some d) (a.eval (.tmp d))) a0:=by
 have f:∀(x:gh) d v,(x.put (some d) v).tmps.size=x.tmps.size:=by intro x d v;simp[nJ]
 have key:∀(D:List Nat) (b:gh),a.tmps.size=b.tmps.size->a.defers=b.defers->(∀t,D.contains t=false->a.eval (.tmp t)=b.eval (.tmp t))->a=D.foldl (λx d=>x.put (some d) (a.eval (.tmp d))) b:=by
  intro D
  induction D with
  | nil =>
   intro b hs hd h;have:a.tmps=b.tmps:=by apply Array.ext hs;intro i h1 h2;have:=h i rfl;simpa[Act.eval,mS,h1,h2] using this
   cases a;cases b;simp_all
  | cons d r ih =>
   intro b hs hd h;rw[mR];refine ih _ (by rw[f];exact hs) (by simp[nJ,hd]) ?_;intro t ht
   by_cases e:t=d
   .subst e
    by_cases c:t<b.tmps.size
    .rw[eval_put_same c]
    .have h1:¬ t<a.tmps.size:=K5
     simp[nJ,Act.eval,zX,h1,c]
   .rw[eval_put_other e];exact h t (by simp only[List.contains_cons,Bool.or_eq_false_iff];exact⟨by simpa using e,ht⟩)
 exact λD=>key D a0
section lists
variable {L:List (Nat×vh)}{ops:Array nh}{w0:World}{o:nh}{P:gF}
theorem okg_not (j:Nat)(want:Bool)(d:eQ)(k:o.guard=some (j,want))(hd:(ops[j]?).bind (·.dst)=some d)(hl:(o.looksAt ops).contains d=true)(hF:qu L d=.val (.bool !want))(h:FD L o.dst=.any):OpOk P ops (xD L) w0 o:=by
 intro a w K Q u q i;have c:(qu L d).holds (a.eval (.tmp d)) w:=q d hl;rw[hF] at c;have e:a.eval (.tmp d)=.bool !want:=c;have s:gS o (fy ops a.tmps)=false:=by
  have h2:a.tmps[d]?=some (.bool !want):=by
   replace e:a.tmps.getD d gQ=.bool !want:=e;rw[zX] at e;cases f:a.tmps[d]? with
   | none=>rw[f] at e;cases e
   | some x=>rw[f] at e;simpa using e
  cases want<;>simp[gS,k,fy,hd,h2]
 rw[if_neg (by simp[s])];exact i gQ w (yK.refl w) (fsd h trivial)
theorem l_pickF (x y z:nO)(r:Value)(c:o.op=.pick x y z)(e:Has ops (xD L) o x (X3 false))(f:Has ops (xD L) o z r)(hd:FD L o.dst=.val r):RunOk P ops (xD L) w0 o :=
 run2 x z e f (λρ w h1 h2=>by simp[nQ,c,h1,h2,asBool]) λ_=>fsd hd rfl
theorem l_pickT (x y z:nO)(r:Value)(c:o.op=.pick x y z)(e:Has ops (xD L) o x (X3 true))(f:Has ops (xD L) o y r)(hd:FD L o.dst=.val r):RunOk P ops (xD L) w0 o :=
 run2 x y e f (λρ w h1 h2=>by simp[nQ,c,h1,h2,asBool]) λ_=>fsd hd rfl
theorem l_load (x:nO)(p:nN)(T:nS)(v:Value)(c:∀w:World,(isAgg T).run P w=.ok false w)(i:o.op=.load T x)(j:Has ops (xD L) o x (Y9 (some p)))(e:∀w,yK w0 w->w.cell? p=some v)(hd:FD L o.dst=.val v):RunOk P ops (xD L) w0 o:=by
 refine l_run1W x (.val v) _ j (λρ w f h=>⟨v,w,?_,yK.refl _,rfl⟩) hd;have hc:=e w f;simp[nQ,i,h,go_sem,c,hc,nM]
end lists
end Qu
def xy (ls:List Y4)(v:Value)(w:World):Prop :=
 ∃b,v=X1 (K4 ⟨b,0,K3⟩) ls.length ls.length/\b<w.heap.size/\∀j (h:j<ls.length),∃A c,w.cell? ⟨b,j,K3⟩=some (X1 A ls[j].length c)/\qv w w.heap.size A c ls[j]
theorem xi (ls:List Y4):∀v w w',xy ls v w->yK w w'->xy ls v w':=by
 rintro v w w' ⟨b,k,f,h⟩ e;refine⟨b,k,zO f e.size,λj i => ?_⟩;obtain⟨A,c,h1,h2⟩:=h j i;exact⟨A,c,(e.cell (p:=⟨b,j,K3⟩) f).trans h1,(h2.below e).more e.size⟩
theorem xy.pieces {ls:List Y4}{v:Value}{w:World}(h:xy ls v w)(u:ls.length<=1000):∃b,∃zs:List (xA w w.heap.size),v=X1 (K4 ⟨b,0,K3⟩) zs.length zs.length/\zs.map xA.l=ls/\Cn w w.heap.size (K4 ⟨b,0,K3⟩) zs.length zs:=by
 obtain⟨b,rfl,s,h⟩:=h;have key:∀n,n<=ls.length->∃zs:List (xA w w.heap.size),zs.length=n/\zs.map xA.l=ls.take n/\∀j (f:j<zs.length),w.cell? ⟨b,j,K3⟩=some zs[j].val:=by
  intro n
  induction n with
  | zero=>exact λ_=>⟨[],rfl,by simp,λj f=>by simp at f⟩
  | succ n ih =>
   intro hn;obtain⟨zs,h1,h2,i⟩:=ih K5;obtain⟨A,c,k,q⟩:=h n K5;refine⟨zs++[⟨((A,c),ls[n]),q⟩],by simp[h1],?_,λj f => ?_⟩
   .rw[qX,h2,zU K5];rfl
   .by_cases e:j<zs.length
    .rw[List.getElem_append_left e];exact i j e
    .have:j=n:=by simp at f;omega
     subst this;rw[List.getElem_append_right K5];simp only[h1,Nat.sub_self,zB];exact k
 obtain⟨zs,h1,h2,i⟩:=key ls.length (zG _);refine⟨b,zs,by rw[h1],by rw[h2,List.take_length],⟨zG _,by omega,λ_=>⟨b,0,rfl,s,λj f=>by rw[qA];exact i j f⟩⟩⟩
theorem jY {ls:List Y4}{v:Value}{w:World}(h:xy ls v w)(f:ls.length<=1000)(hf:ls.flatten.length<=1000000000):nK Y3 185 #[v] w (yV w ls.flatten):=by
 obtain⟨b,zs,rfl,c,e⟩:=h.pieces f;have:=Xv w (K4 ⟨b,0,K3⟩) zs.length zs e (by rw[c];exact hf);rw[c] at this;exact this
theorem xy.new {w:World}(xs:List ((Y5×Nat)×Y4))(h:∀x∈xs,qv w w.heap.size x.1.1 x.1.2 x.2):xy (xs.map (·.2)) (X1 w.heap.size xs.length xs.length) (w.alloc (Q9 (xs.map λx=>mN x.1.1 x.2.length x.1.2).toArray 129)):=by
 refine⟨w.heap.size,by simp,by simp,λj e => ?_⟩;have c:j<xs.length:=by simpa using e
 refine⟨xs[j].1.1,xs[j].1.2,?_,?_⟩
 .rw[(za.new w 129 _).cell];simp[c]
 .have:=h xs[j] (qJ c);rw[List.getElem_map];exact(this.below ((nF _ w).alloc (zG _) _)).more K9
theorem yY.base {w:World}{b c:Nat}{v:Value}{l:Y4}(h:yY w b v l)(i:c<=b):yY w c v l:=by
 refine⟨h.1,?_⟩;rcases h.2 with h|⟨g,e,cur,h1,h2,f⟩
 .exact .inl h
 .exact .inr ⟨g,e,cur,h1,by omega,f⟩
theorem yV.from {w f:World}{l:Y4}{e:Ending}{w':World}(h:yV f l e w')(c:nH w.heap.size w f):yV w l e w':=by
 obtain⟨v,i,j,hB⟩:=h;exact⟨v,i,j.base c.size,c.trans (hB.mono c.size)⟩
theorem XB (W:World)(A i:Y5)(c c2:Nat)(l f:Y4)(s:qv W W.heap.size A c l)(u:qv W W.heap.size i c2 f)(hf:l.length+f.length<=1000000000):nK Y3 185 #[X1 W.heap.size 2 2] (W.alloc (Q9 #[X1 A l.length c,X1 i f.length c2] 129)) (yV W (l++f)):=by
 have k:=xy.new (w:=W) [((A,c),l),((i,c2),f)] (by
  intro x j;simp only[qN,gu,or_false] at j;rcases j with rfl|rfl
  .exact s
  .exact u)
 have h:=jY k K9 (by simpa using hf);refine h.mono λe w' q => ?_
 have:=q.from ((nF _ W).alloc (zG _) _);simpa using this
namespace Qu
variable {L:List (Nat×vh)}{ops:Array nh}{w0:World}{o:nh}
theorem l_build4 (t1 c t3 t4:eQ)(e f h i:Y4)(ho:o.op=.buildSlice 142 4 #[(0,.tmp t1),(1,.tmp c),(2,.tmp t3),(3,.tmp t4)])
  (c1:(o.looksAt ops).contains t1=true) (c2:(o.looksAt ops).contains c=true) (c3:(o.looksAt ops).contains t3=true) (c4:(o.looksAt ops).contains t4=true)
  (S:qu L t1=.res e) (T:qu L c=.res f) (U:qu L t3=.res h) (V:qu L t4=.res i) (hd:FD L o.dst=.pred (xy [e,f,h,i]) (xi _)):RunOk Y3 ops (xD L) w0 o:=by
 intro a w K Q hG hl X;have A:(qu L t1).holds (a.eval (.tmp t1)) w:=hl t1 c1;have B:(qu L c).holds (a.eval (.tmp c)) w:=hl c c2;have C:(qu L t3).holds (a.eval (.tmp t3)) w:=hl t3 c3;have F:(qu L t4).holds (a.eval (.tmp t4)) w:=hl t4 c4;rw[S] at A;rw[T] at B;rw[U] at C;rw[V] at F;obtain⟨j,k1,I,h1⟩:=A;obtain⟨k,k2,M,h2⟩:=B;obtain⟨q,k3,N,u⟩:=C;obtain⟨s,k4,O,z⟩:=F
 have Z:=xy.new (w:=w) [((j,k1),e),((k,k2),f),((q,k3),h),((s,k4),i)] (by
  intro x G;simp only[qN,gu,or_false] at G;rcases G with rfl|rfl|rfl|rfl
  .exact h1
  .exact h2
  .exact u
  .exact z)
 have key:∀ρ:nO->Value,ρ (.tmp t1)=X1 j e.length k1->ρ (.tmp c)=X1 k f.length k2->ρ (.tmp t3)=X1 q h.length k3->ρ (.tmp t4)=X1 s i.length k4 ->
   (nQ ρ o).run Y3 w=.ok (.value (X1 w.heap.size 4 4)) (w.alloc (Q9 #[X1 j e.length k1,X1 k f.length k2,X1 q h.length k3,X1 s i.length k4] 129)) :=
  λρ h1 h2 u z=>by simp[nQ,ho,h1,h2,u,z,go_sem,nM]
 unfold mW;rw[key _ I M N O];exact X _ _ (yK.alloc _ _) (fsd hd Z)
end Qu
def yz (fr pg:Int):Bool:=YF 1 2000 [fr]&&YF 1 2000 [pg]
theorem vQ (fr pg:Int):yz fr pg=true↔(1<=fr/\fr<=2000)/\(1<=pg/\pg<=2000):=by
 simp[yz,Hv]
theorem wg.one (W:World)(x:Int):wg (W.alloc (Q9 #[Y1 Q4 x] 3)) (K4 ⟨W.heap.size,0,K3⟩) [x]:=⟨λ_=>⟨_,_,rfl,λj c=>by
 obtain rfl:j=0:=by simpa using c
 exact(za.new W 3 #[Y1 Q4 x]).boxed⟩⟩
theorem vZ (W:World)(lo hi x:Int):nK Y3 289 #[Y1 Q4 lo,Y1 Q4 hi,X1 W.heap.size 1 1] (W.alloc (Q9 #[Y1 Q4 x] 3)) λe w'=>e=Y0 (.bool (YF lo hi [x]))/\nH W.heap.size W w' :=
 (KW (W.alloc (Q9 #[Y1 Q4 x] 3)) (K4 ⟨W.heap.size,0,K3⟩) 1 [x] (wg.one W x) (λg o e=>by injection e with e;injection e with e1;subst e1;simp) K9 lo hi).mono λe w' ⟨c,hB⟩ =>
  ⟨c,((nF _ W).alloc (zG _) _).trans (hB.mono K9)⟩
theorem Po (fr pg:Int)(w:World):nK Y3 223 #[Q0 #[Y1 Q4 fr,Y1 Q4 pg]] w λe w'=>e=Y0 (Y1 Q4 (if yz fr pg then 0 else 2))/\nH w.heap.size w w':=by
 have s:=za.new w 74 #[Y1 Q4 fr,Y1 Q4 pg];have k:nH w.heap.size w (w.alloc (Q9 #[Y1 Q4 fr,Y1 Q4 pg] 74)):=(nF _ w).alloc (zG _) _;obtain⟨v,i⟩:∃v:Int,v=if yz fr pg then 0 else 2:=⟨_,rfl⟩
 rw[<-i];have h:=nI i;clear i
 go_enter func223,ntmps223
 have H:=vZ (w.alloc (Q9 #[Y1 Q4 fr,Y1 Q4 pg] 74)) 1 2000 fr;rw[nG] at H;cases h1:YF 1 2000 [fr] with
 | false =>
  rw[h1] at H;have c:v=2:=by rw[h.out];simp[yz,h1]
  subst c
  go_wp2_with (go_at_call 289;refine H.mono ?_;rintro e j ⟨rfl,hB⟩)
  go_ret;exact⟨rfl,k.trans (hB.mono K9)⟩
 | true =>
  rw[h1] at H
  go_wp2_with fail
  refine H.mono ?_;clear H;rintro e j ⟨rfl,hB⟩;have u:=s.below hB K9;have x:j.cell? ⟨w.heap.size,1,K3⟩=K4 (Y1 Q4 pg):=by rw[u.cell];rfl
  have f:=k.trans (hB.mono K9);have H:=vZ j 1 2000 pg
  go_wp2_with fail
  refine H.mono ?_;clear H;rintro e z ⟨rfl,q⟩;cases h2:YF 1 2000 [pg] with
  | false =>
   have c:v=2:=by rw[h.out];simp[yz,h2]
   subst c;go_wp2;go_ret;exact⟨rfl,f.trans (q.mono f.size)⟩
  | true =>
   have c:v=0:=by rw[h.out];simp[yz,h1,h2]
   subst c;go_wp2;go_ret;exact⟨rfl,f.trans (q.mono f.size)⟩
def Mk (ok:Bool)(i many:Int):Int:=if ok then (if 0<=i/\i<many then 0 else 4) else 2
def rV (e:Int)(a:gh):Prop:=∃u0 u1 u2 u3 u4 u5 u6 u7 u8 u10 u11 u12 u13 u14 u15 u16 u17 u18 u19 u20 u21 u22 u23,a={tmps:=#[u0,u1,u2,u3,u4,u5,u6,u7,u8,Y1 Q4 e,u10,u11,u12,u13,u14,u15,u16,u17,u18,u19,u20,u21,u22,u23],defers:=[]}
theorem Zd (fr pg i many r:Int)(g:FuncId)(lb:Y7)(A:∀args w,(gm g args).run Y3 w=.ok (.enter g args) w)(w:World)
  (s:yz fr pg=true->0<=i->i<many->∀W,nH w.heap.size w W->nK Y3 g lb W λe w'=>e=Y0 (Y1 Q4 r)/\W=w') :
  nK Y3 161 #[Q0 #[Y1 Q4 fr,Y1 Q4 pg],Y1 Q4 i,Y1 Q4 many,.func (.func g) #[] lb] w λe w' =>
   e=Y0 (Q2 #[Y1 Q4 (if Mk (yz fr pg) i many=0 then r else 0),Y1 Q4 (Mk (yz fr pg) i many)])/\nH w.heap.size w w':=by
 have j:nH w.heap.size w (w.alloc (Q9 #[Y1 Q4 fr,Y1 Q4 pg] 74)):=(nF _ w).alloc (zG _) _;obtain⟨v,x⟩:∃v:Int,v=Mk (yz fr pg) i many:=⟨_,rfl⟩;obtain⟨u,hu⟩:∃u:Int,u=if v=0 then r else 0:=⟨_,rfl⟩
 rw[<-x,<-hu];have q:=nI x;have k:=nI hu;clear x hu
 go_enter func161,ntmps161
 go_wp2_with fail
 refine wp_scope_jumps (rest:=?rest) 0 (λa w'=>Hid (u=0)/\rV v a/\nH w.heap.size w w') (λ_ _=>0) ?hf ?first ?pass
 case hf=>exact rfl
 case pass =>
  rintro a w' ⟨hn,⟨C,u1,u2,u3,u4,u5,u6,u7,u8,u10,u11,u12,u13,u14,u15,u16,u17,u18,u19,u20,u21,u22,u23,rfl⟩,hB⟩;go_wp2;simp only[fp];go_wp2;refine nT (nj rfl _ _ _) rfl ?_;have e:=hn.out;subst e;exact⟨rfl,hB⟩
 case first =>
  have H:=Po fr pg (w.alloc (Q9 #[Y1 Q4 fr,Y1 Q4 pg] 74));cases h:yz fr pg with
  | false =>
   rw[h] at H;have c:v=2:=by rw[q.out,h];rfl
   have f:Hid (u=0):=nI (by rw[k.out,c];rfl);subst c
   go_wp2_with (go_at_call 223;refine H.mono ?_;rintro e z ⟨rfl,hB⟩)
   go_step3
   exact⟨rfl,f,by repeat (first|exact rfl|apply lS),j.trans (hB.mono K9)⟩
  | true =>
   rw[h] at H
   by_cases h1:0<=i/\i<many
   .have c:v=0:=by rw[q.out,h];simp[Mk,h1]
    have f:u=r:=by rw[k.out,c];rfl
    subst c f;have s:=s h h1.1 h1.2;obtain⟨h1,h2⟩:=h1
    go_wp2_with (go_at_call 223;refine H.mono ?_;rintro e z ⟨rfl,hB⟩)
    refine(s _ (j.trans (hB.mono K9))).mono ?_;rintro e F ⟨rfl,rfl⟩;go_wp2;simp only[fp];refine nT (nj rfl _ _ _) rfl ?_;exact⟨rfl,j.trans (hB.mono K9)⟩
   .have c:v=4:=by rw[q.out,h];simp[Mk,h1]
    have f:Hid (u=0):=nI (by rw[k.out,c];rfl);subst c;have h2:i<0\/(0<=i/\many<=i):=K5
    clear h1;rcases h2 with h2|⟨h2,B⟩
    .go_wp2_with (go_at_call 223;refine H.mono ?_;rintro e z ⟨rfl,hB⟩)
     go_step3
     exact⟨rfl,f,by repeat (first|exact rfl|apply lS),j.trans (hB.mono K9)⟩
    .go_wp2_with (go_at_call 223;refine H.mono ?_;rintro e z ⟨rfl,hB⟩)
     go_step3
     exact⟨rfl,f,by repeat (first|exact rfl|apply lS),j.trans (hB.mono K9)⟩
def vl (z c:Int):Bool:=YF 0 2000 [z]&&YF 0 2000 [c]
theorem Xr (z c:Int):vl z c=true↔(0<=z/\z<=2000)/\(0<=c/\c<=2000):=by
 simp[vl,Hv]
theorem KH (s e:Nat)(z c:Int)(w:World):nK Y3 227 #[Q0 #[Y1 Q6 (s:Int),Y1 Q6 (e:Int),Y1 Q4 z,Y1 Q4 c]] w λx w'=>x=.returned (.bool (vl z c))/\nH w.heap.size w w':=by
 have A:=za.new w 173 #[Y1 Q6 (s:Int),Y1 Q6 (e:Int),Y1 Q4 z,Y1 Q4 c];have j:nH w.heap.size w (w.alloc (Q9 #[Y1 Q6 (s:Int),Y1 Q6 (e:Int),Y1 Q4 z,Y1 Q4 c] 173)):=(nF _ w).alloc (zG _) _;have H:=vZ (w.alloc (Q9 #[Y1 Q6 (s:Int),Y1 Q6 (e:Int),Y1 Q4 z,Y1 Q4 c] 173)) 0 2000 z;rw[nG] at H;obtain⟨v,h⟩:∃v:Bool,v=vl z c:=⟨_,rfl⟩;rw[<-h];have q:=nI h;clear h
 go_enter func227,ntmps227
 cases h1:YF 0 2000 [z] with
 | false =>
  rw[h1] at H;have f:v=false:=by rw[q.out];simp[vl,h1]
  subst f
  go_wp2_with (go_at_call 289;refine H.mono ?_;rintro e i ⟨rfl,hB⟩)
  go_ret;exact⟨rfl,j.trans (hB.mono K9)⟩
 | true =>
  rw[h1] at H
  go_wp2_with fail
  refine H.mono ?_;clear H;rintro e i ⟨rfl,hB⟩;have B:=A.below hB K9;have C:i.cell? ⟨w.heap.size,3,K3⟩=K4 (Y1 Q4 c):=by rw[B.cell];rfl
  have k:=j.trans (hB.mono K9);have H:=vZ i 0 2000 c;have f:v=YF 0 2000 [c]:=by rw[q.out];simp[vl,h1]
  generalize YF 0 2000 [c]=b at *;subst f
  go_wp2_with fail
  refine H.mono ?_;clear H;rintro e F ⟨rfl,u⟩;go_wp2;go_ret;exact⟨rfl,k.trans (u.mono k.size)⟩
theorem VG (x:Nat)(h:x<4294967296):bits .and .u64 (x:Int) 4294967295=(x:Int):=by
 have h2:=u64_and_nat x 4294967295 K5 K5;have e:x &&& 4294967295=x%4294967296:=Nat.and_two_pow_sub_one_eq_mod x 32;rw[e,Nat.mod_eq_of_lt h] at h2;exact h2
theorem Ty (x y:Nat)(f:x<65536)(i:y<65536)(w:World):nK Y3 363 #[Y1 Q6 x,Y1 Q6 y] w λe w'=>e=Y0 (Q2 #[Y1 Q6 0,Y1 Q6 ((x*y:Nat):Int)])/\w=w':=by
 have h:x*y<4294967296:=Nat.mul_lt_mul'' f i;have q:=VG x K5;have s:=VG y K5;have j:=VG (x*y) h;have u:(x:Int) / 4294967296=0:=K5
 have h1:(y:Int) / 4294967296=0:=K5
 have h2:((x*y:Nat):Int) / 4294967296=0:=K5
 have k:IntKind.u64.wrap ((x*y:Nat):Int)=((x*y:Nat):Int):=by
  show ((x*y:Nat):Int)%18446744073709551616=_
  omega
 have z:IntKind.u64.wrap 0=0:=K7
 have c:((x*y:Nat):Int)=(x:Int)*(y:Int):=by simp
 rw[c] at j h2 k ⊢;have A:bits .and .u64 0 4294967295=0:=VG 0 K5;clear c h f i
 go_enter func363,ntmps363
 go_wp2;refine nT (nj rfl _ _ _) rfl ?_;exact⟨rfl,rfl⟩
theorem Ni (x y:Nat)(c:x<65536)(f:y<65536)(w:World):nK Y3 328 #[Y1 Q6 x,Y1 Q6 y] w λe w'=>e=Y0 (Q2 #[Y1 Q6 0,Y1 Q6 ((x*y:Nat):Int)])/\w=w':=by
 have H:=Ty x y c f w;generalize x*y=z at *
 go_enter func328,ntmps328
 go_wp2_with fail
 refine H.mono ?_;rintro e w' ⟨rfl,rfl⟩;go_wp2;refine nT (nj rfl _ _ _) rfl ?_;exact⟨rfl,rfl⟩
end
end Go.Proofs.YtohmkffoojdahaaGreat
