/- Texts that the proof of PagerNone leans on, part 1. -/
import Derived.WalkKit
import Derived.Maps.AppendAt
import Derived.Lib.Hide
import Derived.WalkSpells
import Derived.WalkLawsBesides
import Derived.Laws.AppendOwnNone
import Derived.Lib.AppendStr
import Derived.Test.YtnlimngkagmjpaaGreatProg
import Derived.ProofKit
import Derived.OpenShut
import Derived.ShutString
import Derived.ChangeOld
import Derived.Below
import Derived.Defers
import Derived.Laws.LoneSync
import Derived.RegionTactic
import Derived.RegionCalls
import Derived.ChangeAlike
import Derived.RangeFuncBox
import Derived.RangeFuncNested
import Derived.RangeFuncBound
import Derived.RangeFuncCalls
import Derived.RangeFuncLeaves
import Derived.Shelf.Abstract
import Derived.Shelf.RegionOpen
import Derived.OwnWalkIn
import Derived.TacticsInMore
import Derived.LoopNIn
import Derived.LoopIn
import Derived.Laws.CopyRow
import Derived.Deep.RegionHeld3
import Derived.Deep.DrawnRows
import Derived.Lib.AppendZerosOnto
import Derived.Deep.MidRow
import Derived.MapKept
import Derived.Carry
import Derived.ScopeJumps
import Derived.Lib.AppendZeros
import Derived.Orders
open List renaming length_cons → zN, map_cons → zK, eq_nil_of_length_eq_zero → qF, getElem?_eq_getElem → zI, replicate → zR, size_toArray → zS, length_nil → qB, push_toArray → zZ, append_toArray → zX, nil_append → zQ, cons_append → zW, take_succ_eq_append_getElem → qC, map_toArray → zJ, map_nil → zL, take_of_length_le → qA, getElem_mem → qJ, length_append → zY, all_eq_true → qG
open Nat renaming zero_add → qK, le_refl → zG, le_trans → zP, lt_of_lt_of_le → zO, reduceAdd → qH, reduceSub → qI
open Array renaming getElem?_eq_some_iff → zH, getElem?_setIfInBounds → zM, replicate_succ → zU, replicate_zero → zV, getD_eq_getD_getElem? → zT
set_option linter.unusedVariables false
set_option maxRecDepth 100000
set_option maxHeartbeats 8000000
namespace Lou
def rdF:Nat->Nat->Nat->List UInt8->Option (Nat×Nat)
 | 0,_,_,_=>none
 | _+1,_,_,[]=>none
 | f+1,i,acc,c::r =>
  if i=9/\1<c.toNat then none
  else if 128<=c.toNat then rdF f (i+1) (acc+c.toNat % 128*128 ^ i) r
  else if c.toNat=0/\0<i then none
  else some (acc+c.toNat % 128*128 ^ i,i+1)
def rd (l:List UInt8):Option (Nat×Nat):=rdF 10 0 0 l
theorem rdF_bound (f i acc:Nat)(l:List UInt8)(n k:Nat)(hf:f+i=10)(ha:acc<128 ^ i)(h:rdF f i acc l=some (n,k)) :
  n<2 ^ 64/\i+1<=k/\k<=i+l.length:=by
 induction f generalizing i acc l with
 | zero=>simp[rdF] at h
 | succ f ih =>
  cases l with
  | nil=>simp[rdF] at h
  | cons c r =>
   have hc:c.toNat<256:=c.toNat_lt
   have hs:acc+c.toNat % 128*128 ^ i<128 ^ (i+1):=by
    have h1:c.toNat % 128<=127:=by omega
    have h2:c.toNat % 128*128 ^ i<=127*128 ^ i:=Nat.mul_le_mul_right _ h1
    have h3:128 ^ (i+1)=128 ^ i*128:=Nat.pow_succ ..
    omega
   simp only[rdF] at h
   split at h
   ·cases h
   ·rename_i h9
    split at h
    ·obtain⟨p1,p2,p3⟩:=ih (i+1) _ r (by omega) hs h
     refine⟨p1,by omega,?_⟩
     simp only[zN]
     omega
    ·rename_i h128
     split at h
     ·cases h
     ·simp only[Option.some.injEq,Prod.mk.injEq] at h
      obtain⟨rfl,rfl⟩:=h
      refine⟨?_,by omega,by simp⟩
      by_cases hi:i=9
      ·subst hi
       have hc1:c.toNat<=1:=by omega
       have:c.toNat % 128*128 ^ 9<=1*128 ^ 9:=Nat.mul_le_mul_right _ (by omega)
       simp at this ha ⊢
       omega
      ·have:128 ^ (i+1)<=128 ^ 9:=Nat.pow_le_pow_right (by omega) (by omega)
       simp at this
       omega
theorem rd_bound {l:List UInt8}{n k:Nat}(h:rd l=some (n,k)):n<2 ^ 64/\1<=k/\k<=l.length:=by
 have:=rdF_bound 10 0 0 l n k (by omega) (by simp) h
 omega
def fixL (k n:Nat):List UInt8:=(List.range k).map fun i=>UInt8.ofNat (n / 256 ^ (k - 1 - i))
def rfix (l:List UInt8):Nat:=l.foldl (fun a c=>256*a+c.toNat) 0
theorem fixL_length (k n:Nat):(fixL k n).length=k:=by simp[fixL]
theorem fixL_succ (k n:Nat):fixL (k+1) n=UInt8.ofNat (n / 256 ^ k)::fixL k n:=by
 unfold fixL
 rw[List.range_succ_eq_map,zK,List.map_map]
 simp only[Nat.add_sub_cancel,Nat.sub_zero,List.cons.injEq,true_and]
 apply List.map_congr_left
 intro i hi
 simp at hi
 simp only[Function.comp]
 rw[show k - (i+1)=k - 1 - i from by omega]
theorem rfix_acc (l:List UInt8)(a:Nat):l.foldl (fun a c=>256*a+c.toNat) a=a*256 ^ l.length+rfix l:=by
 induction l generalizing a with
 | nil=>simp[rfix]
 | cons c l ih =>
  rw[rfix,List.foldl_cons,List.foldl_cons,ih,ih (256*0+c.toNat),zN,Nat.pow_succ,Nat.add_mul,Nat.add_mul]
  rw[show 256*a*256 ^ l.length=a*(256 ^ l.length*256) from by rw[Nat.mul_comm 256 a,Nat.mul_assoc,Nat.mul_comm 256]]
  simp
  omega
theorem rfix_cons (c:UInt8)(l:List UInt8):rfix (c::l)=c.toNat*256 ^ l.length+rfix l:=by
 rw[rfix,List.foldl_cons,rfix_acc]
 simp
theorem rfix_lt (l:List UInt8):rfix l<256 ^ l.length:=by
 induction l with
 | nil=>simp[rfix]
 | cons c l ih =>
  rw[rfix_cons,zN,Nat.pow_succ]
  have h1:c.toNat<=255:=by have:=c.toNat_lt;omega
  have h2:c.toNat*256 ^ l.length<=255*256 ^ l.length:=Nat.mul_le_mul_right _ h1
  omega
theorem rfix_fixL (k n:Nat):rfix (fixL k n)=n % 256 ^ k:=by
 induction k with
 | zero=>simp[fixL,rfix,Nat.mod_one]
 | succ k ih =>
  rw[fixL_succ,rfix_cons,fixL_length,ih]
  have e:(UInt8.ofNat (n / 256 ^ k)).toNat=n / 256 ^ k % 256:=by simp[UInt8.toNat_ofNat']
  rw[e,Nat.pow_succ,Nat.mod_mul]
  rw[Nat.mul_comm (256 ^ k)]
  omega
def poly:Nat:=0xedb88320
def sh (x:Nat):Nat:=if x % 2=1 then (x / 2) ^^^ poly else x / 2
def shN:Nat->Nat->Nat
 | 0,x=>x
 | k+1,x=>shN k (sh x)
def stepC (s:Nat)(c:UInt8):Nat:=shN 8 (s ^^^ c.toNat)
def sumS (s:Nat)(l:List UInt8):Nat:=l.foldl stepC s
def sumL (l:List UInt8):Nat:=sumS 4294967295 l ^^^ 4294967295
theorem sh_bit (x i:Nat):(sh x).testBit i=(x.testBit (i+1) ^^ (x.testBit 0 && poly.testBit i)):=by
 unfold sh
 by_cases h:x % 2=1
 ·rw[if_pos h,Nat.testBit_xor,Nat.testBit_div_two]
  simp[Nat.testBit_zero,h]
 ·rw[if_neg h,Nat.testBit_div_two]
  simp[Nat.testBit_zero,h]
theorem sh_xor (x y:Nat):sh (x ^^^ y)=sh x ^^^ sh y:=by
 apply Nat.eq_of_testBit_eq
 intro i
 rw[sh_bit,Nat.testBit_xor,Nat.testBit_xor,Nat.testBit_xor,sh_bit,sh_bit]
 cases x.testBit (i+1)<;>cases y.testBit (i+1)<;>cases x.testBit 0<;>cases y.testBit 0<;>cases poly.testBit i<;>rfl
theorem shN_xor (k x y:Nat):shN k (x ^^^ y)=shN k x ^^^ shN k y:=by
 induction k generalizing x y with
 | zero=>rfl
 | succ k ih=>simp only[shN];rw[sh_xor,ih]
theorem sh_lt {x:Nat}(h:x<4294967296):sh x<4294967296:=by
 unfold sh
 split
 ·have:x / 2<2 ^ 32:=by omega
  have h2:poly<2 ^ 32:=by decide
  have:=Nat.xor_lt_two_pow this h2
  simpa using this
 ·omega
theorem shN_lt (k:Nat){x:Nat}(h:x<4294967296):shN k x<4294967296:=by
 induction k generalizing x with
 | zero=>exact h
 | succ k ih=>exact ih (sh_lt h)
theorem xor_lt32 {x y:Nat}(hx:x<4294967296)(hy:y<4294967296):x ^^^ y<4294967296:=by
 have:=Nat.xor_lt_two_pow (n:=32) (by simpa using hx) (by simpa using hy)
 simpa using this
theorem stepC_lt {s:Nat}(h:s<4294967296)(c:UInt8):stepC s c<4294967296 :=
 shN_lt 8 (xor_lt32 h (by have:=c.toNat_lt;omega))
theorem sumS_lt {s:Nat}(h:s<4294967296)(l:List UInt8):sumS s l<4294967296:=by
 induction l generalizing s with
 | nil=>exact h
 | cons c l ih=>exact ih (stepC_lt h c)
theorem sumL_lt (l:List UInt8):sumL l<4294967296:=xor_lt32 (sumS_lt (by omega) l) (by omega)
theorem shN_high (x:Nat)(k:Nat):shN k (x*2 ^ k)=x:=by
 induction k generalizing x with
 | zero=>simp[shN]
 | succ k ih =>
  simp only[shN]
  have h2:x*2 ^ (k+1)=2*(x*2 ^ k):=by rw[Nat.pow_succ];rw[<-Nat.mul_assoc];omega
  have:sh (x*2 ^ (k+1))=x*2 ^ k:=by
   unfold sh
   rw[if_neg (by omega)]
   omega
  rw[this,ih]
theorem stepC_table (s:Nat)(c:UInt8):stepC s c=(s / 256) ^^^ shN 8 ((s % 256) ^^^ c.toNat):=by
 unfold stepC
 have hs:s=(s / 256*2 ^ 8) ^^^ (s % 256):=by
  apply Nat.eq_of_testBit_eq
  intro i
  rw[Nat.testBit_xor,show (256:Nat)=2 ^ 8 from rfl,Nat.testBit_mod_two_pow,Nat.testBit_mul_two_pow,Nat.testBit_div_two_pow]
  by_cases h:i<8
  ·have h8:¬ 8<=i:=by omega
   simp[h,h8]
  ·have h8:8<=i:=by omega
   have e:i - 8+8=i:=by omega
   simp[h,h8,e]
 conv=>lhs;rw[hs,Nat.xor_assoc,shN_xor,shN_high]
theorem sumS_append (s:Nat)(a b:List UInt8):sumS s (a++b)=sumS (sumS s a) b:=by simp[sumS,List.foldl_append]
end Lou
namespace Go.Proofs.YtnlimngkagmjpaaGreat
open Go Go.RowKit
@[reducible] def b8 (c:UInt8):Value:=.int .u8 (c.toNat:Int)
theorem inf_u8:(Tryz.prog.info? 5).map (fun i=>(i.zero,i.size,i.bytes))=some (some (.int .u8 0),1,1):=by kernel_rfl
def OwnB (w:World)(base:Nat)(v:Value)(l:List UInt8):Prop:=w.ownsRow base 5 1 v l.length (l.map b8)
def GivesB (w0:World)(l:List UInt8)(e:Ending)(w':World):Prop :=
 ∃v,e = .returned v/\OwnB w' w0.heap.size v l/\Below w0.heap.size w0 w'
theorem OwnB.nil (w:World)(base:Nat):OwnB w base (.slice none 0 0) []:=World.ownsRow_nil _ _ _ _
theorem OwnB.form {w:World}{base:Nat}{v:Value}{l:List UInt8}(h:OwnB w base v l) :
  (v = .slice none 0 0/\l=[])∨∃g cap,v = .slice (some ⟨g,0,none⟩) l.length cap/\base<=g/\g<w.heap.size/\l.length<=cap:=by
 rcases h.2 with⟨h1,h2⟩|⟨g,cap,cur,hv,hb,hg,hle,_⟩
 ·exact .inl ⟨h1,qF h2⟩
 ·exact .inr ⟨g,cap,hv,hb,(zH.1 hg).1,hle⟩
structure InB (w:World)(B:Nat)(A:Option Addr)(c:Nat)(l:List UInt8):Prop where
 le:l.length<=c
 max:c<=9223372036854775807
 nil:A=none->c=0
 lies:0<l.length->∃g o,A=some ⟨g,o,none⟩/\g<B/\∀j (h:j<l.length),w.cell? ⟨g,o+j,none⟩=some (.int .u8 (l[j].toNat:Int))
theorem InB.keep {w w':World}{B:Nat}{A:Option Addr}{c:Nat}{l:List UInt8}(h:InB w B A c l)(hk:∀p:Addr,p.block<B->w'.cell? p=w.cell? p):InB w' B A c l :=
 ⟨h.le,h.max,h.nil,fun hl=>by
  obtain⟨g,o,hA,hg,hc⟩:=h.lies hl
  exact⟨g,o,hA,hg,fun j hj=>(hk _ hg).trans (hc j hj)⟩⟩
theorem InB.below {w w':World}{B:Nat}{A:Option Addr}{c:Nat}{l:List UInt8}(h:InB w B A c l)(hb:Below B w w'):InB w' B A c l:=h.keep fun _ hp=>hb.cell hp
theorem InB.drew {w:World}{B:Nat}{A:Option Addr}{c:Nat}{l:List UInt8}(h:InB w B A c l):InB w.drew B A c l:=⟨h.le,h.max,h.nil,h.lies⟩
theorem InB.more {w:World}{B B':Nat}{A:Option Addr}{c:Nat}{l:List UInt8}(h:InB w B A c l)(hB:B<=B'):InB w B' A c l :=
 ⟨h.le,h.max,h.nil,fun hl=>by
  obtain⟨g,o,hA,hg,hc⟩:=h.lies hl
  exact⟨g,o,hA,by omega,hc⟩⟩
theorem OwnB.inB {w:World}{base:Nat}{v:Value}{l:List UInt8}(h:OwnB w base v l):∃A c,v = .slice A l.length c/\InB w w.heap.size A c l:=by
 rcases h.2 with⟨h1,h2⟩|⟨g,cap,cur,hv,hb,hg,hle,hm,hs,ht⟩
 ·obtain rfl:=qF h2
  exact⟨none,0,h1,by simp,by omega,fun _=>rfl,fun h=>by simp at h⟩
 ·refine⟨_,cap,hv,hle,by unfold maxLen at hm;omega,fun h=>by simp at h,fun _=>⟨g,0,rfl,(zH.1 hg).1,fun j hj => ?_⟩⟩
  rw[qK,cell_of_row w g j cur _ (0,0) hg]
  have:=congrArg (fun x=>x[j]?) ht
  simp only[List.getElem?_take,List.getElem?_map,zI hj,Option.map_some] at this
  rw[if_pos (by omega)] at this
  simpa using this
def cutA (A:Option Addr)(c n:Nat):Option Addr:=if c=n then A else A.map (·.add n)
theorem InB.drop {w:World}{B:Nat}{A:Option Addr}{c:Nat}{l:List UInt8}(h:InB w B A c l)(n:Nat)(hn:n<=l.length):InB w B (cutA A c n) (c - n) (l.drop n):=by
 have h1:=h.le
 have h2:=h.max
 refine⟨by simp;omega,by omega,?_,?_⟩
 ·intro hA
  unfold cutA at hA
  split at hA
  ·omega
  ·have:=h.nil (by simpa using hA);omega
 ·intro hl
  simp at hl
  obtain⟨g,o,rfl,hg,hc⟩:=h.lies (by omega)
  refine⟨g,o+n,?_,hg,?_⟩
  ·unfold cutA
   rw[if_neg (by omega)]
   by_cases hz:n=0<;>simp[Addr.add,hz]
  ·intro j hj
   simp at hj
   have:=hc (n+j) (by omega)
   rw[Nat.add_assoc,this]
   simp
theorem InB.take {w:World}{B:Nat}{A:Option Addr}{c:Nat}{l:List UInt8}(h:InB w B A c l)(n:Nat)(c':Nat)(hn:n<=l.length)(hc:n<=c')(hc':c'<=c):InB w B A c' (l.take n):=by
 have h1:=h.le
 have h2:=h.max
 refine⟨by simp;omega,by omega,fun hA=>by have:=h.nil hA;omega,?_⟩
 intro hl
 simp at hl
 obtain⟨g,o,rfl,hg,hcell⟩:=h.lies (by omega)
 refine⟨g,o,rfl,hg,fun j hj => ?_⟩
 simp at hj
 rw[hcell j (by omega)]
 simp
section
variable {w:World}{ops:Array Oper}{rest:List Oper}{o:Oper}{a:Act}{Q:Exit->Act->World->Prop}
theorem wp_appB (hg:o.guard=none)(s x:Operand)(ho:o.op = .call { callee:=.builtin .append,args:=#[s,x],argTypes:=#[22,22] })
  (base:Nat) (v:Value) (l:List UInt8) (hs:a.eval s=v) (hown:OwnB w base v l) (B:Nat) (A:Option Addr) (c:Nat) (l2:List UInt8) (hx:a.eval x = .slice A l2.length c) (hin:InB w B A c l2)
  (hbytes:l.length+l2.length<=140737488355328) (hbase:base<=w.heap.size)
  (h:∀v' w',OwnB w' base v' (l++l2)->w.grownBy w' v.ownBlock->wpList Tryz.prog ops Q rest (a.put o.dst v') w'):wpList Tryz.prog ops Q (o::rest) a w:=by
 obtain⟨i0,hi,hz0,hz1,hz2⟩:=info_parts inf_u8
 have hle:=hin.le
 rcases A with _|ad
 ·have hc0:=hin.nil rfl
  obtain rfl:l2=[]:=qF (by omega)
  subst hc0
  refine wpList_append_own_none (w:=w) hg s x _ ho base _ i0 1 Tryz.underlying22 hi v l.length (l.map b8) hs hown hx ?_
  exact h v w (by rw[List.append_nil];exact hown) (World.grownBy.refl _ _)
 ·have hnews:∀j u,(l2.map b8)[j]? = some u->w.cell? (ad.add j)=some u:=by
   intro j u hu
   have hj:j<l2.length:=by
    rcases Nat.lt_or_ge j l2.length with h|h
    ·exact h
    ·rw[List.getElem?_eq_none (by simpa using h)] at hu;cases hu
   obtain⟨g,o',hA,_,hc⟩:=hin.lies (by omega)
   obtain rfl:ad=⟨g,o',none⟩:=by simpa using hA
   have e:(⟨g,o',none⟩:Addr).add j=⟨g,o'+j,none⟩:=by unfold Addr.add;split<;>simp_all
   rw[e,hc j hj]
   simpa[hj,b8] using hu
  refine wpList_append_own w hg s x _ ho base _ i0 (.int .u8 0) 1 1 Tryz.underlying22 hi hz0 hz1 hz2 rfl (by decide) v l.length (l.map b8) hs hown ad l2.length c (l2.map b8) hx (by simp) hnews (by simp[b8,Value.oneCell']) (by unfold maxLen;omega) (by omega) hbase ?_
  intro v' w' hown' hgrow _
  refine h v' w' ?_ hgrow
  unfold OwnB
  simpa using hown'
theorem wp_makeB (hg:o.guard=none)(x y:Operand)(ho:o.op=Op.makeSlice 22 x y)(base:Nat)(kl kc:IntKind)(n:Nat)(hx:a.eval x = .int kl (n:Int))(hy:a.eval y = .int kc (n:Int))
  (hn:n<=140737488355328) (hbase:base<=w.heap.size)
  (h:∀w',OwnB w' base (.slice (some ⟨w.heap.size,0,none⟩) n n) (zR n 0)->w.grownBy w' none->wpList Tryz.prog ops Q rest (a.put o.dst (.slice (some ⟨w.heap.size,0,none⟩) n n)) w'):wpList Tryz.prog ops Q (o::rest) a w:=by
 obtain⟨i0,hi,hz0,hz1,hz2⟩:=info_parts inf_u8
 refine wpList_make_full w hg x y _ ho base _ i0 (.int .u8 0) 1 Tryz.underlying22 hi hz0 hz1 kl kc n n n hx hy rfl rfl (by rw[hz2];omega) (by unfold maxLen;omega) hbase ?_
 intro w' hown hgrow
 refine h w' ?_ hgrow
 have e:(madeCells (Value.int .u8 0).cells (n*1)).toList=(zR n (0:UInt8)).map b8:=by
  rw[Nat.mul_one,show (Value.int .u8 0).cells=#[.int .u8 0] from rfl,toList_madeCells_one]
  simp[b8]
 rw[e] at hown
 unfold OwnB
 simpa using hown
end
theorem OwnB.set {w:World}{base g n cap:Nat}{l:List UInt8}(h:OwnB w base (.slice (some ⟨g,0,none⟩) n cap) l)(j x:Nat)(hx:x<256) :
  OwnB (w.setCell ⟨g,j,none⟩ (.int .u8 (x:Int))) base (.slice (some ⟨g,0,none⟩) n cap) (l.set j (UInt8.ofNat x)):=by
 rcases h.form with⟨h1,_⟩|⟨g',cap',h1,_,_,_⟩
 ·cases h1
 ·injection h1 with h2 h3 h4
  subst h3
  have:=(World.ownsRow.stored (w:=w) h j (.int .u8 (x:Int))).1
  unfold OwnB
  rw[List.length_set,List.map_set]
  have e:b8 (UInt8.ofNat x) = .int .u8 (x:Int):=by simp[b8];omega
  rw[e]
  exact this
theorem OwnB.cell {w:World}{base g n cap:Nat}{l:List UInt8}(h:OwnB w base (.slice (some ⟨g,0,none⟩) n cap) l)(j:Nat)(hj:j<l.length):w.cell? ⟨g,j,none⟩=some (.int .u8 (l[j].toNat:Int)):=by
 rcases h.form with⟨h1,_⟩|⟨g',cap',h1,_,_,_⟩
 ·cases h1
 ·injection h1 with h2 h3 h4
  subst h3
  have:=World.ownsRow.cellAt (w:=w) h j (by omega)
  rw[this]
  simp[b8,hj]
theorem OwnB.free {w:World}{base g n cap:Nat}{l:List UInt8}(h:OwnB w base (.slice (some ⟨g,0,none⟩) n cap) l)(j:Nat):w.frozen? ⟨g,j,none⟩=false:=by
 rcases h.form with⟨h1,_⟩|⟨g',cap',h1,_,_,_⟩
 ·cases h1
 ·injection h1 with h2 h3 h4
  subst h3
  exact World.ownsRow.frozenAt (w:=w) h j
def BlkIs (w:World)(g:Nat)(t:TypeId)(cs:Array Value):Prop:=w.heap[g]? = some (.cells cs t (0,0))
section
variable {w w':World}{g:Nat}{t:TypeId}{cs:Array Value}
theorem BlkIs.lt (h:BlkIs w g t cs):g<w.heap.size:=(zH.1 h).1
theorem BlkIs.cell (h:BlkIs w g t cs)(i:Nat):w.cell? ⟨g,i,none⟩=cs[i]?:=cell_of_row w g i cs t (0,0) h
theorem BlkIs.free (h:BlkIs w g t cs)(i:Nat):w.frozen? ⟨g,i,none⟩=false:=by
 unfold BlkIs at h
 simp[World.frozen?,h]
theorem BlkIs.set (h:BlkIs w g t cs)(i:Nat)(u:Value):BlkIs (w.setCell ⟨g,i,none⟩ u) g t (cs.setIfInBounds i u):=by
 unfold BlkIs at h ⊢
 simp[World.setCell,Array.getElem?_modify,h]
theorem BlkIs.other (h:BlkIs w g t cs){p:Addr}(hp:g≠p.block)(u:Value):BlkIs (w.setCell p u) g t cs:=(Below.heap_setCell w p u g hp).trans h
theorem BlkIs.drew (h:BlkIs w g t cs):BlkIs w.drew g t cs:=h
theorem BlkIs.alloc (h:BlkIs w g t cs)(o:Obj):BlkIs (w.alloc o) g t cs:=(Below.heap_alloc w o g h.lt).trans h
theorem BlkIs.new (w:World)(t:TypeId)(cs:Array Value):BlkIs (w.alloc (.cells cs t)) w.heap.size t cs:=heap_alloc_new w _
theorem BlkIs.below {B:Nat}(h:BlkIs w g t cs)(hb:Below B w w')(hg:g<B):BlkIs w' g t cs:=(hb.block g hg).trans h
theorem BlkIs.grown {row:Option Nat}(h:BlkIs w g t cs)(hb:w.grownBy w' row)(hg:some g≠row):BlkIs w' g t cs:=(hb.block g h.lt hg).trans h
end
theorem BlkIs.inB {w:World}{g:Nat}{l:List UInt8}(h:BlkIs w g 5 (l.map b8).toArray)(B:Nat)(hB:g<B)(hm:l.length<=9223372036854775807):InB w B (some ⟨g,0,none⟩) l.length l :=
 ⟨zG _,hm,(fun h=>by cases h),fun _=>⟨g,0,rfl,hB,fun j hj=>by
  rw[h.cell,qK]
  simp[hj,b8]⟩⟩
theorem grownBy_set (w:World)(b i:Nat)(v:Value):w.grownBy (w.setCell ⟨b,i,none⟩ v) (some b) :=
 ⟨rfl,rfl,rfl,by simp[World.setCell],fun k _ hk=>Below.heap_setCell _ _ _ k (fun e=>hk (by rw[e]))⟩
theorem grownBy_trans {a b c:World}{row:Option Nat}(h:a.grownBy b row)(k:b.grownBy c row):a.grownBy c row :=
 ⟨k.os.trans h.os,k.tape.trans h.tape,k.output.trans h.output,zP h.size k.size,fun i hi hr=>(k.block i (zO hi h.size) hr).trans (h.block i hi hr)⟩
theorem grownBy_drew (w:World)(row:Option Nat):w.grownBy w.drew row:=⟨rfl,rfl,rfl,zG _,fun _ _ _=>rfl⟩
theorem new_cell (w:World)(v:Value)(t:TypeId):(w.alloc (.cells #[v] t)).cell? ⟨w.heap.size,0,none⟩=some v:=by
 simp
theorem new_free (w:World)(c:Array Value)(t:TypeId)(i:Nat):(w.alloc (.cells c t)).frozen? ⟨w.heap.size,i,none⟩=false:=by
 unfold World.frozen?
 rw[heap_alloc_new]
 simp
end Go.Proofs.YtnlimngkagmjpaaGreat
namespace Go.Proofs.YtnlimngkagmjpaaGreat
open Go Go.RowKit Lou

end Go.Proofs.YtnlimngkagmjpaaGreat
namespace Go.Proofs.YtnlimngkagmjpaaGreat
open Go Lou Go.ChangeShapes Go.WideShapes Go.ChangeAt Go.RowKit
section
variable {H:Type}{enc:TypeId×Value->H}{W:World}{r:Reach}{b0 b1:Nat}{spare:Nat->Bool}{held:Bool}{v:Value}{d:DataW H}{p:List MemPlace}
theorem open_struct {T:TypeId}{fs:Array Field}(hu:Tryz.prog.underlying T=some (.struct fs))(hval:Value.okWide Tryz.prog W r b0 T v)(h:DataW.Trod enc Tryz.prog W b1 spare held T v d p) :
  ∃cs:List Value,v = .agg cs.toArray/\cs.length=Tryz.prog.cellsOf T/\∀(i:Nat) (f:Field),fs[i]? = some f->∃n x,DataW.trod enc Tryz.prog W b1 spare held n f.type ((cs.drop f.offset).take (Tryz.prog.cellsOf f.type))=some x:=by
 unfold Value.okWide at hval
 rw[hu] at hval
 obtain⟨cs,rfl,hsz,_⟩:=hval
 obtain⟨fuel,hf⟩:=h
 obtain⟨xs,m,_,_,_,hl,hi⟩:=DataW.trod_struct hu hf
 refine⟨cs.toList,by simp,by simpa using hsz,fun i f hif => ?_⟩
 have e:=hi i f hif
 have hlt:i<xs.length:=by rw[hl];exact(zH.1 hif).1
 rw[zI hlt] at e
 exact⟨m,_,e⟩
theorem one_int {T:TypeId}{k:IntKind}{n:Nat}{c:Value}{l:List Value}{x:DataW H×List MemPlace}(hu:Tryz.prog.underlying T=some (.int k))(hc:Tryz.prog.cellsOf T=1)(h:DataW.trod enc Tryz.prog W b1 spare held n T ((c::l).take (Tryz.prog.cellsOf T))=some x):∃z,c = .int k z/\(Lit.int k z).wf=true:=by
 rw[hc] at h
 obtain⟨z,g,_,q⟩:=DataW.trod_int hu h
 simp at g
 exact⟨z,g,q⟩
theorem open_plan (hval:Value.okWide Tryz.prog W r b0 25 v)(h:DataW.Trod enc Tryz.prog W b1 spare held 25 v d p):∃x0 x1:Int,v = .agg #[.int .i64 x0,.int .i64 x1]:=by
 obtain⟨cs,rfl,hl,hi⟩:=open_struct Tryz.underlying25 hval h
 have h2:Tryz.prog.cellsOf 25=2:=by kernel_rfl
 rw[h2] at hl
 match cs,hl with
 | [c0,c1],_ =>
  obtain⟨_,_,e0⟩:=hi 0 _ rfl
  obtain⟨_,_,e1⟩:=hi 1 _ rfl
  obtain⟨x0,rfl,_⟩:=one_int Tryz.underlying3 (by kernel_rfl) e0
  obtain⟨x1,rfl,_⟩:=one_int Tryz.underlying3 (by kernel_rfl) e1
  exact⟨x0,x1,rfl⟩
end
end Go.Proofs.YtnlimngkagmjpaaGreat
namespace Go.Proofs.YtnlimngkagmjpaaGreat
open Go Go.RowKit Lou
theorem map_snoc_b8 (l:List UInt8)(n:Nat)(h:n<256):l.map b8++[.int .u8 (n:Int)]=(l++[UInt8.ofNat n]).map b8:=by
 simp[b8];omega
theorem disable (w:World):(callFunc 255 #[]).run Tryz.prog w = .ok (.value (.tuple #[])) w:=run_call_mark0 Tryz.func255 (by kernel_rfl) (by kernel_rfl) (by kernel_rfl) .disable (by kernel_rfl) w
theorem enable (w:World):(callFunc 257 #[]).run Tryz.prog w = .ok (.value (.tuple #[])) w:=run_call_mark0 Tryz.func257 (by kernel_rfl) (by kernel_rfl) (by kernel_rfl) .enable (by kernel_rfl) w
theorem acquire (a:Addr)(w:World):(callFunc 258 #[.pointer (some a)]).run Tryz.prog w = .ok (.value (.tuple #[])) w:=run_call_marked Tryz.func258 (by kernel_rfl) (by kernel_rfl) (by kernel_rfl) .acquire (by kernel_rfl) a w
theorem releaseMerge (a:Addr)(w:World):(callFunc 260 #[.pointer (some a)]).run Tryz.prog w = .ok (.value (.tuple #[])) w:=run_call_marked Tryz.func260 (by kernel_rfl) (by kernel_rfl) (by kernel_rfl) .releaseMerge (by kernel_rfl) a w
theorem store_deferred (a:Addr)(x:Value)(u:FrameMode)(w:World)(hc:w.cell? a=some x)(hz:w.frozen? a=false) :
  CallsD Tryz.prog 250 #[.pointer (some a),.bool true] u w fun e u' w'=>u'=u/\(e = .returned (.tuple #[])/\w'=w.drew.setCell a (.int .u32 1)):=by
 have hc':w.drew.cell? a=some x:=by go_simp
 have hz':w.drew.frozen? a=false:=by go_simp
 have hst:=run_call_store (P:=Tryz.prog) Tryz.func253 (by kernel_rfl) (by kernel_rfl) (by kernel_rfl) (by kernel_rfl) (k:=.u32) (y:=1) hc' hz'
 go_enter_d Tryz.func250,Tryz.ntmps250
 go_wp2
 go_region_calls
 all_goals (go_end0;exact⟨rfl,rfl⟩)
theorem unlock_deferred (a:Addr)(u:FrameMode)(w:World)(hc:w.cell? a=some (.int .i32 1))(hz:w.frozen? a=false) :
  CallsD Tryz.prog 249 #[.pointer (some a)] u w fun e u' w'=>u'=u/\(e = .returned (.tuple #[])/\w'=w.setCell a (.int .i32 0)):=by
 have hd:=disable
 have he:=enable
 have hr:=releaseMerge
 have hadd:=run_call_add (P:=Tryz.prog) Tryz.func261 (by kernel_rfl) (by kernel_rfl) (by kernel_rfl) .i32 (by kernel_rfl) (y:=-1) (s:=0) hc hz (by simp[go_sem];rfl)
 have hcv:=run_convert_to_unsafe (P:=Tryz.prog) (src:=320) (dst:=324) Tryz.underlying320 Tryz.underlying324 (by kernel_rfl) hc
 go_enter_d Tryz.func249,Tryz.ntmps249
 go_wp2
 go_end0
 go_wp2
 go_end0
 exact⟨rfl,rfl⟩
theorem lock_free (a:Addr)(w:World)(hc:w.cell? a=some (.int .i32 0))(hz:w.frozen? a=false) :
  Calls Tryz.prog 248 #[.pointer (some a)] w fun e w'=>e = .returned (.tuple #[])/\w'=w.setCell a (.int .i32 1):=by
 have hd:=disable
 have he:=enable
 have ha:=acquire
 have hcas:=run_call_cas_hit (P:=Tryz.prog) Tryz.func256 (by kernel_rfl) (by kernel_rfl) (by kernel_rfl) .i32 (by kernel_rfl) (y:=1) hc hz
 have hc':(w.setCell a (.int .i32 1)).cell? a=some (.int .i32 1):=World.cell?_setCell_same w a _ hc
 have hcv:=run_convert_to_unsafe (P:=Tryz.prog) (src:=320) (dst:=324) Tryz.underlying320 Tryz.underlying324 (by kernel_rfl) hc'
 go_enter Tryz.func248,Tryz.ntmps248
 go_wp2
 first|go_end0|(simp only[Exit.inBlock,Exit.then];refine bodyPost_ret (results_none rfl _ _ _) rfl ?_)|refine bodyPost_ret (results_none rfl _ _ _) rfl ?_
 go_wp2
 go_end0
 exact⟨rfl,rfl⟩
theorem bool_load (a:Addr)(d:Nat)(w:World)(hc:w.cell? a=some (.int .u32 d)) :
  Calls Tryz.prog 244 #[.pointer (some a)] w fun e w'=>e = .returned (.bool ((d:Int) != 0))/\w=w':=by
 have hl:=run_call_load (P:=Tryz.prog) Tryz.func247 (by kernel_rfl) (by kernel_rfl) (by kernel_rfl) .u32 (by kernel_rfl) hc
 go_enter Tryz.func244,Tryz.ntmps244
 go_wp2
 go_ret
 exact⟨rfl,rfl⟩
theorem int64_add (b o k:Nat)(hk:k<=1000000)(w:World)(hc:w.cell? ⟨b,o,none⟩=some (.int .i64 k))(hz:w.frozen? ⟨b,o,none⟩=false) :
  Calls Tryz.prog 71 #[.pointer (some ⟨b,o,none⟩),.int .i64 1] w fun e w'=>e = .returned (.int .i64 ((k:Int)+1))/\w.setCell ⟨b,o,none⟩ (.int .i64 ((k:Int)+1))=w':=by
 have hadd:=run_call_add (P:=Tryz.prog) Tryz.func120 (by kernel_rfl) (by kernel_rfl) (by kernel_rfl) .i64 (by kernel_rfl) (y:=1) (s:=(k:Int)+1) hc hz (by
  have:=IntWalk.i64_in ((k:Int)+1) (by omega)
  simp[go_sem,this])
 go_enter Tryz.func71,Tryz.ntmps71
 go_wp2
 go_ret
 exact⟨rfl,rfl⟩
theorem sh_odd {y:Nat}(h:y % 2=1):sh y=(y / 2) ^^^ poly:=by unfold sh;rw[if_pos h]
theorem sh_even {y:Nat}(h:¬ y % 2=1):sh y=y / 2:=by unfold sh;rw[if_neg h]
theorem xor_poly {y:Nat}(hy:y<4294967296):bits .xor .u32 ((y:Int) / 2) 3988292384=((y / 2 ^^^ poly:Nat):Int):=u32_xor_nat (y / 2) 3988292384 (by omega) (by omega)
theorem xor_inv {x:Nat}(hx:x<4294967296):bits .xor .u32 IntKind.u32.max (x:Int)=((x ^^^ 4294967295:Nat):Int):=by
 have e:IntKind.u32.max=((4294967295:Nat):Int):=rfl
 rw[e,u32_xor_nat _ _ (by omega) hx,Nat.xor_comm]
structure TabTo (cs0:Array Value)(k:Nat)(cs:Array Value):Prop where
 size:cs.size=260
 c0:cs[0]? = cs0[0]?
 c1:cs[1]? = cs0[1]?
 c2:cs[2]? = cs0[2]?
 many:cs[3]? = some (.int .i64 (k:Int))
 to:∀j,j<k->cs[4+j]? = some (.int .u32 (shN 8 j:Int))
theorem TabTo.next {cs0 cs:Array Value}{k:Nat}(h:TabTo cs0 k cs)(hk:k<256) :
  TabTo cs0 (k+1) ((cs.setIfInBounds (4+k) (.int .u32 (shN 8 k:Int))).setIfInBounds 3 (.int .i64 ((k:Int)+1))):=by
 have hs:=h.size
 refine⟨by simp[hs],?_,?_,?_,?_,?_⟩
 ·rw[zM,if_neg (by omega),zM,if_neg (by omega)];exact h.c0
 ·rw[zM,if_neg (by omega),zM,if_neg (by omega)];exact h.c1
 ·rw[zM,if_neg (by omega),zM,if_neg (by omega)];exact h.c2
 ·simp[hs]
 ·intro j hj
  rw[zM,if_neg (by omega),zM]
  by_cases e:j=k
  ·subst e;rw[if_pos rfl,if_pos (by omega)]
  ·rw[if_neg (by omega)];exact h.to j (by omega)
theorem and_one {y:Nat}(hy:y<4294967296):bits .and .u32 (y:Int) 1=((y % 2:Nat):Int):=by
 have:=u32_and_nat y 1 hy (by omega)
 rw[Nat.and_one_is_mod] at this
 exact this
theorem make_gives (b:Nat)(cs0:Array Value)(w:World)(hb:BlkIs w b 281 cs0)(h0:TabTo cs0 0 cs0) :
  Calls Tryz.prog 235 #[.pointer (some ⟨b,0,none⟩)] w fun e w'=>e = .returned (.tuple #[])/\(∃cs,BlkIs w' b 281 cs/\TabTo cs0 256 cs)/\w.grownBy w' (some b):=by
 go_enter Tryz.func235,Tryz.ntmps235
 go_wp2_with fail
 go_loopw [5] (fun i wr=>∃(k:Nat) (cs:Array Value),k<=256/\i = .int .i64 k/\Hid (BlkIs wr b 281 cs/\TabTo cs0 k cs)/\w.grownBy wr (some b)) (fun i _=>256 - (intOf i).toNat)
 case atStart=>exact⟨0,cs0,by omega,rfl,Lib.hid ⟨hb,h0⟩,World.grownBy.refl _ _⟩
 case round =>
  obtain⟨k,cs,hk,rfl,hT,hg⟩:=hrel
  by_cases hlt:k<256
  ·have hsz:=hT.out.2.size
   have hgetold:∃u,cs[4+k]? = some u:=⟨cs[4+k]'(by omega),Array.getElem?_eq_getElem (by omega)⟩
   obtain⟨u,hu⟩:=hgetold
   have hc4:wr.cell? ⟨b,4+k,none⟩=some u:=(hT.out.1.cell _).trans hu
   have hf4:wr.frozen? ⟨b,4+k,none⟩=false:=hT.out.1.free _
   clear hsz hu
   go_wp2_with fail
   go_loop [3,10] (fun s i=>∃j y:Nat,j<=8/\i = .int .i64 j/\y<4294967296/\s = .int .u32 y/\Hid (shN (8 - j) y=shN 8 k)) (fun _ i=>8 - (intOf i).toNat)
   case atStart=>exact⟨0,k,by omega,rfl,by omega,rfl,Lib.hid rfl⟩
   case round =>
    obtain⟨j,y,hj,rfl,hyl,rfl,hY⟩:=hrel
    by_cases hj8:j<8
    ·have hn:Hid (shN (8 - (j+1)) (sh y)=shN 8 k):=by
      have:=hY.out
      rw[show 8 - j=(8 - (j+1))+1 from by omega] at this
      exact Lib.hid this
     have hlt2:=sh_lt hyl
     have hand:=and_one hyl
     clear hY
     by_cases hod:y % 2=1
     ·have hs:Hid (sh y=(y / 2) ^^^ poly):=Lib.hid (sh_odd hod)
      have hb1:((((y % 2:Nat):Int)) == 1)=true:=by rw[beq_iff_eq];omega
      have hx2:=xor_poly hyl
      clear hod
      go_wp2_with fail
      exact⟨⟨j+1,sh y,by omega,by go_num,hlt2,by rw[hs.out],hn⟩,by simp[intOf];omega⟩
     ·have hs:Hid (sh y=y / 2):=Lib.hid (sh_even hod)
      have hb1:((((y % 2:Nat):Int)) == 1)=false:=by rw[beq_eq_false_iff_ne];omega
      clear hod
      go_wp2_with fail
      exact⟨⟨j+1,sh y,by omega,by go_num,hlt2,by rw[hs.out];go_num,hn⟩,by simp[intOf];omega⟩
    ·have hn:Hid (y=shN 8 k):=by
      have:=hY.out
      rw[show 8 - j=0 from by omega] at this
      exact Lib.hid this
     clear hY
     have hb4:=hT.out.1.set (4+k) (.int .u32 (y:Int))
     have hc3:(wr.setCell ⟨b,4+k,none⟩ (.int .u32 (y:Int))).cell? ⟨b,3,none⟩=some (.int .i64 (k:Int)):=by
      rw[hb4.cell,zM,if_neg (by omega)]
      exact hT.out.2.many
     have hf3:=hb4.free 3
     go_wp2_with (go_at_call 71;refine(int64_add b 3 k (by omega) _ hc3 hf3).mono ?_;rintro e w' ⟨rfl,rfl⟩)
     refine⟨⟨k+1,_,by omega,by go_num,Lib.hid ⟨hb4.set 3 _,?_⟩,grownBy_trans hg (grownBy_trans (grownBy_set _ _ _ _) (grownBy_set _ _ _ _))⟩,by simp[intOf];omega⟩
     rw[hn.out]
     exact hT.out.2.next hlt
  ·obtain rfl:k=256:=by omega
   go_wp2_with fail
   go_end0
   exact⟨rfl,⟨cs,hT.out⟩,hg⟩
structure TabOk (d:Nat)(cs:Array Value):Prop where
 size:cs.size=260
 c0:cs[0]? = some (.int .u32 (d:Int))
 c1:cs[1]? = some (.int .i32 0)
 dd:d=0∨d=1
 many:d=0->cs[3]? = some (.int .i64 0)
 to:d=1->∀j,j<256->cs[4+j]? = some (.int .u32 (shN 8 j:Int))
theorem doSlow_gives (b:Nat)(cs0:Array Value)(w:World)(hb:BlkIs w b 281 cs0)(h0:TabOk 0 cs0) :
  Calls Tryz.prog 245 #[.pointer (some ⟨b,0,none⟩),.func (.func 235) #[.pointer (some ⟨b,0,none⟩)] #[]] w fun e w' =>
   e = .returned (.tuple #[])/\(∃cs,BlkIs w' b 281 cs/\TabOk 1 cs)/\w.grownBy w' (some b):=by
 have hc1:w.cell? ⟨b,1,none⟩=some (.int .i32 0):=(hb.cell 1).trans h0.c1
 have hf1:=hb.free 1
 have hb1:=hb.set 1 (.int .i32 1)
 have hc0:(w.setCell ⟨b,1,none⟩ (.int .i32 1)).cell? ⟨b,0,none⟩=some (.int .u32 ((0:Nat):Int)):=by
  rw[hb1.cell,zM,if_neg (by omega)]
  exact h0.c0
 have hsz:=h0.size
 have ht0:TabTo (cs0.setIfInBounds 1 (.int .i32 1)) 0 (cs0.setIfInBounds 1 (.int .i32 1)):=⟨by simp[hsz],rfl,rfl,rfl,by
  rw[zM,if_neg (by omega)]
  exact h0.many rfl,fun j hj=>by omega⟩
 have hM:=make_gives b _ _ hb1 ht0
 have hbd:(((0:Nat):Int) != 0)=false:=by decide
 clear ht0 hb1
 go_enter_defers Tryz.func245,Tryz.ntmps245
 go_wp2_with (first
  | (go_at_call 248;refine(lock_free ⟨b,1,none⟩ _ hc1 hf1).mono ?_;rintro e w' ⟨rfl,rfl⟩)
  | (go_at_call 244;refine(bool_load ⟨b,0,none⟩ 0 _ hc0).mono ?_;rintro e w' ⟨rfl,rfl⟩)
  | (go_at_call 235;refine hM.mono ?_;rintro e w1 ⟨rfl,⟨cs1,hb1,ht1⟩,hg1⟩))
 have hs1:=ht1.size
 have e0:cs1[0]? = some (.int .u32 ((0:Nat):Int)):=by rw[ht1.c0,zM,if_neg (by omega)];exact h0.c0
 have e1:cs1[1]? = some (.int .i32 1):=by rw[ht1.c1,zM,if_pos rfl,if_pos (by omega)]
 have hb2:=hb1.drew.set 0 (.int .u32 1)
 have hb3:=hb2.set 1 (.int .i32 0)
 refine leaves_cons (f:=250) (args:=#[.pointer (some ⟨b,0,none⟩),.bool true]) (by simp) (by simp[go_sem]) ?_
 refine(store_deferred ⟨b,0,none⟩ (.int .u32 0) .returning _ ((hb1.cell 0).trans e0) (hb1.free 0)).mono ?_
 rintro e u' w'' ⟨rfl,rfl,rfl⟩
 refine leaves_cons (f:=249) (args:=#[.pointer (some ⟨b,1,none⟩)]) (by simp[settle]) (by simp[go_sem]) ?_
 refine(unlock_deferred ⟨b,1,none⟩ _ _ (by rw[hb2.cell,zM,if_neg (by omega)];exact e1) (hb2.free 1)).mono ?_
 rintro e u' w'' ⟨rfl,rfl,rfl⟩
 have hfin:(∃cs,BlkIs ((w1.drew.setCell ⟨b,0,none⟩ (.int .u32 1)).setCell ⟨b,1,none⟩ (.int .i32 0)) b 281 cs/\TabOk 1 cs)/\w.grownBy ((w1.drew.setCell ⟨b,0,none⟩ (.int .u32 1)).setCell ⟨b,1,none⟩ (.int .i32 0)) (some b):=by
  refine⟨⟨_,hb3,⟨by simp[hs1],?_,?_,.inr rfl,fun h=>by omega,fun _ j hj => ?_⟩⟩,?_⟩
  ·rw[zM,if_neg (by omega),zM,if_pos rfl,if_pos (by omega)];rfl
  ·rw[zM,if_pos rfl,if_pos (by simp;omega)]
  ·rw[zM,if_neg (by omega),zM,if_neg (by omega)];exact ht1.to j hj
  ·exact grownBy_trans (grownBy_set _ _ _ _) (grownBy_trans hg1 (grownBy_trans (grownBy_drew _ _) (grownBy_trans (grownBy_set _ _ _ _) (grownBy_set _ _ _ _))))
 have hH:=Lib.hid hfin
 clear hfin
 simp[Leaves,settle,results,Tryz.results245]
 exact hH.out
theorem once_gives (b d:Nat)(cs0:Array Value)(w:World)(hb:BlkIs w b 281 cs0)(h0:TabOk d cs0) :
  Calls Tryz.prog 234 #[.pointer (some ⟨b,0,none⟩),.func (.func 235) #[.pointer (some ⟨b,0,none⟩)] #[]] w fun e w' =>
   e = .returned (.tuple #[])/\(∃cs,BlkIs w' b 281 cs/\TabOk 1 cs)/\w.grownBy w' (some b):=by
 have hc0:w.cell? ⟨b,0,none⟩=some (.int .u32 (d:Int)):=(hb.cell 0).trans h0.c0
 rcases h0.dd with rfl|rfl
 ·have hM:=doSlow_gives b _ _ hb h0
  have hbd:(((0:Nat):Int) != 0)=false:=by decide
  go_enter Tryz.func234,Tryz.ntmps234
  go_wp2_with (first
   | (go_at_call 244;refine(bool_load ⟨b,0,none⟩ 0 _ hc0).mono ?_;rintro e w' ⟨rfl,rfl⟩)
   | (go_at_call 245;refine hM.mono ?_;rintro e w1 ⟨rfl,hT,hg1⟩))
  go_end0
  exact⟨rfl,hT,hg1⟩
 ·have hbd:(((1:Nat):Int) != 0)=true:=by decide
  go_enter Tryz.func234,Tryz.ntmps234
  go_wp2_with (go_at_call 244;refine(bool_load ⟨b,0,none⟩ 1 _ hc0).mono ?_;rintro e w' ⟨rfl,rfl⟩)
  go_end0
  exact⟨rfl,⟨cs0,hb,h0⟩,World.grownBy.refl _ _⟩
theorem step_gives (b d:Nat)(cs0:Array Value)(s:Nat)(c:UInt8)(hs:s<4294967296)(w:World)(hb:BlkIs w b 281 cs0)(h0:TabOk d cs0) :
  Calls Tryz.prog 211 #[.pointer (some ⟨b,0,none⟩),.int .u32 s,.int .u8 (c.toNat:Int)] w fun e w' =>
   e = .returned (.int .u32 (stepC s c:Int))/\(∃cs,BlkIs w' b 281 cs/\TabOk 1 cs)/\w.grownBy w' (some b):=by
 have hO:=once_gives b d cs0 w hb h0
 have hmf:∀(fn:Fn) (first cap:Array Value) (w:World),(Instr.makeFunc fn first cap).run Tryz.prog w = .ok (.func fn first cap) w:=fun _ _ _ _=>rfl
 have hcl:=c.toNat_lt
 have hxl:(s % 256) ^^^ c.toNat<256:=by
  have:=Nat.xor_lt_two_pow (n:=8) (show s % 256<2 ^ 8 from by omega) (show c.toNat<2 ^ 8 from by omega)
  simpa using this
 have hx8:bits .xor .u8 ((s:Int) % 256) (c.toNat:Int)=(((s % 256) ^^^ c.toNat:Nat):Int):=by
  have:=u8_xor_nat (s % 256) c.toNat (by omega) (by omega)
  rw[<-this]
  congr 1
 have hst:=stepC_table s c
 generalize hx:(s % 256) ^^^ c.toNat=x at *
 have hX:=Lib.hid hx
 clear hx
 have hx32:bits .xor .u32 ((s:Int) / 256) (shN 8 x:Int)=(stepC s c:Int):=by
  have:=u32_xor_nat (s / 256) (shN 8 x) (by omega) (shN_lt 8 (by omega))
  rw[hst,<-this]
  congr 1
 clear hst
 go_enter Tryz.func211,Tryz.ntmps211
 go_wp2_with (go_at_call 234;refine hO.mono ?_;clear hO;rintro e w1 ⟨rfl,⟨cs1,hb1,h1⟩,hg1⟩;have hcx:=(hb1.cell (4+x)).trans (h1.to rfl x hxl))
 go_ret
 exact⟨rfl,⟨cs1,hb1,h1⟩,hg1⟩
theorem BlkIs.kept {W W':World}{row:Option Nat}{g:Nat}{t:TypeId}{cs:Array Value}(h:BlkIs W g t cs)(hg:W.grownBy W' row)(hr:∀r,row=some r->∃o:Obj,W.heap[r]? = some o/\o.isCells=false):BlkIs W' g t cs :=
 h.grown hg (fun e=>by
  obtain⟨o,ho,hc⟩:=hr g e.symm
  rw[h] at ho
  injection ho with ho
  subst ho
  cases hc)
theorem BlkIs.boxed {W:World}{g:Nat}{t:TypeId}{v:Value}(h:BlkIs W g t #[v]):W.cell? ⟨g,0,none⟩=some v:=by rw[h.cell];rfl
theorem BlkIs.others {W W':World}{b:Nat}{t:TypeId}{cs:Array Value}(h:BlkIs W b t cs)(hg:W.grownBy W' (some b)):KeepsOthers W W' :=
 KeepsOthers.of_grownBy hg (fun j o e ho=>by
  injection e with e
  subst e
  rw[h] at ho
  injection ho with ho
  subst ho
  rfl)
end Go.Proofs.YtnlimngkagmjpaaGreat
namespace Go.Proofs.YtnlimngkagmjpaaGreat
open Go Go.RowKit Lou Go.Shelf
attribute [local go_sem] Oper.semAt_some
abbrev Piece (w0:World)(n₀:Nat):={ x:(Option Addr×Nat)×List UInt8 // InB w0 n₀ x.1.1 x.1.2 x.2 }
def Piece.val {w0:World}{n₀:Nat}(p:Piece w0 n₀):Value:=.slice p.1.1.1 p.1.2.length p.1.1.2
def Piece.l {w0:World}{n₀:Nat}(p:Piece w0 n₀):List UInt8:=p.1.2
structure InLL (w:World)(B:Nat)(A:Option Addr)(c:Nat)(ls:List (Piece w B)):Prop where
 le:ls.length<=c
 max:c<=9223372036854775807
 lies:0<ls.length->∃g o,A=some ⟨g,o,none⟩/\g<B/\∀j (h:j<ls.length),w.cell? ⟨g,o+j,none⟩=some ls[j].val
section
variable {w0:World}{n₀:Nat}
theorem values1_some (n:Nat)(hn1:1<=n)(l Bs b off cap:Nat)(zs:List (Piece w0 n₀))(hmax:zs.length<=9223372036854775807)(hb:b<n₀)(J Jx:List (Piece w0 n₀)->World->Prop)
  (hY:∀pre x W,J pre W->pre.length<zs.length->YieldAt Fence.wide (n - 1) Tryz.prog l #[x.val] W fun e W' =>
   (e = .returned (.bool true)/\J (pre++[x]) W'/\Below n₀ W W')∨(e = .returned (.bool false)/\Jx (pre++[x]) W'))
  (W:World) (hBs:W.cell? ⟨Bs,0,none⟩=some (.slice (some ⟨b,off,none⟩) zs.length cap)) (hc:∀j (h:j<zs.length),W.cell? ⟨b,off+j,none⟩=some zs[j].val) (h0:J [] W) :
  CallsIn Fence.wide n Tryz.prog 233 #[.func (.yield l) #[] #[],.pointer (some ⟨Bs,0,none⟩)] W fun e W'=>(∃v,e = .returned v) /\
   ((∃ys,ys=zs/\J ys W')∨(∃pre,pre <+: zs/\Jx pre W')):=by
 refine callsIn_of_wp Tryz.func233 rfl trivial ?_ rfl
 simp only[Tryz.ntmps233,zS,zN,qB,qH,qI,zU,zV,zZ,zX,zQ,zW]
 gi_wp2
 gi_loopw [7] (fun i wr=>∃k:Nat,k<=zs.length/\i = .int .i64 k/\J (zs.take k) wr/\Below n₀ W wr)
  (fun i _=>zs.length - (intOf i).toNat)
 case atStart=>exact⟨0,Nat.zero_le _,rfl,by simpa using h0,Below.refl _ _⟩
 case round =>
  obtain⟨k,hk,rfl,hJs,hnx⟩:=hrel
  by_cases hlt:k<zs.length
  ·have hcx:wr.cell? ⟨b,off+k,none⟩=some zs[k].val:=(hnx.cell (p:=⟨b,off+k,none⟩) hb).trans (hc k hlt)
   obtain⟨fn,tmps,assign,body,hy,hR⟩:=hY _ zs[k] wr hJs (by simp;omega)
   have htk:zs.take k++[zs[k]]=zs.take (k+1):=(qC hlt).symm
   have hTk:=Lib.hid htk
   clear htk
   have hval:zs[k].val = .slice zs[k].1.1.1 zs[k].1.2.length zs[k].1.1.2:=rfl
   rw[hval] at hcx hy
   clear hval hc
   gi_wp2
   refine hR.mono ?_
   rintro e W3 (⟨rfl,hJ3,hk3⟩|⟨rfl,hJx3⟩)
   ·gi_wp2
    go_roundw
    case rel=>exact⟨k+1,by omega,by simp,by rw[<-hTk.out];exact hJ3,hnx.trans hk3⟩
    case measure=>simp[intOf];omega
   ·gi_wp2
    refine bodyPost_ret (results_none rfl _ _ _) rfl ?_
    exact⟨⟨_,rfl⟩,.inr ⟨_,by rw[hTk.out];exact List.take_prefix _ _,hJx3⟩⟩
  ·obtain rfl:k=zs.length:=by omega
   gi_wp2
   go_end0
   exact⟨⟨_,rfl⟩,.inl ⟨_,List.take_length,hJs⟩⟩
theorem values1_empty (n:Nat)(l Bs:Nat)(A:Option Addr)(cap:Nat)(J:List (Piece w0 n₀)->World->Prop)(W:World)(hBs:W.cell? ⟨Bs,0,none⟩=some (.slice A 0 cap))(h0:J [] W) :
  CallsIn Fence.wide n Tryz.prog 233 #[.func (.yield l) #[] #[],.pointer (some ⟨Bs,0,none⟩)] W fun e W'=>(∃v,e = .returned v)/\J [] W':=by
 refine callsIn_of_wp Tryz.func233 rfl trivial ?_ rfl
 simp only[Tryz.ntmps233,zS,zN,qB,qH,qI,zU,zV,zZ,zX,zQ,zW]
 gi_wp2
 gi_loopw [7] (fun i wr=>i = .int .i64 0/\J [] wr) (fun _ _=>0)
 case atStart=>exact⟨rfl,h0⟩
 case round =>
  obtain⟨rfl,hJs⟩:=hrel
  gi_wp2
  go_end0
  exact⟨⟨_,rfl⟩,hJs⟩
theorem values_in (n:Nat)(a:Option Addr)(len cap:Nat)(w:World) :
  CallsIn Fence.wide n Tryz.prog 210 #[.slice a len cap] w fun e w'=>e = .returned (.func (.func 233) #[] #[.pointer (some ⟨w.heap.size,0,none⟩)])/\w.alloc (.cells #[.slice a len cap] 141)=w':=by
 refine callsIn_of_wp Tryz.func210 rfl trivial ?_ rfl
 simp only[Tryz.ntmps210,zS,zN,qB,qH,qI,zU,zV,zZ,zX,zQ,zW]
 gi_wp2
 go_ret
 exact⟨rfl,rfl⟩
theorem values_stops (n:Nat)(hn1:1<=n)(Bs:Nat)(A:Option Addr)(c:Nat)(zs:List (Piece w0 n₀))(hI:InLL w0 n₀ A c zs)(w:World)(hb0:Below n₀ w0 w)(hBs:Bs<w.heap.size)(hn₀:n₀<=w.heap.size)
  (hc:w.cell? ⟨Bs,0,none⟩=some (.slice A zs.length c)) :
  SeqStopsK Fence.wide n Tryz.prog 233 #[.pointer (some ⟨Bs,0,none⟩)] (fun x:Piece w0 n₀=>#[x.val]) (Below n₀) (fun ys=>ys=zs) (fun pre=>pre <+: zs) zs.length w:=fun l J Jx W hW _ _ hY h0=>by
 have hc':=(hW.cell (p:=⟨Bs,0,none⟩) hBs).trans hc
 have hle:=hI.le
 have hmx:=hI.max
 rcases Nat.eq_zero_or_pos zs.length with hz|hz
 ·obtain rfl:=qF hz
  exact(values1_empty n l Bs A c J W hc' h0).mono fun e W' ⟨he,hj⟩=>⟨he,.inl ⟨_,rfl,hj⟩⟩
 ·obtain⟨g,o,rfl,hg,hcs⟩:=hI.lies hz
  exact values1_some n hn1 l Bs g o c zs (by omega) hg J Jx hY W hc' (fun j hj=>((hb0.trans (hW.mono hn₀)).cell hg).trans (hcs j hj)) h0
end
theorem tab_zero:TabOk 0 Tryz.zeroCells281 :=
 ⟨by kernel_rfl,by kernel_rfl,by kernel_rfl,.inl rfl,fun _=>by kernel_rfl,fun h=>by omega⟩
theorem sum_in (n:Nat)(hn:4<=n)(w:World)(A:Option Addr)(c:Nat)(zs:List (Piece w w.heap.size))(hI:InLL w w.heap.size A c zs) :
  CallsIn Fence.wide n Tryz.prog 178 #[.slice A zs.length c] w fun e W'=>e = .returned (.int .u32 (sumL (zs.map Piece.l).flatten:Int))/\Below w.heap.size w W':=by
 have h1:1<=n:=by omega
 refine callsIn_of_wp_marks Tryz.func178 rfl trivial ?_ rfl
 simp only[Tryz.ntmps178,zS,zN,qB,qH,qI,zU,zV,zZ,zX,zQ,zW]
 gi_wp2_with (refine⟨trivial,?_⟩;gi_at_call 210;refine(values_in (n - 1) _ _ _ _).mono ?_;rintro e w' ⟨rfl,rfl⟩)
 have b0:BlkIs ((((w.alloc (.cells Tryz.zeroCells281 281)).alloc (.cells #[.pointer (some ⟨w.heap.size,0,none⟩)] 269)).alloc (.cells #[.int .u32 4294967295] 133)).alloc (.cells #[.slice A zs.length c] 141)) w.heap.size 281 Tryz.zeroCells281:=(((BlkIs.new _ _ _).alloc _).alloc _).alloc _
 have b1:BlkIs ((((w.alloc (.cells Tryz.zeroCells281 281)).alloc (.cells #[.pointer (some ⟨w.heap.size,0,none⟩)] 269)).alloc (.cells #[.int .u32 4294967295] 133)).alloc (.cells #[.slice A zs.length c] 141)) (w.heap.size+1) 269 #[.pointer (some ⟨w.heap.size,0,none⟩)]:=by
  have:=((BlkIs.new (w.alloc (.cells Tryz.zeroCells281 281)) 269 #[.pointer (some ⟨w.heap.size,0,none⟩)]).alloc (.cells #[.int .u32 4294967295] 133)).alloc (.cells #[.slice A zs.length c] 141)
  rwa [World.size_alloc] at this
 have b2:BlkIs ((((w.alloc (.cells Tryz.zeroCells281 281)).alloc (.cells #[.pointer (some ⟨w.heap.size,0,none⟩)] 269)).alloc (.cells #[.int .u32 4294967295] 133)).alloc (.cells #[.slice A zs.length c] 141)) (w.heap.size+1+1) 133 #[.int .u32 4294967295]:=by
  have:=(BlkIs.new ((w.alloc (.cells Tryz.zeroCells281 281)).alloc (.cells #[.pointer (some ⟨w.heap.size,0,none⟩)] 269)) 133 #[.int .u32 4294967295]).alloc (.cells #[.slice A zs.length c] 141)
  rwa [World.size_alloc,World.size_alloc] at this
 have b3:((((w.alloc (.cells Tryz.zeroCells281 281)).alloc (.cells #[.pointer (some ⟨w.heap.size,0,none⟩)] 269)).alloc (.cells #[.int .u32 4294967295] 133)).alloc (.cells #[.slice A zs.length c] 141)).cell? ⟨w.heap.size+1+1+1,0,none⟩=some (.slice A zs.length c):=by
  have:=new_cell (((w.alloc (.cells Tryz.zeroCells281 281)).alloc (.cells #[.pointer (some ⟨w.heap.size,0,none⟩)] 269)).alloc (.cells #[.int .u32 4294967295] 133)) (.slice A zs.length c) 141
  rwa [World.size_alloc,World.size_alloc,World.size_alloc] at this
 have hB0:Below w.heap.size w ((((w.alloc (.cells Tryz.zeroCells281 281)).alloc (.cells #[.pointer (some ⟨w.heap.size,0,none⟩)] 269)).alloc (.cells #[.int .u32 4294967295] 133)).alloc (.cells #[.slice A zs.length c] 141)) :=
  ((((Below.refl _ w).alloc (zG _) _).alloc (by simp) _).alloc (by simp;omega) _).alloc (by simp;omega) _
 have hsz:((((w.alloc (.cells Tryz.zeroCells281 281)).alloc (.cells #[.pointer (some ⟨w.heap.size,0,none⟩)] 269)).alloc (.cells #[.int .u32 4294967295] 133)).alloc (.cells #[.slice A zs.length c] 141)).heap.size=w.heap.size+4:=by simp
 generalize hW0:((((w.alloc (.cells Tryz.zeroCells281 281)).alloc (.cells #[.pointer (some ⟨w.heap.size,0,none⟩)] 269)).alloc (.cells #[.int .u32 4294967295] 133)).alloc (.cells #[.slice A zs.length c] 141))=W0 at *
 clear hW0
 refine wpIn_rangeFunc_ownG rfl h1 (gf:=233) (lb:=#[.pointer (some ⟨w.heap.size+1+1+1,0,none⟩)]) rfl trivial (enters_of Tryz.func233 (by kernel_rfl) rfl)
  (values_stops (n - 1) (by omega) (w.heap.size+1+1+1) A c zs hI W0 hB0 (by omega) (by omega) b3) belowK_t (belowK_b (by omega)) (Below.refl _ _) (fun _=>rfl)
  (fun pre W=>((∃d cs,BlkIs W w.heap.size 281 cs/\TabOk d cs)/\BlkIs W (w.heap.size+1) 269 #[.pointer (some ⟨w.heap.size,0,none⟩)]/\BlkIs W (w.heap.size+1+1) 133 #[.int .u32 (sumS 4294967295 (pre.map Piece.l).flatten:Int)])/\Below w.heap.size w W)
  (fun _ _ _=>False)
  (OwnFrom.and (Own.from (fun s A B row hs hg hr=>⟨by obtain⟨d,cs,h1,h2⟩:=hs.1;exact⟨d,cs,h1.kept hg hr,h2⟩,hs.2.1.kept hg hr,hs.2.2.kept hg hr⟩) _) (ownFrom_below (zG _) (by omega)))
  (fun _ _ _ _ _ hs _ _=>hs)
  ⟨⟨⟨0,_,b0,tab_zero⟩,b1,b2⟩,hB0⟩
  (fun x => { tmps:=#[.slice A zs.length c,undef,.int .u32 0,.pointer (some ⟨w.heap.size+1,0,none⟩),.pointer (some ⟨w.heap.size+1+1,0,none⟩),.slice x.1.1.1 x.1.2.length x.1.1.2,undef,undef,.agg Tryz.zeroCells281,.pointer (some ⟨w.heap.size,0,none⟩),.slice A zs.length c,.func (.func 233) #[] #[.pointer (some ⟨w.heap.size+1+1+1,0,none⟩)],.slice x.1.1.1 x.1.2.length x.1.1.2,undef,undef,undef,undef,undef,undef,undef,undef,undef,undef,undef,undef,undef],defers:=[] }) ?assign ?body ?done ?stop
 case assign =>
  intro l x W K hK
  have hv:x.val = .slice x.1.1.1 x.1.2.length x.1.1.2:=rfl
  dsimp only[hv]
  gi_wp2
  exact hK
 case body =>
  rintro l pre x W ⟨⟨⟨d,cs,hT,hOk⟩,hP,hS⟩,hB⟩ _
  have hx:=x.2
  have hxl:=hx.le
  have hxm:=hx.max
  have h11:1<=n - 1 - 1:=by omega
  have hF:(pre++[x]).map Piece.l=pre.map Piece.l++[x.1.2]:=by simp[Piece.l]
  have hFl:sumS 4294967295 ((pre++[x]).map Piece.l).flatten=sumS (sumS 4294967295 (pre.map Piece.l).flatten) x.1.2:=by
   rw[hF,List.flatten_append,sumS_append];simp
  have hs32:=sumS_lt (s:=4294967295) (by omega) (pre.map Piece.l).flatten
  have HF:=Lib.hid hFl
  clear hF hFl
  generalize sumS 4294967295 (pre.map Piece.l).flatten=s0 at *
  have hz:=hsz
  gi_wp2_with fail
  gi_loopw [15] (fun i wr=>∃k:Nat,k<=x.1.2.length/\i = .int .i64 k/\(∃d cs,BlkIs wr w.heap.size 281 cs/\TabOk d cs)/\BlkIs wr (w.heap.size+1) 269 #[.pointer (some ⟨w.heap.size,0,none⟩)]/\BlkIs wr (w.heap.size+1+1) 133 #[.int .u32 (sumS s0 (x.1.2.take k):Int)]/\Below w.heap.size W wr/\KeepsOthers W wr)
   (fun i _=>x.1.2.length - (intOf i).toNat)
  case atStart=>exact⟨0,by omega,rfl,⟨d,cs,hT,hOk⟩,hP,hS,Below.refl _ _,KeepsOthers.refl _⟩
  case round =>
   obtain⟨k,hk,rfl,⟨d,cs,hT,hOk⟩,hP,hS,hBW,hKO⟩:=hrel
   by_cases hlt:k<x.1.2.length
   ·obtain⟨g,o,hA,hg,hc⟩:=hx.lies (by omega)
    have hck:wr.cell? ⟨g,o+k,none⟩=some (.int .u8 (x.1.2[k].toNat:Int)):=((hB.trans hBW).cell (p:=⟨g,o+k,none⟩) hg).trans (hc k hlt)
    have hsk:=sumS_lt hs32 (x.1.2.take k)
    have hnext:sumS s0 (x.1.2.take (k+1))=stepC (sumS s0 (x.1.2.take k)) x.1.2[k]:=by
     rw[qC hlt,sumS_append];rfl
    have HN:=Lib.hid hnext
    clear hnext hc hs32
    generalize sumS s0 (x.1.2.take k)=sk at *
    have hcP:=hP.boxed
    have hcS:=hS.boxed
    rw[hA]
    have HA:=Lib.hid hA
    clear hA
    gi_wp2_with (refine⟨trivial,?_⟩;gi_at_call 211;refine(CallsIn.inRound l (callsIn_wide.2 (step_gives w.heap.size d cs sk x.1.2[k] hsk _ hT hOk))).mono ?_;rintro e w' ⟨rfl,⟨cs1,hb1,h1⟩,hg1⟩;have hS1:=hS.grown hg1 (by simp;omega);have hP1:=hP.grown hg1 (by simp);have hcS1:=hS1.boxed;have hfS1:=hS1.free 0)
    have hBw:Below w.heap.size wr w':=(Below.refl _ _).grown hg1 (by have:=hT.lt;omega) (fun k hk=>by cases hk;exact zG _)
    refine⟨⟨k+1,by omega,by go_num,⟨1,cs1,hb1.other (by simp;omega) _,h1⟩,hP1.other (by simp) _,?_,(hBW.trans hBw).setCell (p:=⟨w.heap.size+1+1,0,none⟩) (by simp;omega) _,(hKO.trans (hT.others hg1)).trans (KeepsOthers.setCell _ _ _)⟩,by simp[intOf];omega⟩
    rw[HN.out]
    exact hS1.set 0 _
   ·obtain rfl:k=x.1.2.length:=by omega
    gi_wp2_with fail
    rw[List.take_length] at hS
    refine⟨hKO.from _,hBW,⟨⟨⟨d,cs,hT,hOk⟩,hP,?_⟩,hB.trans hBW⟩⟩
    rw[HF.out]
    exact hS
 case done =>
  rintro D ys W hD rfl ⟨⟨hT,hP,hS⟩,hB⟩ hK
  have hcS:=hS.boxed
  have hs32:=sumS_lt (s:=4294967295) (by omega) (ys.map Piece.l).flatten
  have hinv:=xor_inv hs32
  gi_wp2
  refine⟨by simp,.inl ⟨_,_,rfl,run_takeDeferred hK,?_⟩⟩
  exact⟨_,results_tmp rfl _ _ _,rfl,hB.trans (belowK_b (w:=w) (zG _) W D _ _ (by omega) hK rfl rfl)⟩
 case stop =>
  rintro D c pre W _ _ h _
  exact h.elim
theorem sum_gives (w:World)(A:Option Addr)(c:Nat)(zs:List (Piece w w.heap.size))(hI:InLL w w.heap.size A c zs) :
  Calls Tryz.prog 178 #[.slice A zs.length c] w fun e W'=>e = .returned (.int .u32 (sumL (zs.map Piece.l).flatten:Int))/\Below w.heap.size w W' :=
 callsIn_wide.1 (sum_in 4 (zG _) w A c zs hI)
theorem sum1_gives (W:World)(A:Option Addr)(c:Nat)(l:List UInt8)(hin:InB W W.heap.size A c l) :
  Calls Tryz.prog 178 #[.slice (some ⟨W.heap.size,0,none⟩) 1 1] (W.alloc (.cells #[.slice A l.length c] 22)) fun e W'=>e = .returned (.int .u32 (sumL l:Int))/\Below W.heap.size W W':=by
 have hb:Below W.heap.size W (W.alloc (.cells #[.slice A l.length c] 22)):=(Below.refl _ _).alloc (zG _) _
 have h1:InB (W.alloc (.cells #[.slice A l.length c] 22)) (W.alloc (.cells #[.slice A l.length c] 22)).heap.size A c l:=(hin.below hb).more (by simp)
 have H:=sum_gives (W.alloc (.cells #[.slice A l.length c] 22)) (some ⟨W.heap.size,0,none⟩) 1 [⟨((A,c),l),h1⟩] ⟨by simp,by omega,fun _=>⟨W.heap.size,0,rfl,by simp,fun j hj=>by
  obtain rfl:j=0:=by simpa using hj
  exact new_cell _ _ _⟩⟩
 refine H.mono ?_
 rintro e W' ⟨rfl,hB⟩
 exact⟨by simp[Piece.l],hb.trans (hB.mono (by simp))⟩
theorem sum2_gives (W:World)(A A2:Option Addr)(c c2:Nat)(l l2:List UInt8)(hin:InB W W.heap.size A c l)(hin2:InB W W.heap.size A2 c2 l2) :
  Calls Tryz.prog 178 #[.slice (some ⟨W.heap.size,0,none⟩) 2 2] (W.alloc (.cells #[.slice A l.length c,.slice A2 l2.length c2] 22)) fun e W'=>e = .returned (.int .u32 (sumL (l++l2):Int))/\Below W.heap.size W W':=by
 have hb:Below W.heap.size W (W.alloc (.cells #[.slice A l.length c,.slice A2 l2.length c2] 22)):=(Below.refl _ _).alloc (zG _) _
 have h1:InB (W.alloc (.cells #[.slice A l.length c,.slice A2 l2.length c2] 22)) (W.alloc (.cells #[.slice A l.length c,.slice A2 l2.length c2] 22)).heap.size A c l:=(hin.below hb).more (by simp)
 have h2:InB (W.alloc (.cells #[.slice A l.length c,.slice A2 l2.length c2] 22)) (W.alloc (.cells #[.slice A l.length c,.slice A2 l2.length c2] 22)).heap.size A2 c2 l2:=(hin2.below hb).more (by simp)
 have hbk:=BlkIs.new W 22 #[.slice A l.length c,.slice A2 l2.length c2]
 have H:=sum_gives (W.alloc (.cells #[.slice A l.length c,.slice A2 l2.length c2] 22)) (some ⟨W.heap.size,0,none⟩) 2 [⟨((A,c),l),h1⟩,⟨((A2,c2),l2),h2⟩] ⟨by simp,by omega,fun _=>⟨W.heap.size,0,rfl,by simp,fun j hj=>by
  rw[hbk.cell]
  rcases(show j=0∨j=1 from by simp at hj;omega) with rfl|rfl
  ·rfl
  ·rfl⟩⟩
 refine H.mono ?_
 rintro e W' ⟨rfl,hB⟩
 exact⟨by simp[Piece.l],hb.trans (hB.mono (by simp))⟩
end Go.Proofs.YtnlimngkagmjpaaGreat
namespace Go.Proofs.YtnlimngkagmjpaaGreat
open Go Go.RowKit Lou
theorem BlkIs.setRow {w:World}{g:Nat}{t:TypeId}{cs:Array Value}(h:BlkIs w g t cs)(cs':Array Value):BlkIs (w.setRow g cs') g t cs':=setRow_heap w g cs cs' t (0,0) h
theorem BlkIs.setRow_ne {w:World}{g k:Nat}{t:TypeId}{cs:Array Value}(h:BlkIs w g t cs)(hk:g≠k)(cs':Array Value):BlkIs (w.setRow k cs') g t cs:=(setRow_other w k g cs' hk).trans h
theorem below_setRow {B:Nat}{w0 w:World}(hb:Below B w0 w){g:Nat}(hg:B<=g)(cs:Array Value):Below B w0 (w.setRow g cs) :=
 hb.trans ⟨rfl,rfl,rfl,by simp[World.setRow],fun k hk=>setRow_other w g k cs (by omega)⟩
def spliceB (l:List UInt8)(o n:Nat)(src:List UInt8):List UInt8:=l.take o++src.take n++l.drop (o+min src.length n)
theorem copyB_run {w:World}{g o:Nat}{l src:List UInt8}{A:Option Addr}{c B dLen dCap:Nat}(ty:TypeId){T:TypeId}(hb:BlkIs w g T (l.map b8).toArray)(hin:InB w B A c src)(hfit:o+dLen<=l.length) :
  (Builtin.copy_ #[22,22] ty #[.slice (some ⟨g,o,none⟩) dLen dCap,.slice A src.length c]).run Tryz.prog w = .ok (.int .i64 ((min src.length dLen:Nat):Int)) (w.setRow g ((spliceB l o dLen src).map b8).toArray):=by
 obtain⟨i0,hi,hz0,hz1,hz2⟩:=info_parts inf_u8
 have hs:(Tryz.prog.info? 5).map (·.size)=some 1:=by rw[hi];simp[hz1]
 rcases Nat.eq_zero_or_pos src.length with h0|h0
 ·obtain rfl:=qF h0
  have e:spliceB l o dLen []=l:=by simp[spliceB]
  rw[e,setRow_self w g _ _ _ hb]
  rcases A with _|ad
  ·obtain rfl:=hin.nil rfl
   have:=run_copy_nil (P:=Tryz.prog) w 22 22 ty 5 ⟨g,o,none⟩ dLen dCap Tryz.underlying22 (by rw[hi];rfl)
   simpa[goInt] using this
  ·have:=run_copy_row (P:=Tryz.prog) w 22 22 ty 5 g o dLen dCap ad 0 c _ _ [] Tryz.underlying22 hs hb (by simp) (by simp) (by simp;omega) (by simp)
   have e2:((l.map b8).toArray.toList.take o++[] ++ (l.map b8).toArray.toList.drop (o+([]:List Value).length)).toArray=(l.map b8).toArray:=by simp
   rw[e2,setRow_self w g _ _ _ hb] at this
   simpa[goInt] using this
 ·obtain⟨g2,o2,rfl,hg2,hc⟩:=hin.lies h0
  have:=run_copy_row (P:=Tryz.prog) w 22 22 ty 5 g o dLen dCap ⟨g2,o2,none⟩ src.length c _ _ ((src.take dLen).map b8) Tryz.underlying22 hs hb (by simp[Nat.min_comm]) ?_ (by simp;omega) (fun v hv=>by obtain⟨x,_,rfl⟩:=List.mem_map.1 hv;rfl)
  ·rw[this]
   simp[goInt,spliceB,Nat.min_comm,List.map_take,List.map_drop]
  ·intro j v hj
   have hj2:j<(src.take dLen).length:=by
    have:=(List.getElem?_eq_some_iff.1 hj).1
    simpa using this
   have hjs:j<src.length:=by simp at hj2;omega
   have ea:(⟨g2,o2,none⟩:Addr).add j=⟨g2,o2+j,none⟩:=by cases j<;>simp[Addr.add]
   rw[ea,hc j hjs]
   rw[List.getElem?_map,zI hj2,List.getElem_take] at hj
   simpa[b8] using hj
section
variable {w:World}{ops:Array Oper}{rest:List Oper}{o:Oper}{a:Act}{Q:Exit->Act->World->Prop}
theorem oper_copyB {K:Act->World->Prop}(d s:Operand)(ho:o.op = .call { callee:=.builtin .copy,args:=#[d,s],argTypes:=#[22,22] })
  (g off:Nat) (l src:List UInt8) (A:Option Addr) (c B dLen dCap:Nat) (hd:a.eval d = .slice (some ⟨g,off,none⟩) dLen dCap) (hs:a.eval s = .slice A src.length c)
  {T:TypeId} (hb:BlkIs w g T (l.map b8).toArray) (hin:InB w B A c src) (hfit:off+dLen<=l.length)
  (h:K (a.put o.dst (.int .i64 ((min src.length dLen:Nat):Int))) (w.setRow g ((spliceB l off dLen src).map b8).toArray)):o.wp Tryz.prog a w K Q:=by
 have hr:=copyB_run (dCap:=dCap) o.type hb hin hfit
 unfold Oper.wp execOp
 simp only[ho,resolve,invoke,builtin,Sem.run_bind,Sem.run_pure,Result.andThen_ok,zJ,zK,zL,hd,hs,hr]
 exact h
theorem wp_copyB (hgd:o.guard=none)(d s:Operand)(ho:o.op = .call { callee:=.builtin .copy,args:=#[d,s],argTypes:=#[22,22] })
  (g off:Nat) (l src:List UInt8) (A:Option Addr) (c B dLen dCap:Nat) (hd:a.eval d = .slice (some ⟨g,off,none⟩) dLen dCap) (hs:a.eval s = .slice A src.length c)
  {T:TypeId} (hb:BlkIs w g T (l.map b8).toArray) (hin:InB w B A c src) (hfit:off+dLen<=l.length)
  (h:wpList Tryz.prog ops Q rest (a.put o.dst (.int .i64 ((min src.length dLen:Nat):Int))) (w.setRow g ((spliceB l off dLen src).map b8).toArray)):wpList Tryz.prog ops Q (o::rest) a w :=
 wpList_plain hgd fun _ hK=>oper_copyB d s ho g off l src A c B dLen dCap hd hs hb hin hfit (hK _ _ h)
end
theorem OwnB.blk {w:World}{base g:Nat}{l:List UInt8}(h:OwnB w base (.slice (some ⟨g,0,none⟩) l.length l.length) l):BlkIs w g 5 (l.map b8).toArray/\base<=g:=by
 rcases h.2 with⟨h1,_⟩|⟨g',cap,cur,hv,hb,hg,hle,_,hs,ht⟩
 ·cases h1
 ·injection hv with e1 e2 e3
  injection e1 with e1
  injection e1 with e1 _ _
  subst e1 e3
  refine⟨?_,hb⟩
  have e:cur.toList=l.map b8:=by
   rw[<-ht,qA]
   simp;omega
  have e':cur=(l.map b8).toArray:=by rw[<-e]
  unfold BlkIs
  rw[hg,e']
theorem OwnB.later {w w':World}{base:Nat}{v:Value}{l:List UInt8}(h:OwnB w base v l)(hB:Below w.heap.size w w'):OwnB w' base v l:=by
 refine⟨h.1,?_⟩
 rcases h.2 with h|⟨g,cap,cur,h1,h2,h3,h4⟩
 ·exact .inl h
 ·exact .inr ⟨g,cap,cur,h1,h2,(hB.block g (zH.1 h3).1).trans h3,h4⟩
theorem OwnB.ownGe {w:World}{base:Nat}{v:Value}{l:List UInt8}(h:OwnB w base v l):∀r,v.ownBlock=some r->base<=r:=by
 intro r hr
 rcases h.form with⟨rfl,_⟩|⟨g,cap,rfl,hb,_⟩
 ·cases hr
 ·injection hr with hr
  subst hr
  exact hb
theorem grown_below {w w':World}{B:Nat}{row:Option Nat}(hg:w.grownBy w' row)(hB:B<=w.heap.size)(hr:∀r,row=some r->B<=r):Below B w w' :=
 ⟨hg.os,hg.tape,hg.output,hg.size,fun k hk=>hg.block k (by omega) (fun e=>by have:=hr k e.symm;omega)⟩
section
variable {w:World}{ops:Array Oper}{o:Oper}{a:Act}{K:Act->World->Prop}{Q:Exit->Act->World->Prop}{E:Prop}
theorem step_copyB (hgd:o.guard=none)(d s:Operand)(ho:o.op = .call { callee:=.builtin .copy,args:=#[d,s],argTypes:=#[22,22] })
  (g off:Nat) (l src:List UInt8) (A:Option Addr) (c B dLen dCap:Nat) (hd:a.eval d = .slice (some ⟨g,off,none⟩) dLen dCap) (hs:a.eval s = .slice A src.length c)
  {T:TypeId} (hb:BlkIs w g T (l.map b8).toArray) (hin:InB w B A c src) (hfit:off+dLen<=l.length)
  (h:K (a.put o.dst (.int .i64 ((min src.length dLen:Nat):Int))) (w.setRow g ((spliceB l off dLen src).map b8).toArray)) :
  if Region.wanted o (yielded ops a.tmps)=true then Oper.wp Tryz.prog o a w K Q else E:=by
 have hw:Region.wanted o (yielded ops a.tmps)=true:=by simp[Region.wanted,hgd]
 rw[if_pos hw]
 exact oper_copyB d s ho g off l src A c B dLen dCap hd hs hb hin hfit h
end
theorem BlkIs.range {w:World}{g:Nat}{t:TypeId}{cs:Array Value}(h:BlkIs w g t cs):w.rangeAt g 0 cs.toList:=fun j v hj=>by
 rw[qK,h.cell]
 simpa using hj
structure RowTy (P:Program)(T:TypeId)(n:Nat):Prop where
 desc:∃d,P.underlying T=some d/\d.isRow=true
 size:(P.info? T).map (·.size)=some n
theorem run_loadW {P:Program}{w:World}{g:Nat}{T t:TypeId}{cs:Array Value}(hT:RowTy P T cs.size)(hb:BlkIs w g t cs):(loadVar T ⟨g,0,none⟩).run P w = .ok (.agg cs) w:=by
 obtain⟨d,hu,hd⟩:=hT.desc
 have:=run_loadVar_mid (P:=P) w g 0 T cs.toList d hb.range hu hd (by simpa using hT.size)
 simpa using this
theorem run_storeW {P:Program}{w:World}{g:Nat}{T t:TypeId}{cs cs':Array Value}(hT:RowTy P T cs.size)(hb:BlkIs w g t cs)(hs:cs'.size=cs.size)(h1:∀v∈cs'.toList,v.oneCell'=true):(storeVar T ⟨g,0,none⟩ (.agg cs')).run P w = .ok () (w.setRow g cs'):=by
 have h:=run_storeCells_at (P:=P) g 0 t cs'.toList 0 cs w hb (by simp;omega) h1
 have e:(cs.toList.take (0+0)++cs'.toList++cs.toList.drop (0+0+cs'.toList.length)).toArray=cs':=by
  simp[List.drop_of_length_le,hs]
 rw[e] at h
 have hi:=hT.size
 cases hq:P.info? T with
 | none=>simp[hq] at hi
 | some i =>
  have hs2:cs'.size=i.size:=by simp[hq] at hi;omega
  simp[storeVar,sizeOf,typeInfo,hq,Value.cells,hs2,h]
section
variable {P:Program}{w:World}{ops:Array Oper}{rest:List Oper}{o:Oper}{a:Act}{Q:Exit->Act->World->Prop}
theorem oper_loadW {K:Act->World->Prop}(T:TypeId)(x:Operand)(ho:o.op = .load T x)(g:Nat){t:TypeId}{cs:Array Value}(hx:a.eval x = .pointer (some ⟨g,0,none⟩)){n:Nat}(hT:RowTy P T n)(hb:BlkIs w g t cs)(hn:cs.size=n)
  (h:K (a.put o.dst (.agg cs)) w):o.wp P a w K Q:=by
 unfold Oper.wp execOp
 simp only[ho,hx,Instr.loadAt,Instr.sureAddr,Sem.run_bind,Sem.run_pure,Result.andThen_ok,run_loadW (hn▸hT) hb]
 exact h
theorem oper_storeW {K:Act->World->Prop}(T:TypeId)(x y:Operand)(ho:o.op = .store T x y)(g:Nat){t:TypeId}{cs cs':Array Value}(hx:a.eval x = .pointer (some ⟨g,0,none⟩))(hy:a.eval y = .agg cs'){n:Nat}(hT:RowTy P T n)(hb:BlkIs w g t cs)(hn:cs.size=n)
  (hs:cs'.size=cs.size) (h1:∀v∈cs'.toList,v.oneCell'=true) (h:K (a.put o.dst undef) (w.setRow g cs')):o.wp P a w K Q:=by
 unfold Oper.wp execOp
 simp only[ho,hx,hy,Instr.storeAt,Instr.sureAddr,Sem.run_bind,Sem.run_pure,Result.andThen_ok,run_storeW (hn▸hT) hb hs h1]
 exact h
theorem wp_loadW (hgd:o.guard=none)(T:TypeId)(x:Operand)(ho:o.op = .load T x)(g:Nat){t:TypeId}{cs:Array Value}(hx:a.eval x = .pointer (some ⟨g,0,none⟩)){n:Nat}(hT:RowTy P T n)(hb:BlkIs w g t cs)(hn:cs.size=n)
  (h:wpList P ops Q rest (a.put o.dst (.agg cs)) w):wpList P ops Q (o::rest) a w :=
 wpList_plain hgd fun _ hK=>oper_loadW T x ho g hx hT hb hn (hK _ _ h)
theorem wp_storeW (hgd:o.guard=none)(T:TypeId)(x y:Operand)(ho:o.op = .store T x y)(g:Nat){t:TypeId}{cs cs':Array Value}(hx:a.eval x = .pointer (some ⟨g,0,none⟩))(hy:a.eval y = .agg cs'){n:Nat}(hT:RowTy P T n)(hb:BlkIs w g t cs)(hn:cs.size=n)
  (hs:cs'.size=cs.size) (h1:∀v∈cs'.toList,v.oneCell'=true) (h:wpList P ops Q rest (a.put o.dst undef) (w.setRow g cs')):wpList P ops Q (o::rest) a w :=
 wpList_plain hgd fun _ hK=>oper_storeW T x y ho g hx hy hT hb hn hs h1 (hK _ _ h)
end
theorem results_cellW {fn:Func}{P:Program}{a:Act}{w:World}{g:Nat}{T t:TypeId}{cs:Array Value}(k:Tmp)(h:fn.results=#[.cell k T])(hk:a.eval (.tmp k) = .pointer (some ⟨g,0,none⟩)){n:Nat}(hT:RowTy P T n)(hb:BlkIs w g t cs)(hn:cs.size=n) :
  (results fn a.tmps).run P w = .ok (.agg cs) w:=by
 have e:a.tmps.getD k undef = .pointer (some ⟨g,0,none⟩):=hk
 unfold results
 simp only[h]
 simp[-Array.getD_eq_getD_getElem?,e,asAddr,run_loadW (hn▸hT) hb]
theorem results_cellW_tmp {fn:Func}{P:Program}{a:Act}{w:World}{g:Nat}{T t:TypeId}{cs:Array Value}{v:Value}(k m:Tmp)(h:fn.results=#[.cell k T,.tmp m])(hk:a.eval (.tmp k) = .pointer (some ⟨g,0,none⟩))(hm:a.eval (.tmp m)=v){n:Nat}(hT:RowTy P T n)(hb:BlkIs w g t cs)(hn:cs.size=n) :
  (results fn a.tmps).run P w = .ok (.tuple #[.agg cs,v]) w:=by
 have e:a.tmps.getD k undef = .pointer (some ⟨g,0,none⟩):=hk
 have e2:a.tmps.getD m undef=v:=hm
 unfold results
 simp only[h]
 simp[-Array.getD_eq_getD_getElem?,e,e2,asAddr,run_loadW (hn▸hT) hb,Result.andThen]
theorem b8_one (l:List UInt8):∀v∈(l.map b8).toArray.toList,v.oneCell'=true:=by
 intro v hv
 simp at hv
 obtain⟨x,_,rfl⟩:=hv
 rfl
theorem rowSector:RowTy Tryz.prog 203 64:=⟨⟨_,Tryz.underlying203,rfl⟩,by kernel_rfl⟩
theorem rowHead:RowTy Tryz.prog 106 4:=⟨⟨_,Tryz.underlying106,rfl⟩,by kernel_rfl⟩
structure InG (w:World)(B sz:Nat)(A:Option Addr)(n c:Nat)(cs:List Value):Prop where
 le:n<=c
 max:c<=9223372036854775807
 nil:A=none->c=0
 len:cs.length=n*sz
 one:∀v∈cs,v.oneCell'=true
 lies:0<n->∃g o,A=some ⟨g,o,none⟩/\g<B/\w.rangeAt g o cs
theorem InG.keep {w w':World}{B sz:Nat}{A:Option Addr}{n c:Nat}{cs:List Value}(h:InG w B sz A n c cs)(hk:∀p:Addr,p.block<B->w'.cell? p=w.cell? p):InG w' B sz A n c cs :=
 ⟨h.le,h.max,h.nil,h.len,h.one,fun hl=>by
  obtain⟨g,o,hA,hg,hc⟩:=h.lies hl
  exact⟨g,o,hA,hg,fun j v hj=>(hk _ hg).trans (hc j v hj)⟩⟩
theorem InG.below {w w':World}{B sz:Nat}{A:Option Addr}{n c:Nat}{cs:List Value}(h:InG w B sz A n c cs)(hb:Below B w w'):InG w' B sz A n c cs:=h.keep fun _ hp=>hb.cell hp
theorem InG.more {w:World}{B B' sz:Nat}{A:Option Addr}{n c:Nat}{cs:List Value}(h:InG w B sz A n c cs)(hB:B<=B'):InG w B' sz A n c cs :=
 ⟨h.le,h.max,h.nil,h.len,h.one,fun hl=>by
  obtain⟨g,o,hA,hg,hc⟩:=h.lies hl
  exact⟨g,o,hA,by omega,hc⟩⟩
theorem InG.grow {w w':World}{sz:Nat}{A:Option Addr}{n c:Nat}{cs:List Value}(h:InG w w.heap.size sz A n c cs)(hb:Below w.heap.size w w'):InG w' w'.heap.size sz A n c cs:=(h.below hb).more hb.size
theorem InG.mt (w:World)(B sz:Nat):InG w B sz none 0 0 []:=⟨zG _,by omega,fun _=>rfl,by simp,(fun v h=>by cases h),fun h=>by omega⟩
theorem InG.elem {w:World}{B sz g o:Nat}{n c:Nat}{cs:List Value}(h:InG w B sz (some ⟨g,o,none⟩) n c cs)(j:Nat)(hj:j<n):w.rangeAt g (o+j*sz) ((cs.drop (j*sz)).take sz):=by
 obtain⟨g',o',e,hg,hr⟩:=h.lies (by omega)
 injection e with e
 injection e with e1 e2
 subst e1 e2
 intro i v hi
 rw[List.getElem?_take] at hi
 split at hi
 ·rw[List.getElem?_drop] at hi
  rw[Nat.add_assoc]
  exact hr _ v hi
 ·cases hi
theorem ownG_in {w:World}{base:Nat}{T:TypeId}{sz:Nat}{v:Value}{n:Nat}{cs:List Value}(h:w.ownsRow base T sz v n cs)(h1:∀v∈cs,v.oneCell'=true):∃A c,v = .slice A n c/\InG w w.heap.size sz A n c cs:=by
 rcases h.2 with⟨e1,e2⟩|⟨g,cap,cur,hv,hb,hg,hle,hm,hs,ht⟩
 ·subst e2
  exact⟨none,0,e1,zG _,by omega,fun _=>rfl,h.1,h1,fun h=>by omega⟩
 ·refine⟨_,cap,hv,hle,by unfold maxLen at hm;omega,(fun e=>by cases e),h.1,h1,fun _=>⟨g,0,rfl,(zH.1 hg).1,fun j u hj => ?_⟩⟩
  rw[qK,cell_of_row w g j cur _ (0,0) hg]
  rw[<-ht,List.getElem?_take] at hj
  split at hj
  ·simpa using hj
  ·cases hj
theorem ownG_ge {w:World}{base:Nat}{T:TypeId}{sz:Nat}{v:Value}{n:Nat}{cs:List Value}(h:w.ownsRow base T sz v n cs):∀r,v.ownBlock=some r->base<=r:=by
 intro r hr
 rcases h.2 with⟨rfl,_⟩|⟨g,cap,cur,rfl,hb,_⟩
 ·cases hr
 ·injection hr with hr
  subst hr
  exact hb
theorem ownG_lt {w:World}{base:Nat}{T:TypeId}{sz:Nat}{v:Value}{n:Nat}{cs:List Value}(h:w.ownsRow base T sz v n cs):∀r,v.ownBlock=some r->r<w.heap.size:=by
 intro r hr
 rcases h.2 with⟨rfl,_⟩|⟨g,cap,cur,rfl,hb,hg,_⟩
 ·cases hr
 ·injection hr with hr
  subst hr
  exact(zH.1 hg).1
theorem ownG_later {w w':World}{base:Nat}{T:TypeId}{sz:Nat}{v:Value}{n:Nat}{cs:List Value}(h:w.ownsRow base T sz v n cs)(hB:∀r,v.ownBlock=some r->w'.heap[r]? = w.heap[r]?):w'.ownsRow base T sz v n cs:=by
 refine⟨h.1,?_⟩
 rcases h.2 with h|⟨g,cap,cur,h1,h2,h3,h4⟩
 ·exact .inl h
 ·exact .inr ⟨g,cap,cur,h1,h2,(hB g (by rw[h1];rfl)).trans h3,h4⟩
theorem ownG_grow {w w':World}{base:Nat}{T:TypeId}{sz:Nat}{v:Value}{n:Nat}{cs:List Value}(h:w.ownsRow base T sz v n cs)(hB:Below w.heap.size w w'):w'.ownsRow base T sz v n cs :=
 ownG_later h fun r hr=>hB.block r (ownG_lt h r hr)
theorem ownG_base {w:World}{b b':Nat}{T:TypeId}{sz:Nat}{v:Value}{n:Nat}{cs:List Value}(h:w.ownsRow b T sz v n cs)(hb:b'<=b):w.ownsRow b' T sz v n cs:=by
 refine⟨h.1,?_⟩
 rcases h.2 with h|⟨g,cap,cur,h1,h2,h3⟩
 ·exact .inl h
 ·exact .inr ⟨g,cap,cur,h1,by omega,h3⟩
structure ElT (S T:TypeId)(sz by_:Nat)(z:Value):Prop where
 und:Tryz.prog.underlying S=some (.slice T)
 inf:(Tryz.prog.info? T).map (fun i=>(i.zero,i.size,i.bytes))=some (some z,sz,by_)
 zs:z.cells.size=sz
 pos:0<sz
section
variable {w:World}{ops:Array Oper}{rest:List Oper}{o:Oper}{a:Act}{Q:Exit->Act->World->Prop}
theorem wp_appG (hg:o.guard=none){S T:TypeId}{sz by_:Nat}{z:Value}(hT:ElT S T sz by_ z)(s x:Operand)(ho:o.op = .call { callee:=.builtin .append,args:=#[s,x],argTypes:=#[S,S] })
  (base:Nat) (v:Value) (n:Nat) (cs:List Value) (hs:a.eval s=v) (hown:w.ownsRow base T sz v n cs) (B:Nat) (A:Option Addr) (m c:Nat) (cs2:List Value) (hx:a.eval x = .slice A m c) (hin:InG w B sz A m c cs2)
  (hm:n+m<=maxLen) (hbytes:(n+m)*by_<=140737488355328) (hbase:base<=w.heap.size)
  (h:∀v' w',w'.ownsRow base T sz v' (n+m) (cs++cs2)->w.grownBy w' v.ownBlock->wpList Tryz.prog ops Q rest (a.put o.dst v') w'):wpList Tryz.prog ops Q (o::rest) a w:=by
 obtain⟨i0,hi,hz0,hz1,hz2⟩:=info_parts hT.inf
 have hle:=hin.le
 rcases A with _|ad
 ·have hc0:=hin.nil rfl
  obtain rfl:m=0:=by omega
  obtain rfl:cs2=[]:=qF (by rw[hin.len];omega)
  subst hc0
  refine wpList_append_own_none (w:=w) hg s x _ ho base _ i0 sz hT.und hi v n cs hs hown hx ?_
  exact h v w (by rw[List.append_nil];exact hown) (World.grownBy.refl _ _)
 ·have hnews:∀j u,cs2[j]? = some u->w.cell? (ad.add j)=some u:=by
   intro j u hu
   have hm0:0<m:=by
    rcases Nat.eq_zero_or_pos m with h0|h0
    ·subst h0
     have:=hin.len
     obtain rfl:cs2=[]:=qF (by omega)
     simp at hu
    ·exact h0
   obtain⟨g,o',hA,_,hr⟩:=hin.lies hm0
   obtain rfl:ad=⟨g,o',none⟩:=by simpa using hA
   rw[Addr.add_mid]
   exact hr j u hu
  refine wpList_append_own w hg s x _ ho base _ i0 z sz by_ hT.und hi hz0 hz1 hz2 hT.zs hT.pos v n cs hs hown ad m c cs2 hx hin.len hnews hin.one hm hbytes hbase ?_
  intro v' w' hown' hgrow _
  exact h v' w' hown' hgrow
theorem x_loadM {P:Program}{ρ:Operand->Value}{T:TypeId}{k g off:Nat}{cs:List Value}{x:Operand}(hT:RowTy P T k)(hr:w.rangeAt g off cs)(hk:cs.length=k)(ho:o.op = .load T x)(hx:ρ x = .pointer (some ⟨g,off,none⟩)):(execOp ρ o).run P w = .ok (.value (.agg cs.toArray)) w:=by
 obtain⟨d,hu,hd⟩:=hT.desc
 have:=run_loadVar_mid (P:=P) w g off T cs d hr hu hd (by rw[hT.size,hk])
 simp only[execOp,ho,hx,Instr.loadAt,Instr.sureAddr,Sem.run_bind,Sem.run_pure,Result.andThen_ok,this]
end
theorem BlkIs.rangeOf {w:World}{g:Nat}{t:TypeId}{cs:Array Value}(h:BlkIs w g t cs)(k:Nat){n:Nat}:w.rangeAt g k ((cs.toList.drop k).take n):=fun j v hj=>by
 rw[List.getElem?_take] at hj
 split at hj
 ·rw[List.getElem?_drop] at hj
  rw[h.cell]
  simpa using hj
 ·cases hj
theorem run_appG {w:World}(ty:TypeId){S T:TypeId}{sz by_:Nat}{z:Value}(hT:ElT S T sz by_ z)(base:Nat)(v:Value)(n:Nat)(cs:List Value)(hown:w.ownsRow base T sz v n cs)(B:Nat)(A:Option Addr)(m c:Nat)(cs2:List Value)(hin:InG w B sz A m c cs2)
  (hm:n+m<=maxLen) (hbytes:(n+m)*by_<=140737488355328) (hbase:base<=w.heap.size) :
  ∃v' w',(Builtin.append_ #[S,S] ty #[v,.slice A m c]).run Tryz.prog w = .ok v' w'/\w'.ownsRow base T sz v' (n+m) (cs++cs2)/\w.grownBy w' v.ownBlock:=by
 obtain⟨i0,hi,hz0,hz1,hz2⟩:=info_parts hT.inf
 have hle:=hin.le
 rcases A with _|ad
 ·have hc0:=hin.nil rfl
  obtain rfl:m=0:=by omega
  obtain rfl:cs2=[]:=qF (by rw[hin.len];omega)
  subst hc0
  have hr:=run_append_owned_none (P:=Tryz.prog) w base S ty T i0 sz hT.und hi v n cs hown
  exact⟨v,w,hr,by rw[List.append_nil];exact hown,World.grownBy.refl _ _⟩
 ·have hnews:∀j u,cs2[j]? = some u->w.cell? (ad.add j)=some u:=by
   intro j u hu
   have hm0:0<m:=by
    rcases Nat.eq_zero_or_pos m with h0|h0
    ·subst h0
     have:=hin.len
     obtain rfl:cs2=[]:=qF (by omega)
     simp at hu
    ·exact h0
   obtain⟨g,o',hA,_,hr⟩:=hin.lies hm0
   obtain rfl:ad=⟨g,o',none⟩:=by simpa using hA
   rw[Addr.add_mid]
   exact hr j u hu
  obtain⟨v',w',hr,h2,h3,_,_⟩:=run_append_own_at (P:=Tryz.prog) w base S ty T i0 z sz by_ hT.und hi hz0 hz1 hz2 hT.zs hT.pos v n cs hown ad m c cs2 hin.len hnews hin.one hm hbytes hbase
  exact⟨v',w',hr,h2,h3⟩
section
variable {w:World}{ops:Array Oper}{o:Oper}{a:Act}{Q:Exit->Act->World->Prop}{K:Act->World->Prop}{E:Prop}
end
def MapIs (w:World)(r:Nat)(es:Array MapEntry)(clock:Nat):Prop:=w.heap[r]? = some (.map es clock)
theorem MapIs.lt {w:World}{r:Nat}{es:Array MapEntry}{clock:Nat}(h:MapIs w r es clock):r<w.heap.size:=(zH.1 h).1
theorem MapIs.below {w w':World}{B r:Nat}{es:Array MapEntry}{clock:Nat}(h:MapIs w r es clock)(hB:Below B w w')(hr:r<B):MapIs w' r es clock:=(hB.block r hr).trans h
theorem MapIs.grown {w w':World}{r:Nat}{es:Array MapEntry}{clock:Nat}{row:Option Nat}(h:MapIs w r es clock)(hg:w.grownBy w' row)(hr:some r≠row):MapIs w' r es clock:=(hg.block r h.lt hr).trans h
def setMap (w:World)(r:Nat)(es:Array MapEntry)(clock:Nat):World:={ w with heap:=w.heap.setIfInBounds r (.map es clock) }
theorem MapIs.set {w:World}{r:Nat}{es:Array MapEntry}{clock:Nat}(h:MapIs w r es clock)(es':Array MapEntry)(clock':Nat):MapIs (setMap w r es' clock') r es' clock':=(MapKept.heap_set (o':=.map es' clock') h).1
theorem setMap_grown {w:World}{r:Nat}{es:Array MapEntry}{clock:Nat}(h:MapIs w r es clock)(es':Array MapEntry)(clock':Nat):w.grownBy (setMap w r es' clock') (some r) :=
 ⟨rfl,rfl,rfl,by simp[setMap],fun k _ hk=>(MapKept.heap_set (o':=.map es' clock') h).2 k (fun e=>hk (by rw[e]))⟩
theorem BlkIs.setMap {w:World}{g q:Nat}{t:TypeId}{cs:Array Value}{es0:Array MapEntry}{clock0:Nat}(h:BlkIs w g t cs)(h0:MapIs w q es0 clock0)(es':Array MapEntry)(clock':Nat):BlkIs (setMap w q es' clock') g t cs:=by
 have hne:g≠q:=by
  intro e
  subst e
  have h':w.heap[g]? = some (.cells cs t (0,0)):=h
  rw[show w.heap[g]? = some (.map es0 clock0) from h0] at h'
  cases h'
 exact((MapKept.heap_set (o':=.map es' clock') h0).2 g hne).trans h
section
variable {P:Program}{w:World}{mty kt et:TypeId}{d:TypeDesc}{r clock:Nat}{es:Array MapEntry}{key val:Value}
theorem run_put_new (hm:P.underlying mty=some (.map kt et))(hd:P.underlying kt=some d)(hk:MapKept.IsKey d key)(hb:MapIs w r es clock)(hf:Instr.findNow d key es.toList 0=some none) :
  (Instr.mapUpdate mty (.map (some r)) key val).run P w = .ok () (setMap w r (es.push { key:=key,val:=val,born:=clock }) (clock+1)):=by
 have hc:(Instr.checkKey false 10000 kt key).run P w = .ok () w:=MapKept.run_checkKey hd hk false 9999
 simp[Instr.mapUpdate,run_underlying hm,MapKept.run_getObj_map hb,hc,MapKept.run_findKey hd hf,MapKept.run_setObj_map _ hb,Result.andThen,setMap]
theorem run_get (hm:P.underlying mty=some (.map kt et))(hd:P.underlying kt=some d)(hk:MapKept.IsKey d key)(hb:MapIs w r es clock){i:Nat}{v:Value}(hf:Instr.findNow d key es.toList 0=some (some (i,v))) :
  (Instr.lookup mty (.map (some r)) key false).run P w = .ok v w:=by
 have hc:(Instr.checkKey es.isEmpty 10000 kt key).run P w = .ok () w:=MapKept.run_checkKey hd hk _ 9999
 simp[Instr.lookup,run_underlying hm,MapKept.run_getObj_map hb,hc,MapKept.run_findKey hd hf,Result.andThen]
end
section
variable {P:Program}{w:World}{ops:Array Oper}{rest:List Oper}{o:Oper}{a:Act}{Q:Exit->Act->World->Prop}{mty kt et:TypeId}{d:TypeDesc}{r clock:Nat}{es:Array MapEntry}{key val:Value}
theorem wp_makeMap (hg:o.guard=none)(ho:o.op = .makeMap mty none)(h:MapIs (w.alloc (.map #[] 0)) w.heap.size #[] 0->wpList P ops Q rest (a.put o.dst (.map (some w.heap.size))) (w.alloc (.map #[] 0))):wpList P ops Q (o::rest) a w :=
 wpList_plain hg fun _ hK=>by
  unfold Oper.wp execOp
  simp only[ho,Option.map_none,run_makeMap,Sem.run_bind,Result.andThen_ok,Sem.run_pure]
  exact hK _ _ (h (heap_alloc_new w _))
theorem wp_put_new (hg:o.guard=none)(m x y:Operand)(ho:o.op = .insert mty m x y∨o.op = .mapUpdate mty m x y)(hm:P.underlying mty=some (.map kt et))(hd:P.underlying kt=some d)(hk:MapKept.IsKey d key)(e1:a.eval m = .map (some r))(e2:a.eval x=key)(e3:a.eval y=val)
  (hb:MapIs w r es clock) (hf:Instr.findNow d key es.toList 0=some none)
  (h:∀w',MapIs w' r (es.push { key:=key,val:=val,born:=clock }) (clock+1)->w.grownBy w' (some r)->wpList P ops Q rest (a.put o.dst undef) w'):wpList P ops Q (o::rest) a w :=
 wpList_plain hg fun _ hK=>by
  unfold Oper.wp execOp
  rcases ho with ho|ho<;>simp only[ho,e1,e2,e3,run_put_new hm hd hk hb hf,Sem.run_bind,Result.andThen_ok,Sem.run_pure]<;>exact hK _ _ (h _ (hb.set _ _) (setMap_grown hb _ _))
theorem BlkIs.grownMap {w w':World}{g r:Nat}{t:TypeId}{cs:Array Value}{es:Array MapEntry}{clock:Nat}(h:BlkIs w g t cs)(hm:MapIs w r es clock)(hg:w.grownBy w' (some r)):BlkIs w' g t cs:=by
 refine h.grown hg (fun e => ?_)
 injection e with e
 subst e
 have h':w.heap[g]? = some (.cells cs t (0,0)):=h
 rw[show w.heap[g]? = some (.map es clock) from hm] at h'
 cases h'
end
def RdAt (l:List UInt8)(acc k:Nat):Prop:=rdF (10 - k) k acc (l.drop k)=rd l/\acc<128 ^ k/\k<=10
theorem RdAt.unfold {l:List UInt8}{acc k:Nat}(h:RdAt l acc k)(hk:k<l.length)(h10:k<10) :
  rd l=if k=9/\1<l[k].toNat then none else if 128<=l[k].toNat then rdF (10 - (k+1)) (k+1) (acc+l[k].toNat % 128*128 ^ k) (l.drop (k+1))
   else if l[k].toNat=0/\0<k then none else some (acc+l[k].toNat % 128*128 ^ k,k+1):=by
 rw[<-h.1,List.drop_eq_getElem_cons hk,show 10 - k=(10 - (k+1))+1 from by omega]
 rfl
theorem RdAt.out {l:List UInt8}{acc k:Nat}(h:RdAt l acc k)(hk:l.length<=k∨10<=k):rd l=none:=by
 rw[<-h.1]
 rcases hk with hk|hk
 ·rw[List.drop_eq_nil_of_le hk]
  cases 10 - k<;>rfl
 ·rw[show 10 - k=0 from by omega]
  rfl

theorem has_gives (w:World)(g o:Nat)(A:Option Addr)(len c n:Nat)(hlen:len<=9223372036854775807)(hc:w.cell? ⟨g,o,none⟩=some (.slice A len c)) :
  Calls Tryz.prog 171 #[.pointer (some ⟨g,o,none⟩),.int .u64 n] w fun e w'=>e = .returned (.bool (decide (n<=len)))/\w=w':=by
 go_enter Tryz.func171,Tryz.ntmps171
 go_wp2
 go_ret
 exact⟨rfl,rfl⟩
theorem take_gives (w:World)(g o:Nat)(A:Option Addr)(len c n:Nat)(hlen:len<=c)(hcc:c<=9223372036854775807)(hn:n<=len)(hc:w.cell? ⟨g,o,none⟩=some (.slice A len c))(hf:w.frozen? ⟨g,o,none⟩=false) :
  Calls Tryz.prog 172 #[.pointer (some ⟨g,o,none⟩),.int .i64 n] w fun e w'=>e = .returned (.slice A n n)/\w.setCell ⟨g,o,none⟩ (.slice (cutA A c n) (len - n) (c - n))=w':=by
 by_cases hcn:c=n
 ·obtain rfl:len=c:=by omega
  subst hcn
  go_enter Tryz.func172,Tryz.ntmps172
  go_wp2
  go_ret
  refine⟨rfl,?_⟩
  simp[cutA]
 ·go_enter Tryz.func172,Tryz.ntmps172
  go_wp2
  go_ret
  refine⟨rfl,?_⟩
  simp[cutA,hcn]
theorem rfix_snoc (l:List UInt8)(c:UInt8):rfix (l++[c])=256*rfix l+c.toNat:=by simp[rfix]
theorem rfix_take_succ {l:List UInt8}{k:Nat}(hk:k<l.length):rfix (l.take (k+1))=256*rfix (l.take k)+l[k].toNat:=by
 rw[qC hk,rfix_snoc]
theorem rfix_take_lt {l:List UInt8}{k m:Nat}(hk:k<=m)(hm:m<=8):rfix (l.take k)<18446744073709551616:=by
 have h1:=rfix_lt (l.take k)
 have h2:256 ^ (l.take k).length<=256 ^ 8:=Nat.pow_le_pow_right (by omega) (by simp;omega)
 have h3:(256:Nat) ^ 8=18446744073709551616:=by decide
 omega
theorem rfix_mul {l:List UInt8}{k m:Nat}(hk:k<m)(hm:m<=8):IntKind.u64.wrap (256*(rfix (l.take k):Int))=256*(rfix (l.take k):Int):=by
 have h1:=rfix_lt (l.take k)
 have h2:256 ^ (l.take k).length<=256 ^ 7:=Nat.pow_le_pow_right (by omega) (by simp;omega)
 have h3:(256:Nat) ^ 7=72057594037927936:=by decide
 rw[IntKind.wrap_u64]
 omega
theorem rfix_or {l:List UInt8}{k m:Nat}(hl:k<l.length)(hk:k<m)(hm:m<=8):bits .or .u64 (IntKind.u64.wrap ((rfix (l.take k):Int)*256)) (l[k].toNat:Int)=(rfix (l.take (k+1)):Int):=by
 have h0:=rfix_mul (l:=l) hk hm
 rw[Int.mul_comm,h0]
 have hc:=l[k].toNat_lt
 have h1:=rfix_take_lt (l:=l) (show k+1<=m from hk) hm
 rw[rfix_take_succ hl] at h1
 have h2:=u64_or_nat (256*rfix (l.take k)) l[k].toNat (by omega) (by omega)
 rw[show 256*(rfix (l.take k):Int)=((256*rfix (l.take k):Nat):Int) from by omega,h2,rfix_take_succ hl]
 congr 1
 exact nat_join 8 _ _ (by omega) (by omega)
def fixV (m:Nat)(l:List UInt8):Value:=if l.length<m then .tuple #[.int .u64 0,.int .i64 130] else .tuple #[.int .u64 (rfix (l.take m):Int),.int .i64 0]
theorem rnumber_gives (w:World)(g B:Nat)(A:Option Addr)(c:Nat)(l:List UInt8)(m:Nat)(hm:m<=8)(hB:B<=g)(h:InB w B A c l)(hc:w.cell? ⟨g,0,none⟩=some (.slice A l.length c))(hf:w.frozen? ⟨g,0,none⟩=false) :
  Calls Tryz.prog 124 #[.pointer (some ⟨g,0,none⟩),.int .i64 m] w fun e w'=>e = .returned (fixV m l)/\Below g w w':=by
 have hle:=h.le
 have hmax:=h.max
 unfold fixV
 by_cases hs:l.length<m
 ·rw[if_pos hs]
  have hd:decide (m<=l.length)=false:=by simp;omega
  go_enter Tryz.func124,Tryz.ntmps124
  go_wp2_with (first|(go_at_call 171;refine(has_gives _ g 0 A l.length c m (by omega) hc).mono ?_;rintro e w' ⟨rfl,rfl⟩))
  go_ret2
  exact⟨rfl,Below.refl _ _⟩
 ·rw[if_neg hs]
  have hd:decide (m<=l.length)=true:=by simp;omega
  have hin:InB (w.setCell ⟨g,0,none⟩ (.slice (cutA A c m) (l.length - m) (c - m))) B A c l:=h.keep fun p hp=>World.cell?_setCell_other w _ p _ (fun e=>by subst e;simp at hp;omega)
  go_enter Tryz.func124,Tryz.ntmps124
  go_wp2_with (first|(go_at_call 171;refine(has_gives _ g 0 A l.length c m (by omega) hc).mono ?_;rintro e w' ⟨rfl,rfl⟩)|(go_at_call 172;refine(take_gives _ g 0 A l.length c m (by omega) (by omega) (by omega) hc hf).mono ?_;rintro e w' ⟨rfl,rfl⟩))
  clear hc
  have hb:Below g w (w.setCell ⟨g,0,none⟩ (.slice (cutA A c m) (l.length - m) (c - m))):=(Below.refl g w).setCell (p:=⟨g,0,none⟩) (zG g) _
  generalize w.setCell ⟨g,0,none⟩ (.slice (cutA A c m) (l.length - m) (c - m))=W at *
  go_loop [4,21] (fun s i=>∃k:Nat,k<=m/\i = .int .i64 k/\s = .int .u64 (rfix (l.take k):Int)) (fun _ i=>m - (intOf i).toNat)
  case atStart=>exact⟨0,by omega,rfl,rfl⟩
  case round =>
   obtain⟨k,hk,rfl,rfl⟩:=hrel
   by_cases hlt:k<m
   ·have hkl:k<l.length:=by omega
    obtain⟨g',o,rfl,_,hc⟩:=hin.lies (by omega)
    have hck:=hc k hkl
    clear hc
    have hbd:=(l[k]).toNat_lt
    have h1:=rfix_or hkl hlt hm
    go_wp2_with fail
    refine⟨⟨k+1,by omega,by go_num,rfl⟩,by simp[intOf];omega⟩
   ·obtain rfl:k=m:=by omega
    go_wp2_with fail
    go_ret2
    exact⟨rfl,hb⟩
def fixV32 (l:List UInt8):Value:=if l.length<4 then .tuple #[.int .u32 0,.int .i64 130] else .tuple #[.int .u32 (rfix (l.take 4):Int),.int .i64 0]
theorem fixV_lt {m:Nat}{l:List UInt8}(h:l.length<m):fixV m l = .tuple #[.int .u64 0,.int .i64 130]:=by unfold fixV;rw[if_pos h]
theorem fixV_ge {m:Nat}{l:List UInt8}(h:¬ l.length<m):fixV m l = .tuple #[.int .u64 (rfix (l.take m):Int),.int .i64 0]:=by unfold fixV;rw[if_neg h]
theorem fixV32_lt {l:List UInt8}(h:l.length<4):fixV32 l = .tuple #[.int .u32 0,.int .i64 130]:=by unfold fixV32;rw[if_pos h]
theorem fixV32_ge {l:List UInt8}(h:¬ l.length<4):fixV32 l = .tuple #[.int .u32 (rfix (l.take 4):Int),.int .i64 0]:=by unfold fixV32;rw[if_neg h]
theorem readEight_gives (w:World)(A:Option Addr)(c:Nat)(l:List UInt8)(h:InB w w.heap.size A c l) :
  Calls Tryz.prog 135 #[.slice A l.length c] w fun e w'=>e = .returned (fixV 8 l)/\Below w.heap.size w w':=by
 have hb:Below w.heap.size w (w.alloc (Obj.cells #[Value.slice A l.length c] 182)):=(Below.refl _ _).alloc (zG _) _
 have H:=rnumber_gives (w.alloc (Obj.cells #[Value.slice A l.length c] 182)) w.heap.size w.heap.size A c l 8 (by omega) (zG _) (h.below hb) (new_cell _ _ _) (new_free _ _ _ _)
 by_cases hs:l.length<8
 ·rw[fixV_lt hs] at H ⊢
  go_enter Tryz.func135,Tryz.ntmps135
  go_wp2_with (go_at_call 124;refine H.mono ?_;rintro e w' ⟨rfl,hb2⟩)
  go_ret2
  exact⟨rfl,hb.trans hb2⟩
 ·rw[fixV_ge hs] at H ⊢
  go_enter Tryz.func135,Tryz.ntmps135
  go_wp2_with (go_at_call 124;refine H.mono ?_;rintro e w' ⟨rfl,hb2⟩)
  go_ret2
  exact⟨rfl,hb.trans hb2⟩
theorem readFour_gives (w:World)(A:Option Addr)(c:Nat)(l:List UInt8)(h:InB w w.heap.size A c l) :
  Calls Tryz.prog 73 #[.slice A l.length c] w fun e w'=>e = .returned (fixV32 l)/\Below w.heap.size w w':=by
 have hb:Below w.heap.size w (w.alloc (Obj.cells #[Value.slice A l.length c] 182)):=(Below.refl _ _).alloc (zG _) _
 have H:=rnumber_gives (w.alloc (Obj.cells #[Value.slice A l.length c] 182)) w.heap.size w.heap.size A c l 4 (by omega) (zG _) (h.below hb) (new_cell _ _ _) (new_free _ _ _ _)
 by_cases hs:l.length<4
 ·rw[fixV_lt hs] at H
  rw[fixV32_lt hs]
  go_enter Tryz.func73,Tryz.ntmps73
  go_wp2_with (go_at_call 124;refine H.mono ?_;rintro e w' ⟨rfl,hb2⟩)
  go_ret2
  exact⟨rfl,hb.trans hb2⟩
 ·rw[fixV_ge hs] at H
  rw[fixV32_ge hs]
  have h4:rfix (l.take 4)<4294967296:=by
   have h1:=rfix_lt (l.take 4)
   have h2:256 ^ (l.take 4).length<=256 ^ 4:=Nat.pow_le_pow_right (by omega) (by simp;omega)
   have h3:(256:Nat) ^ 4=4294967296:=by decide
   omega
  go_enter Tryz.func73,Tryz.ntmps73
  go_wp2_with (go_at_call 124;refine H.mono ?_;rintro e w' ⟨rfl,hb2⟩)
  go_ret2
  exact⟨rfl,hb.trans hb2⟩
theorem OwnB.below {w0 w w':World}{v:Value}{l:List UInt8}(h:OwnB w w0.heap.size v l)(hb:Below w0.heap.size w0 w)(hg:w.grownBy w' v.ownBlock):Below w0.heap.size w0 w' :=
 hb.grown hg hb.size (fun k hk=>(World.ownsRow.lt h k hk).1)
structure InN (w:World)(A:Option Addr)(xs:List Int):Prop where
 lies:0<xs.length->∃g o,A=some ⟨g,o,none⟩/\∀j (h:j<xs.length),w.cell? ⟨g,o+j,none⟩=some (.int .i64 xs[j])
theorem wrap_i64_fr (n:Int)(h0 : -9223372036854775808<=n)(h1:n<9223372036854775808):IntKind.i64.wrap n=n:=by
 simp[IntKind.wrap,IntKind.bits,IntKind.signed]
 split<;>omega
theorem indexFunc_gives (w:World)(A:Option Addr)(c:Nat)(xs:List Int)(h:InN w A xs)(hmax:xs.length<=9223372036854775807)(p:Int->Bool)(f:FuncId)(lb:Array Value)(ef:∀args w,(callFunc f args).run Tryz.prog w = .ok (.enter f args) w)
  (hf:∀x,Calls Tryz.prog f (#[.int .i64 x] ++ lb) w fun e w'=>e = .returned (.bool (p x))/\w=w') :
  Calls Tryz.prog 125 #[.slice A xs.length c,.func (.func f) #[] lb] w fun e w'=>(∃k:Int,e = .returned (.int .i64 k)/\decide (0<=k)=xs.any p)/\w=w':=by
 go_enter Tryz.func125,Tryz.ntmps125
 go_wp2_with fail
 go_loop [8] (fun i=>∃k:Nat,k<=xs.length/\i = .int .i64 k/\Hid ((xs.take k).any p=false)) (fun i=>xs.length - (intOf i).toNat)
 case atStart=>exact⟨0,Nat.zero_le _,rfl,Lib.hid (by simp)⟩
 case round =>
  obtain⟨k,hk,rfl,hno⟩:=hrel
  by_cases hlt:k<xs.length
  ·obtain⟨g,o,rfl,hc⟩:=h.lies (by omega)
   have hck:=hc k hlt
   have H:=hf xs[k]
   clear hc hf
   have hk1:IntKind.i64.wrap ((k:Int)+1)=(k:Int)+1:=wrap_i64_fr _ (by omega) (by omega)
   have hnext:p xs[k]=false->(xs.take (k+1)).any p=false:=by
    intro hp
    rw[qC hlt,List.any_append,hno.out]
    simp[hp]
   have hyes:p xs[k]=true->xs.any p=true:=fun hp=>List.any_eq_true.2 ⟨xs[k],qJ hlt,hp⟩
   cases hp:p xs[k] with
   | true =>
    have hy:=hyes hp
    rw[hp] at H
    go_wp2_with fail
    refine H.mono ?_
    clear H
    rintro e w' ⟨rfl,rfl⟩
    go_wp2
    go_ret
    exact⟨⟨(k:Int),rfl,by rw[hy];simp⟩,rfl⟩
   | false =>
    have hn:=Lib.hid (hnext hp)
    rw[hp] at H
    clear hnext hyes
    go_wp2_with fail
    refine H.mono ?_
    clear H
    rintro e w' ⟨rfl,rfl⟩
    go_wp2
    refine⟨⟨k+1,by omega,by go_num,hn⟩,by simp[intOf];omega⟩
  ·obtain rfl:k=xs.length:=by omega
   have hn:=hno.out
   rw[List.take_length] at hn
   have hN:=Lib.hid hn
   clear hn hno hf
   go_wp2
   go_ret
   exact⟨⟨-1,rfl,by rw[hN.out];simp⟩,rfl⟩
theorem within1_gives (w:World)(a b:Addr)(lo hi x:Int)(ha:w.cell? a=some (.int .i64 lo))(hb:w.cell? b=some (.int .i64 hi)) :
  Calls Tryz.prog 207 (#[.int .i64 x] ++ #[.pointer (some a),.pointer (some b)]) w fun e w'=>e = .returned (.bool (decide (x<lo) || decide (hi<x)))/\w=w':=by
 by_cases h1:x<lo
 ·go_enter Tryz.func207,Tryz.ntmps207
  go_wp2
  go_ret
  exact⟨by simp[h1],rfl⟩
 ·go_enter Tryz.func207,Tryz.ntmps207
  go_wp2
  go_ret
  have h2:decide (x<lo)=false:=decide_eq_false (by omega)
  exact⟨by rw[h2,Bool.false_or];rfl,rfl⟩
def isIn (lo hi:Int)(xs:List Int):Bool:=!xs.any (fun x=>decide (x<lo) || decide (hi<x))
theorem isIn_one (lo hi x:Int):isIn lo hi [x]=decide (lo<=x/\x<=hi):=by
 simp only[isIn,List.any_cons,List.any_nil,Bool.or_false]
 by_cases h1:x<lo<;>by_cases h2:hi<x<;>simp[h1,h2]<;>omega
theorem isIn_two (lo hi x y:Int):isIn lo hi [x,y]=(isIn lo hi [x] && isIn lo hi [y]):=by
 simp[isIn,Bool.not_or]
theorem within_gives (w:World)(A:Option Addr)(c:Nat)(xs:List Int)(h:InN w A xs)(hA:∀g o,A=some ⟨g,o,none⟩->g<w.heap.size)(hmax:xs.length<=9223372036854775807)(lo hi:Int) :
  Calls Tryz.prog 176 #[.int .i64 lo,.int .i64 hi,.slice A xs.length c] w fun e w'=>e = .returned (.bool (isIn lo hi xs))/\Below w.heap.size w w':=by
 have hb:Below w.heap.size w ((w.alloc (.cells #[.int .i64 lo] 3)).alloc (.cells #[.int .i64 hi] 3)):=((Below.refl _ _).alloc (zG _) _).alloc (by simp) _
 have b0:=(BlkIs.new w 3 #[.int .i64 lo]).alloc (.cells #[.int .i64 hi] 3)
 have b1:=BlkIs.new (w.alloc (.cells #[.int .i64 lo] 3)) 3 #[.int .i64 hi]
 rw[World.size_alloc] at b1
 have hin:InN ((w.alloc (.cells #[.int .i64 lo] 3)).alloc (.cells #[.int .i64 hi] 3)) A xs:=⟨fun hl=>by
  obtain⟨g,o,e,hc⟩:=h.lies hl
  exact⟨g,o,e,fun j hj=>(hb.cell (p:=⟨g,o+j,none⟩) (hA g o e)).trans (hc j hj)⟩⟩
 have H:=indexFunc_gives _ A c xs hin hmax (fun x=>decide (x<lo) || decide (hi<x)) 207 #[.pointer (some ⟨w.heap.size,0,none⟩),.pointer (some ⟨w.heap.size+1,0,none⟩)] (enters_of Tryz.func207 (by kernel_rfl) rfl)
  (fun x=>within1_gives _ _ _ lo hi x b0.boxed b1.boxed)
 have H2:Calls Tryz.prog 74 #[.slice A xs.length c,.func (.func 207) #[] #[.pointer (some ⟨w.heap.size,0,none⟩),.pointer (some ⟨w.heap.size+1,0,none⟩)]] ((w.alloc (.cells #[.int .i64 lo] 3)).alloc (.cells #[.int .i64 hi] 3))
   fun e w'=>e = .returned (.bool (xs.any (fun x=>decide (x<lo) || decide (hi<x))))/\((w.alloc (.cells #[.int .i64 lo] 3)).alloc (.cells #[.int .i64 hi] 3))=w':=by
  go_enter Tryz.func74,Tryz.ntmps74
  go_wp2_with fail
  refine H.mono ?_
  rintro e w' ⟨⟨k,rfl,hk⟩,rfl⟩
  have hK:=Lib.hid hk
  clear hk
  go_wp2
  go_ret
  exact⟨congrArg (fun b=>Ending.returned (.bool b)) hK.out,rfl⟩
 clear H
 go_enter Tryz.func176,Tryz.ntmps176
 go_wp2_with fail
 refine H2.mono ?_
 rintro e w' ⟨rfl,rfl⟩
 go_wp2
 go_ret
 exact⟨rfl,hb⟩
theorem grow_gives (n:Nat)(hn:n<=140737488355328)(w:World):Calls Tryz.prog 126 #[.slice none 0 0,.int .i64 n] w (GivesB w []):=by
 obtain⟨i0,hi,hz0,hz1,hz2⟩:=info_parts inf_u8
 have e0:IntKind.i64.wrap ((n:Int) - 0)=(n:Int):=by rw[wrap_i64_fr _ (by omega) (by omega)];omega
 have e1:IntKind.i64.wrap (n:Int)=(n:Int):=wrap_i64_fr _ (by omega) (by omega)
 by_cases h0:0<n
 ·have hr:=Lib.run_append_nil_zeros (P:=Tryz.prog) w 22 3 22 5 i0 (.int .u8 0) .i64 .i64 Tryz.underlying22 Tryz.underlying3 hi hz0 n h0 (by omega) (by omega) (by rw[hz2];omega)
  have hcap:=grownCap_le_maxLen w n 0 5 (by unfold maxLen;omega)
  have hcap':grownCap w n 0 5<=9223372036854775807:=by unfold maxLen at hcap;omega
  have hge:=grownCap_ge w n 0 5
  go_enter Tryz.func126,Tryz.ntmps126
  generalize grownCap w n 0 5=cap at *
  generalize hcur:Builtin.zeroCells (Value.int .u8 0).cells n++Builtin.zeroCells (Value.int .u8 0).cells (cap - n)=cur at *
  go_wp2_with (at_builtin;refine Lib.wpList_append_run _ rfl (.tmp 20) (.tmp 21) _ _ rfl _ _ rfl rfl _ _ hr ?_)
  go_ret
  have hB0:Below w.heap.size w (w.drew.alloc (.cells cur 5)):=((Below.refl _ w).drew).alloc (zG _) _
  refine⟨_,rfl,⟨by simp,.inr ⟨w.heap.size,cap,cur,rfl,zG _,heap_alloc_new w.drew _,Nat.zero_le _,hcap,?_,by simp⟩⟩,hB0⟩
  rw[<-hcur,Array.size_append,size_zeroCells,size_zeroCells]
  simp[Value.cells]
  omega
 ·obtain rfl:n=0:=by omega
  go_enter Tryz.func126,Tryz.ntmps126
  go_wp2
  go_ret
  exact⟨_,rfl,OwnB.nil _ _,Below.refl _ _⟩
theorem take_flat (ls:List (List UInt8))(k:Nat)(h:k<ls.length):(ls.take (k+1)).flatten=(ls.take k).flatten++ls[k]:=by
 rw[qC h,List.flatten_append]
 simp
theorem flat_le (ls:List (List UInt8))(k:Nat):(ls.take k).flatten.length<=ls.flatten.length:=by
 have:ls.flatten=(ls.take k).flatten++(ls.drop k).flatten:=by rw[<-List.flatten_append,List.take_append_drop]
 rw[this,zY]
 omega
theorem concat_gives (w:World)(A:Option Addr)(c:Nat)(zs:List (Piece w w.heap.size))(hI:InLL w w.heap.size A c zs)(hmax:(zs.map Piece.l).flatten.length<=1000000000) :
  Calls Tryz.prog 79 #[.slice A zs.length c] w (GivesB w (zs.map Piece.l).flatten):=by
 have hle:=hI.le
 have hmx:=hI.max
 have hfl:=fun k=>flat_le (zs.map Piece.l) k
 have hnx:∀k (h:k<zs.length),((zs.map Piece.l).take (k+1)).flatten=((zs.map Piece.l).take k).flatten++zs[k].1.2:=fun k h=>by
  rw[take_flat _ _ (by simpa using h)]
  simp[Piece.l]
 have hall:((zs.map Piece.l).take zs.length).flatten=(zs.map Piece.l).flatten:=by rw[qA (by simp)]
 generalize zs.map Piece.l=ls at *
 have HX:=Lib.hid hnx
 have HA:=Lib.hid hall
 clear hnx hall
 have hs0:(ls.take 0).flatten=[]:=by simp
 go_enter Tryz.func79,Tryz.ntmps79
 go_wp2_with fail
 go_loop [3,11] (fun s i=>∃k t:Nat,k<=zs.length/\i = .int .i64 k/\s = .int .i64 t/\t<=1000000000/\Hid (t=(ls.take k).flatten.length)) (fun _ i=>zs.length - (intOf i).toNat)
 case atStart=>exact⟨0,0,Nat.zero_le _,rfl,rfl,by omega,Lib.hid (by simp)⟩
 case round =>
  obtain⟨k,t,hk,rfl,rfl,ht,hT⟩:=hrel
  by_cases hlt:k<zs.length
  ·obtain⟨g,o,rfl,hg,hc⟩:=hI.lies (by omega)
   have hck:=hc k hlt
   have hval:zs[k].val = .slice zs[k].1.1.1 zs[k].1.2.length zs[k].1.1.2:=rfl
   rw[hval] at hck
   have hnext:t+zs[k].1.2.length=(ls.take (k+1)).flatten.length:=by rw[HX.out k hlt,zY,hT.out]
   have hbd:=hfl (k+1)
   have hN:=Lib.hid hnext
   have hbd2:t+zs[k].1.2.length<=1000000000:=by omega
   have hwr:IntKind.i64.wrap ((t:Int)+(zs[k].1.2.length:Int))=(t:Int)+(zs[k].1.2.length:Int):=wrap_i64_fr _ (by omega) (by omega)
   clear hc hval hnext hbd hfl
   go_wp2_with fail
   exact⟨⟨k+1,t+zs[k].1.2.length,by omega,by simp,by simp,hbd2,hN⟩,by simp[intOf];omega⟩
  ·obtain rfl:k=zs.length:=by omega
   go_wp2_with fail
   refine(grow_gives t (by omega) _).mono ?_
   rintro e w1 ⟨v,rfl,hown,hB⟩
   go_wp2_with fail
   go_loopw [6,27] (fun v i wr=>∃k:Nat,k<=zs.length/\i = .int .i64 k/\OwnB wr w.heap.size v (ls.take k).flatten/\Below w.heap.size w wr) (fun _ i _=>zs.length - (intOf i).toNat)
   case atStart=>exact⟨0,Nat.zero_le _,rfl,by simpa using hown,hB⟩
   case round =>
    obtain⟨k,hk,rfl,hown,hB⟩:=hrel
    have hBs:=hB.size
    by_cases hlt:k<zs.length
    ·obtain⟨g,o,rfl,hg,hc⟩:=hI.lies (by omega)
     have hck:=(hB.cell (p:=⟨g,o+k,none⟩) hg).trans (hc k hlt)
     have hval:zs[k].val = .slice zs[k].1.1.1 zs[k].1.2.length zs[k].1.1.2:=rfl
     rw[hval] at hck
     have hz:=(zs[k].2.below hB).more hBs
     have hbd:=hfl (k+1)
     rw[HX.out k hlt,zY] at hbd
     clear hc hval hfl
     have t1:(ls.take k).flatten.length+zs[k].1.2.length<=140737488355328:=by omega
     go_wp2_with (at_builtin;refine wp_appB rfl (.tmp 31) (.tmp 32) rfl w.heap.size u6 (ls.take k).flatten (by rfl) hown wr.heap.size zs[k].1.1.1 zs[k].1.1.2 zs[k].1.2 (by rfl) hz t1 hBs ?_;intro v' w2 hown2 hg2;have hB2:=hown.below hB hg2)
     refine⟨⟨k+1,by omega,by simp,by rw[HX.out k hlt];exact hown2,hB2⟩,by simp[intOf];omega⟩
    ·obtain rfl:k=zs.length:=by omega
     go_wp2
     go_ret
     rw[HA.out] at hown
     exact⟨_,rfl,hown,hB⟩
end Go.Proofs.YtnlimngkagmjpaaGreat
namespace Go.Proofs.YtnlimngkagmjpaaGreat
open Go Go.RowKit
def Grow (w w':World):Prop:=Below w.heap.size w w'
theorem Grow.refl (w:World):Grow w w:=Below.refl _ _
theorem Grow.trans {a b c:World}(h:Grow a b)(k:Grow b c):Grow a c:=Below.trans h (Below.mono k h.size)
theorem Grow.drew (w:World):Grow w w.drew:=(Below.refl _ _).drew
theorem Grow.alloc (w:World)(o:Obj):Grow w (w.alloc o):=(Below.refl _ _).alloc (zG _) o
namespace Reg
variable {P:Program}{ops:Array Oper}{FS:Tmp->Value->World->Prop}
def FSd (FS:Tmp->Value->World->Prop):Option Tmp->Value->World->Prop
 | some d,v,w=>FS d v w
 | none,_,_=>True
def OpOk (P:Program)(ops:Array Oper)(FS:Tmp->Value->World->Prop)(w0:World)(o:Oper):Prop :=
 ∀(a:Act) (w:World) (K:Act->World->Prop) (Q:Exit->Act->World->Prop),Grow w0 w->(∀t,(o.looksAt ops).contains t=true->FS t (a.eval (.tmp t)) w) ->
  (∀v w',Grow w w'->FSd FS o.dst v w'->K (a.put o.dst v) w') ->
  (if Region.wanted o (yielded ops a.tmps) then o.wp P a w K Q∨(o.asks P a w/\LetsOut Q) else K (a.put o.dst undef) w)
def AllOk (P:Program)(ops:Array Oper)(FS:Tmp->Value->World->Prop)(w0:World):List Oper->Prop
 | []=>True
 | o::r=>OpOk P ops FS w0 o/\AllOk P ops FS w0 r
theorem AllOk.get {w0:World}:∀{l:List Oper},AllOk P ops FS w0 l->∀o∈l,OpOk P ops FS w0 o
 | [],_,o,h=>by cases h
 | x::r,h,o,hm=>by
  rcases List.mem_cons.1 hm with rfl|hm
  ·exact h.1
  ·exact AllOk.get h.2 o hm
def covered (ops:Array Oper):Bool :=
 ops.toList.zipIdx.all fun (o,i) =>
  (o.after.toList.all fun e => !Region.binds .any e || decide (e.on<i)) &&
  (o.looksAt ops).all fun t=>ops.toList.zipIdx.all fun (p,j)=>p.dst != some t || (o.after.toList.any fun e=>Region.binds .any e && e.on == j)
def Known (ops:Array Oper)(listed:Array Bool)(t:Tmp):Prop:=∀(j:Nat) (p:Oper),ops[j]? = some p->p.dst=some t->listed.getD j true=true
structure J (ops:Array Oper)(FS:Tmp->Value->World->Prop)(w0:World)(n:Nat)(d:List Deferred)(listed:Array Bool)(a:Act)(w:World):Prop where
 size:a.tmps.size=n
 defers:a.defers=d
 grow:Grow w0 w
 facts:∀t,Known ops listed t->FS t (a.eval (.tmp t)) w
theorem eval_put_same {a:Act}{d:Tmp}{v:Value}(h:d<a.tmps.size):(a.put (some d) v).eval (.tmp d)=v:=by
 simp[Act.put,Act.eval,h]
theorem eval_put_other {a:Act}{d t:Tmp}{v:Value}(h:t≠d):(a.put (some d) v).eval (.tmp t)=a.eval (.tmp t):=by
 simp[Act.put,Act.eval,zT,Ne.symm h]
theorem ready_mem {i:Nat}{listed:Array Bool}(h:i∈Region.ready .any ops listed):∃o,ops[i]? = some o/\listed.getD i true=false/\∀e∈o.after.toList,Region.binds .any e=true->listed.getD e.on false=true:=by
 unfold Region.ready at h
 simp only[List.mem_filter,List.mem_range,Bool.and_eq_true,Bool.not_eq_true'] at h
 obtain⟨hi,h1,h2⟩:=h
 cases ho:ops[i]? with
 | none=>simp[ho] at h2
 | some o =>
  refine⟨o,rfl,h1,?_⟩
  simp only[ho,Option.map_some,Option.getD_some] at h2
  intro e he hb
  rw[Array.all_eq_true_iff_forall_mem] at h2
  have:=h2 e (Array.mem_toList_iff.1 he)
  simpa[hb] using this
theorem covered_spec (h:covered ops=true){i:Nat}{o:Oper}(ho:ops[i]? = some o) :
  (∀e∈o.after.toList,Region.binds .any e=true->e.on<i) /\
  (∀t,(o.looksAt ops).contains t=true->∀(j:Nat) (p:Oper),ops[j]? = some p->p.dst=some t->∃e∈o.after.toList,Region.binds .any e=true/\e.on=j):=by
 unfold covered at h
 rw[qG] at h
 have hm:(o,i)∈ops.toList.zipIdx:=by
  rw[List.mem_zipIdx_iff_getElem?]
  simpa using ho
 have:=h _ hm
 simp only[Bool.and_eq_true,qG] at this
 obtain⟨h1,h2⟩:=this
 constructor
 ·intro e he hb
  have:=h1 e he
  simpa[hb] using this
 ·intro t ht j p hp hd
  have hp':(p,j)∈ops.toList.zipIdx:=by
   rw[List.mem_zipIdx_iff_getElem?]
   simpa using hp
  have:=h2 t (by simpa using ht) _ hp'
  simp only[hd,bne_self_eq_false,Bool.false_or,List.any_eq_true,Bool.and_eq_true,beq_iff_eq] at this
  obtain⟨e,he,hb,hj⟩:=this
  exact⟨e,he,hb,hj⟩
def left (listed:Array Bool):Nat:=(listed.toList.filter (! ·)).length
theorem region_wpAny (hm:P.follows .mixedOrders=true)(hcov:covered ops=true){a0:Act}{w0:World}{Q:Exit->Act->World->Prop}(n:Nat)(hn:a0.tmps.size=n)
  (hdst:∀o∈ops.toList,∀d,o.dst=some d->d<n) (FS:Tmp->Value->World->Prop)
  (hstab:∀t v w w',FS t v w->Grow w w'->FS t v w')
  (hstart:∀t,(∀o∈ops.toList,o.dst≠some t)->FS t (a0.eval (.tmp t)) w0)
  (hok:AllOk P ops FS w0 ops.toList)
  (hend:∀a w,a.tmps.size=n->a.defers=a0.defers->Grow w0 w->(∀t,FS t (a.eval (.tmp t)) w)->Q .normal a w) :
  wpAny P .any ops Q ops.size (Array.replicate ops.size false) a0 { w0 with drawn:=w0.drawn+1 }:=by
 have key:∀(fuel:Nat) (listed:Array Bool) (a:Act) (w:World),listed.size=ops.size->left listed<=fuel->J ops FS w0 n a0.defers listed a w->wpAny P .any ops Q fuel listed a w:=by
  intro fuel
  have hdone:∀(listed:Array Bool) (a:Act) (w:World),listed.size=ops.size->J ops FS w0 n a0.defers listed a w->Region.ready .any ops listed=[]->Q .normal a w:=by
   intro listed a w hs hJ hr
   have hall:∀i,i<ops.size->listed.getD i true=true:=by
    intro i
    induction i using Nat.strongRecOn with
    | _ i ih =>
     intro hi
     cases hl:listed.getD i true with
     | true=>rfl
     | false =>
      exfalso
      have:i∈Region.ready .any ops listed:=by
       unfold Region.ready
       simp only[List.mem_filter,List.mem_range,Bool.and_eq_true,Bool.not_eq_true']
       refine⟨hi,hl,?_⟩
       have ho:ops[i]? = some ops[i]:=Array.getElem?_eq_getElem hi
       simp only[ho,Option.map_some,Option.getD_some]
       rw[Array.all_eq_true_iff_forall_mem]
       intro e he
       have hc:=(covered_spec hcov ho).1 e (Array.mem_toList_iff.2 he)
       cases hb:Region.binds .any e with
       | false=>simp
       | true =>
        have hlt:=hc hb
        have h1:=ih e.on hlt (by omega)
        have h2:e.on<listed.size:=by omega
        simp only[Array.getD,h2,dif_pos] at h1 ⊢
        simpa using h1
      rw[hr] at this
      cases this
   refine hend a w hJ.size hJ.defers hJ.grow (fun t=>hJ.facts t ?_)
   intro j p hp _
   exact hall j (zH.1 hp).1
  induction fuel with
  | zero =>
   intro listed a w hs hf hJ
   have hr:Region.ready .any ops listed=[]:=by
    rcases hr:Region.ready .any ops listed with _|⟨i,r⟩
    ·rfl
    ·exfalso
     obtain⟨o,ho,hl,_⟩:=ready_mem (ops:=ops) (listed:=listed) (i:=i) (by rw[hr];simp)
     have hi:i<listed.size:=by rw[hs];exact(zH.1 ho).1
     have hmem:listed[i]∈listed.toList.filter (! ·):=by
      rw[List.mem_filter]
      refine⟨by simp,?_⟩
      have hl':listed[i]=false:=by simpa[Array.getD,hi] using hl
      simp[hl']
     have:0<left listed:=List.length_pos_of_mem hmem
     omega
   exact⟨hr,hdone listed a w hs hJ hr⟩
  | succ fuel ih =>
   intro listed a w hs hf hJ
   refine⟨hdone listed a w hs hJ,fun i hi => ?_⟩
   obtain⟨o,ho,hl,hedges⟩:=ready_mem hi
   have hom:o∈ops.toList:=by
    obtain⟨h1,h2⟩:=zH.1 ho
    subst h2
    simp
   have hisz:i<listed.size:=by rw[hs];exact(zH.1 ho).1
   have hlook:∀t,(o.looksAt ops).contains t=true->FS t (a.eval (.tmp t)) w:=by
    intro t ht
    refine hJ.facts t ?_
    intro j p hp hd
    obtain⟨e,he,hb,rfl⟩:=(covered_spec hcov ho).2 t ht j p hp hd
    have:=hedges e he hb
    have hlt:e.on<listed.size:=by rw[hs];exact(zH.1 hp).1
    simp only[Array.getD,hlt,dif_pos] at this ⊢
    exact this
   have hnext:∀v w',Grow w w'->FSd FS o.dst v w'->wpAny P .any ops Q fuel (listed.setIfInBounds i true) (a.put o.dst v) w':=by
    intro v w' hg hv
    refine ih _ _ _ (by simpa using hs) ?_ ⟨?_,?_,hJ.grow.trans hg,?_⟩
    ·have hl':listed[i]=false:=by simpa[Array.getD,hisz] using hl
     have:left (listed.setIfInBounds i true)<left listed:=by
      unfold left
      rw[Array.toList_setIfInBounds]
      have e1:listed.toList=listed.toList.take i++false::listed.toList.drop (i+1):=by
       have h3:listed.toList[i]'(by simpa using hisz)=false:=by simpa using hl'
       conv=>lhs;rw[<-List.take_append_drop i listed.toList,List.drop_eq_getElem_cons (by simpa using hisz),h3]
      rw[List.set_eq_take_append_cons_drop,if_pos (by simpa using hisz)]
      conv=>rhs;rw[e1]
      simp
     omega
    ·cases hd:o.dst with
     | none=>simpa[Act.put] using hJ.size
     | some d=>simpa[Act.put] using hJ.size
    ·cases hd:o.dst with
     | none=>simpa[Act.put] using hJ.defers
     | some d=>simpa[Act.put] using hJ.defers
    ·intro t ht
     by_cases hdt:o.dst=some t
     ·rw[hdt] at hv ⊢
      rw[eval_put_same (by rw[hJ.size];exact hdst o hom t hdt)]
      exact hv
     ·have hk:Known ops listed t:=by
       intro j p hp hd
       have:=ht j p hp hd
       by_cases e:i=j
       ·subst e
        rw[ho] at hp
        injection hp with hp
        subst hp
        exact absurd hd hdt
       ·simpa[zT,zM,e] using this
      have:=hstab t _ w w' (hJ.facts t hk) hg
      cases hd:o.dst with
      | none=>simpa[Act.put] using this
      | some d =>
       rw[eval_put_other (by intro e;subst e;exact hdt hd)]
       exact this
   have:=AllOk.get hok o hom a w _ Q hJ.grow hlook hnext
   unfold wpOp
   simp only[ho]
   exact this
 refine key ops.size _ a0 _ (by simp) ?_ ⟨hn,rfl,Grow.drew w0,?_⟩
 ·unfold left
  simp
 ·intro t ht
  refine hstab t _ w0 _ (hstart t ?_) (Grow.drew w0)
  intro o ho hd
  obtain⟨i,hi,rfl⟩:=List.getElem_of_mem ho
  have hi':i<ops.size:=by simpa using hi
  have:=ht i ops[i] (Array.getElem?_eq_getElem hi') (by simpa using hd)
  simp[Array.getD,hi'] at this
theorem region (hm:P.follows .mixedOrders=true)(hcov:covered ops=true){id:Nat}{a0:Act}{w0:World}{Q:Exit->Act->World->Prop}(n:Nat)(hn:a0.tmps.size=n)
  (hdst:∀o∈ops.toList,∀d,o.dst=some d->d<n) (FS:Tmp->Value->World->Prop)
  (hstab:∀t v w w',FS t v w->Grow w w'->FS t v w')
  (hstart:∀t,(∀o∈ops.toList,o.dst≠some t)->FS t (a0.eval (.tmp t)) w0)
  (hok:AllOk P ops FS w0 ops.toList)
  (hend:∀a w,a.tmps.size=n->a.defers=a0.defers->Grow w0 w->(∀t,FS t (a.eval (.tmp t)) w)->Q .normal a w) :
  (Code.region id ops true).wp P Q a0 w0 :=
 wp_region_any hm (region_wpAny hm hcov n hn hdst FS hstab hstart hok hend)
variable {w0:World}{o:Oper}
def RunOk (P:Program)(ops:Array Oper)(FS:Tmp->Value->World->Prop)(w0:World)(o:Oper):Prop :=
 ∀(a:Act) (w:World) (K:Act->World->Prop) (Q:Exit->Act->World->Prop),Grow w0 w->(∀t,(o.looksAt ops).contains t=true->FS t (a.eval (.tmp t)) w) ->
  (∀v w',Grow w w'->FSd FS o.dst v w'->K (a.put o.dst v) w')->o.wp P a w K Q
theorem ok_none (hg:o.guard=none)(h:RunOk P ops FS w0 o):OpOk P ops FS w0 o:=by
 intro a w K Q hG hl hK
 rw[if_pos (by simp[Region.wanted,hg])]
 exact .inl (h a w K Q hG hl hK)
theorem ok_guard (j:Nat)(want:Bool)(d:Tmp)(hg:o.guard=some (j,want))(hd:(ops[j]?).bind (·.dst)=some d)(hl:(o.looksAt ops).contains d=true)(hF:∀v w,FS d v w->v = .bool want)
  (h:RunOk P ops FS w0 o):OpOk P ops FS w0 o:=by
 intro a w K Q hG hlk hK
 have e:=hF _ _ (hlk d hl)
 have hw:Region.wanted o (yielded ops a.tmps)=true:=by
  have h2:a.tmps[d]? = some (.bool want):=by
   replace e:a.tmps.getD d undef = .bool want:=e
   rw[zT] at e
   cases hx:a.tmps[d]? with
   | none=>rw[hx] at e;cases e
   | some x=>rw[hx] at e;simpa using e
  simp[Region.wanted,hg,yielded,hd,h2]
 rw[if_pos hw]
 exact .inl (h a w K Q hG hlk hK)
def Has (ops:Array Oper)(FS:Tmp->Value->World->Prop)(o:Oper)(x:Operand)(v:Value):Prop :=
 ∀(a:Act) (w:World),(∀t,(o.looksAt ops).contains t=true->FS t (a.eval (.tmp t)) w)->a.eval x=v
theorem has_tmp {t:Tmp}{v:Value}(h:(o.looksAt ops).contains t=true)(hF:∀u w,FS t u w->u=v):Has ops FS o (.tmp t) v:=fun _ _ hl=>hF _ _ (hl t h)
theorem has_const {v:Value}:Has ops FS o (.const v) v:=fun _ _ _=>rfl
theorem run_mvF (t:Tmp)(ho:o.op = .move (.tmp t)∨o.op = .assign (.tmp t))(hc:(o.looksAt ops).contains t=true)(hd:∀v w,FS t v w->FSd FS o.dst v w):RunOk P ops FS w0 o:=by
 intro a w K Q hG hl hK
 unfold Oper.wp execOp
 rcases ho with ho|ho<;>simp only[ho,Sem.run_pure,Oper.upon_value]<;>exact hK _ w (Grow.refl w) (hd _ _ (hl t hc))
theorem run1 (x:Operand){u r:Value}(hx:Has ops FS o x u)(hrun:∀(ρ:Operand->Value) (w:World),ρ x=u->(execOp ρ o).run P w = .ok (.value r) w)(hd:∀w,FSd FS o.dst r w):RunOk P ops FS w0 o:=by
 intro a w K Q hG hl hK
 unfold Oper.wp
 rw[hrun a.eval w (hx a w hl)]
 exact hK r w (Grow.refl w) (hd w)
theorem run2 (x y:Operand){u v r:Value}(hx:Has ops FS o x u)(hy:Has ops FS o y v)(hrun:∀(ρ:Operand->Value) (w:World),ρ x=u->ρ y=v->(execOp ρ o).run P w = .ok (.value r) w)(hd:∀w,FSd FS o.dst r w):RunOk P ops FS w0 o:=by
 intro a w K Q hG hl hK
 unfold Oper.wp
 rw[hrun a.eval w (hx a w hl) (hy a w hl)]
 exact hK r w (Grow.refl w) (hd w)
theorem run_call (f:FuncId)(xs:Array Operand)(ts:Array TypeId)(ho:o.op = .call { callee:=.value (.func f),args:=xs,argTypes:=ts })(hent:∀args w,(callFunc f args).run P w = .ok (.enter f args) w)
  (args:Array Value) (hargs:∀(a:Act) (w:World),(∀t,(o.looksAt ops).contains t=true->FS t (a.eval (.tmp t)) w)->xs.map a.eval=args)
  (hC:∀w,Grow w0 w->Calls P f args w fun e w'=>∃v,e = .returned v/\Grow w w'/\FSd FS o.dst v w'):RunOk P ops FS w0 o:=by
 intro a w K Q hG hl hK
 have e:=hargs a w hl
 unfold Oper.wp
 have hr:(execOp a.eval o).run P w = .ok (.enter f args) w:=by
  have e':(Array.map a.eval xs)=args:=e
  have ef:a.eval (.func f) = .func (.func f) #[] #[]:=rfl
  have h:=hent args w
  simp[execOp,ho,resolve,e',ef,Deferred.ofValue,invoke,h]
 rw[hr,Oper.upon_enter]
 refine(hC w hG).mono ?_
 rintro e w' ⟨v,rfl,hg,hf⟩
 exact hK v w' hg hf
end Reg
end Go.Proofs.YtnlimngkagmjpaaGreat
namespace Go.Proofs.YtnlimngkagmjpaaGreat
open Go Go.RowKit Lou
inductive Fact where
 | val (v:Value)
 | res (l:List UInt8)
 | any
 | pred (p:Value->World->Prop) (h:∀v w w',p v w->Grow w w'->p v w')
def Fact.holds:Fact->Value->World->Prop
 | .val x,v,_=>v=x
 | .res l,v,w=>∃A c,v = .slice A l.length c/\InB w w.heap.size A c l
 | .any,_,_=>True
 | .pred p _,v,w=>p v w
theorem Fact.stable (f:Fact){v:Value}{w w':World}(h:f.holds v w)(hg:Grow w w'):f.holds v w':=by
 cases f with
 | val x=>exact h
 | res l =>
  obtain⟨A,c,e,hin⟩:=h
  exact⟨A,c,e,(hin.below hg).more hg.size⟩
 | any=>trivial
 | pred p hp=>exact hp v w w' h hg
def factOf:List (Nat×Fact)->Nat->Fact
 | [],_ => .any
 | (k,f)::r,t=>if k == t then f else factOf r t
def FSof (L:List (Nat×Fact))(t:Tmp)(v:Value)(w:World):Prop:=(factOf L t).holds v w
theorem FSof.stable (L:List (Nat×Fact))(t:Tmp)(v:Value)(w w':World)(h:FSof L t v w)(hg:Grow w w'):FSof L t v w':=Fact.stable _ h hg
def written (ops:Array Oper)(t:Nat):Bool:=ops.toList.any fun o=>o.dst == some t
def dstsIn (ops:Array Oper)(n:Nat):Bool:=ops.toList.all fun o=>match o.dst with|some d=>decide (d<n)|none=>true
namespace Reg
def StartOk (a0:Act)(w0:World):List (Nat×Fact)->Prop
 | []=>True
 | (k,f)::r=>f.holds (a0.eval (.tmp k)) w0/\StartOk a0 w0 r
theorem start_fact {a0:Act}{w0:World}{ops:Array Oper}:∀(V W:List (Nat×Fact)),StartOk a0 w0 V->(W.all fun p=>written ops p.1)=true->∀t,(∀o∈ops.toList,o.dst≠some t)->(factOf (V++W) t).holds (a0.eval (.tmp t)) w0
 | [],[],_,_,t,_=>by simp[factOf,Fact.holds]
 | [],(k,f)::r,hV,hW,t,ht=>by
  simp only[List.all_cons,Bool.and_eq_true] at hW
  simp only[zQ,factOf]
  split
  ·rename_i e
   obtain rfl:k=t:=by simpa using e
   exfalso
   have:=hW.1
   simp only[written,List.any_eq_true,beq_iff_eq] at this
   obtain⟨o,ho,hd⟩:=this
   exact ht o ho hd
  ·exact start_fact [] r hV hW.2 t ht
 | (k,f)::r,W,hV,hW,t,ht=>by
  simp only[zW,factOf]
  split
  ·rename_i e
   obtain rfl:k=t:=by simpa using e
   exact hV.1
  ·exact start_fact r W hV.2 hW t ht
theorem allOk_cons {P:Program}{ops:Array Oper}{FS:Tmp->Value->World->Prop}{w0:World}{o:Oper}{r:List Oper}(h:OpOk P ops FS w0 o)(k:AllOk P ops FS w0 r):AllOk P ops FS w0 (o::r):=⟨h,k⟩
theorem allOk_nil {P:Program}{ops:Array Oper}{FS:Tmp->Value->World->Prop}{w0:World}:AllOk P ops FS w0 []:=trivial
section rules
variable {ops:Array Oper}{FS:Tmp->Value->World->Prop}{w0:World}{o:Oper}
theorem rule_convS (x:Operand)(S D:TypeId){u r:Value}(ho:o.op = .convert S D x)(hx:Has ops FS o x u)(hrun:∀w,Grow w0 w->(convert S D u).run Tryz.prog w = .ok r w)(hd:∀w,FSd FS o.dst r w):RunOk Tryz.prog ops FS w0 o:=by
 intro a w K Q hG hl hK
 have e:=hx a w hl
 unfold Oper.wp
 have hr:(execOp a.eval o).run Tryz.prog w = .ok (.value r) w:=by simp[execOp,ho,e,hrun w hG,Result.andThen]
 rw[hr]
 exact hK r w (Grow.refl w) (hd w)
theorem args1 {x:Operand}{u:Value}(h:Has ops FS o x u):∀(a:Act) (w:World),(∀t,(o.looksAt ops).contains t=true->FS t (a.eval (.tmp t)) w)->Array.map a.eval #[x]=#[u]:=fun a w hl=>by simp[h a w hl]
end rules
theorem gives_grow {P:Program}{w:World}{f:FuncId}{args:Array Value}{v:Value}(h:Calls P f args w fun e w'=>e = .returned v/\Below w.heap.size w w'):Calls P f args w fun e w'=>∃u,e = .returned u/\Grow w w'/\u=v :=
 h.mono (by rintro e w' ⟨rfl,hB⟩;exact⟨_,rfl,hB,rfl⟩)
theorem gives_res {w:World}{f:FuncId}{args:Array Value}{l:List UInt8}(h:Calls Tryz.prog f args w (GivesB w l)):Calls Tryz.prog f args w fun e w'=>∃v,e = .returned v/\Grow w w'/\(Fact.res l).holds v w' :=
 h.mono fun e w' ⟨v,he,hown,hB⟩=>⟨v,he,hB,hown.inB⟩
def FD (L:List (Nat×Fact)):Option Tmp->Fact
 | some d=>factOf L d
 | none => .any
theorem fsd {L:List (Nat×Fact)}{d:Option Tmp}{f:Fact}{v:Value}{w:World}(h:FD L d=f)(hv:f.holds v w):FSd (FSof L) d v w:=by
 cases d with
 | none=>trivial
 | some d=>subst h;exact hv
section lists
variable {L:List (Nat×Fact)}{ops:Array Oper}{w0:World}{o:Oper}{P:Program}
theorem hs (t:Tmp)(v:Value)(hc:(o.looksAt ops).contains t=true)(hF:factOf L t = .val v):Has ops (FSof L) o (.tmp t) v :=
 has_tmp hc fun u w h=>by
  have h':(factOf L t).holds u w:=h
  rw[hF] at h'
  exact h'
theorem hc (v:Value):Has ops (FSof L) o (.const v) v:=has_const
theorem okg (j:Nat)(want:Bool)(d:Tmp)(hg:o.guard=some (j,want))(hd:(ops[j]?).bind (·.dst)=some d)(hl:(o.looksAt ops).contains d=true)(hF:factOf L d = .val (.bool want))
  (h:RunOk P ops (FSof L) w0 o):OpOk P ops (FSof L) w0 o :=
 ok_guard j want d hg hd hl (fun v w h=>by
  have h':(factOf L d).holds v w:=h
  rw[hF] at h'
  exact h') h
theorem l_mvF (t:Tmp)(f:Fact)(ho:o.op = .move (.tmp t)∨o.op = .assign (.tmp t))(hc:(o.looksAt ops).contains t=true)(hF:factOf L t=f)(hd:FD L o.dst=f):RunOk P ops (FSof L) w0 o :=
 run_mvF t ho hc fun v w h=>fsd hd (by
  have h':(factOf L t).holds v w:=h
  rw[hF] at h'
  exact h')
theorem l_run1 (x:Operand)(u r:Value)(hx:Has ops (FSof L) o x u)(hrun:∀(ρ:Operand->Value) (w:World),ρ x=u->(execOp ρ o).run P w = .ok (.value r) w)(hd:FD L o.dst = .val r):RunOk P ops (FSof L) w0 o :=
 run1 x hx hrun fun _=>fsd hd rfl
theorem l_convS (x:Operand)(S D:TypeId)(u r:Value)(ho:o.op = .convert S D x)(hx:Has ops (FSof L) o x u)(hrun:∀w,Grow w0 w->(convert S D u).run Tryz.prog w = .ok r w)(hd:FD L o.dst = .val r):RunOk Tryz.prog ops (FSof L) w0 o :=
 rule_convS x S D ho hx hrun fun _=>fsd hd rfl
theorem l_call (f:FuncId)(xs:Array Operand)(ts:Array TypeId)(ho:o.op = .call { callee:=.value (.func f),args:=xs,argTypes:=ts })(hent:∀args w,(callFunc f args).run P w = .ok (.enter f args) w)
  (args:Array Value) (g:Fact) (hargs:∀(a:Act) (w:World),(∀t,(o.looksAt ops).contains t=true->FSof L t (a.eval (.tmp t)) w)->xs.map a.eval=args)
  (hC:∀w,Grow w0 w->Calls P f args w fun e w'=>∃v,e = .returned v/\Grow w w'/\g.holds v w') (hd:FD L o.dst=g):RunOk P ops (FSof L) w0 o :=
 run_call f xs ts ho hent args hargs fun w hG=>(hC w hG).mono fun _ _ ⟨v,e,hg,hh⟩=>⟨v,e,hg,fsd hd hh⟩
theorem l_callP (f:FuncId)(t:Tmp)(p:Value->World->Prop)(hp:∀v w w',p v w->Grow w w'->p v w')(ts:Array TypeId)(ho:o.op = .call { callee:=.value (.func f),args:=#[.tmp t],argTypes:=ts })(hent:∀args w,(callFunc f args).run P w = .ok (.enter f args) w)
  (g:Fact) (hc:(o.looksAt ops).contains t=true) (hF:factOf L t = .pred p hp)
  (hC:∀w u,Grow w0 w->p u w->Calls P f #[u] w fun e w'=>∃v,e = .returned v/\Grow w w'/\g.holds v w') (hd:FD L o.dst=g):RunOk P ops (FSof L) w0 o:=by
 intro a w K Q hG hl hK
 have h':(factOf L t).holds (a.eval (.tmp t)) w:=hl t hc
 rw[hF] at h'
 have e:a.eval (.tmp t)=a.eval (.tmp t):=rfl
 revert h' e
 generalize hu:a.eval (.tmp t)=u
 intro h' _
 unfold Oper.wp
 have hr:(execOp a.eval o).run P w = .ok (.enter f #[u]) w:=by
  have ef:a.eval (.func f) = .func (.func f) #[] #[]:=rfl
  have h:=hent #[u] w
  simp[execOp,ho,resolve,hu,ef,Deferred.ofValue,invoke,h]
 rw[hr,Oper.upon_enter]
 refine(hC w u hG h').mono ?_
 rintro e w' ⟨v,rfl,hg,hf⟩
 exact hK v w' hg (fsd hd hf)
theorem l_run2W (x y:Operand)(g:Fact)(u v:Value)(hx:Has ops (FSof L) o x u)(hy:Has ops (FSof L) o y v)
  (hrun:∀(ρ:Operand->Value) (w:World),Grow w0 w->ρ x=u->ρ y=v->∃r w',(execOp ρ o).run P w = .ok (.value r) w'/\Grow w w'/\g.holds r w') (hd:FD L o.dst=g):RunOk P ops (FSof L) w0 o:=by
 intro a w K Q hG hl hK
 obtain⟨r,w',h1,h2,h3⟩:=hrun a.eval w hG (hx a w hl) (hy a w hl)
 unfold Oper.wp
 rw[h1]
 exact hK r w' h2 (fsd hd h3)
theorem l_run1W (x:Operand)(g:Fact)(u:Value)(hx:Has ops (FSof L) o x u)
  (hrun:∀(ρ:Operand->Value) (w:World),Grow w0 w->ρ x=u->∃r w',(execOp ρ o).run P w = .ok (.value r) w'/\Grow w w'/\g.holds r w') (hd:FD L o.dst=g):RunOk P ops (FSof L) w0 o:=by
 intro a w K Q hG hl hK
 obtain⟨r,w',h1,h2,h3⟩:=hrun a.eval w hG (hx a w hl)
 unfold Oper.wp
 rw[h1]
 exact hK r w' h2 (fsd hd h3)
end lists
end Reg
namespace Reg
theorem OpOk.mono {P:Program}{ops:Array Oper}{FS FS':Tmp->Value->World->Prop}{w0:World}{o:Oper}(h:OpOk P ops FS w0 o)(h1:∀t v w,FS' t v w->FS t v w)(h2:∀d v w,o.dst=some d->FS d v w->FS' d v w):OpOk P ops FS' w0 o:=by
 intro a w K Q hG hl hK
 refine h a w K Q hG (fun t ht=>h1 _ _ _ (hl t ht)) (fun v w' hg hf=>hK v w' hg ?_)
 cases hd:o.dst with
 | none=>trivial
 | some d =>
  rw[hd] at hf
  exact h2 d v w' hd hf
theorem AllOk.mono {P:Program}{ops:Array Oper}{FS FS':Tmp->Value->World->Prop}{w0:World}(h1:∀t v w,FS' t v w->FS t v w):∀{l:List Oper},(∀o∈l,∀d v w,o.dst=some d->FS d v w->FS' d v w)->AllOk P ops FS w0 l->AllOk P ops FS' w0 l
 | [],_,_=>trivial
 | o::r,h2,h=>⟨h.1.mono h1 (h2 o (List.mem_cons_self ..)),h.2.mono h1 fun o ho=>h2 o (List.mem_cons_of_mem _ ho)⟩
def dstsAre (ops:Array Oper)(D:List Nat):Bool:=ops.toList.all fun o=>match o.dst with|some d=>D.contains d|none=>true
theorem region_acts {P:Program}{ops:Array Oper}(hm:P.follows .mixedOrders=true)(hcov:covered ops=true){id:Nat}{a0:Act}{w0:World}{Q:Exit->Act->World->Prop}(n:Nat)(hn:a0.tmps.size=n)
  (hdst:dstsIn ops n=true) (D:List Nat) (hD:dstsAre ops D=true) (V W:List (Nat×Fact)) (hV:StartOk a0 w0 V) (hW:(W.all fun p=>written ops p.1)=true)
  (hok:AllOk P ops (FSof (V++W)) w0 ops.toList)
  (hend:∀a w,a.tmps.size=n->a.defers=a0.defers->Grow w0 w->(∀t,FSof (V++W) t (a.eval (.tmp t)) w)->(∀t,D.contains t=false->a.eval (.tmp t)=a0.eval (.tmp t))->Q .normal a w) :
  (Code.region id ops true).wp P Q a0 w0:=by
 have hD':∀o∈ops.toList,∀d,o.dst=some d->D.contains d=true:=by
  intro o ho d hd
  unfold dstsAre at hD
  rw[qG] at hD
  have:=hD o ho
  simpa[hd] using this
 refine region hm hcov n hn ?_ (fun t v w=>FSof (V++W) t v w/\(D.contains t=false->v=a0.eval (.tmp t))) (fun t v w w' h hg=>⟨FSof.stable _ _ _ _ _ h.1 hg,h.2⟩) (fun t ht=>⟨start_fact V W hV hW t ht,fun _=>rfl⟩)
  (AllOk.mono (fun _ _ _ h=>h.1) (fun o ho d v w hd h=>⟨h,fun hn=>by rw[hD' o ho d hd] at hn;cases hn⟩) hok) ?_
 ·intro o ho d hd
  unfold dstsIn at hdst
  rw[qG] at hdst
  have:=hdst o ho
  simpa[hd] using this
 ·intro a w h1 h2 h3 h4
  exact hend a w h1 h2 h3 (fun t=>(h4 t).1) (fun t=>(h4 t).2)
theorem acts_eq {a a0:Act}:∀(D:List Nat),a.tmps.size=a0.tmps.size->a.defers=a0.defers->(∀t,D.contains t=false->a.eval (.tmp t)=a0.eval (.tmp t))->a=D.foldl (fun x d=>x.put (some d) (a.eval (.tmp d))) a0:=by
 have size_put:∀(x:Act) d v,(x.put (some d) v).tmps.size=x.tmps.size:=by intro x d v;simp[Act.put]
 have key:∀(D:List Nat) (b:Act),a.tmps.size=b.tmps.size->a.defers=b.defers->(∀t,D.contains t=false->a.eval (.tmp t)=b.eval (.tmp t))->a=D.foldl (fun x d=>x.put (some d) (a.eval (.tmp d))) b:=by
  intro D
  induction D with
  | nil =>
   intro b hs hd h
   have:a.tmps=b.tmps:=by
    apply Array.ext hs
    intro i h1 h2
    have:=h i rfl
    simpa[Act.eval,Array.getD,h1,h2] using this
   cases a;cases b;simp_all
  | cons d r ih =>
   intro b hs hd h
   rw[List.foldl_cons]
   refine ih _ (by rw[size_put];exact hs) (by simp[Act.put,hd]) ?_
   intro t ht
   by_cases e:t=d
   ·subst e
    by_cases hlt:t<b.tmps.size
    ·rw[eval_put_same hlt]
    ·have h1:¬ t<a.tmps.size:=by omega
     simp[Act.put,Act.eval,zT,h1,hlt]
   ·rw[eval_put_other e]
    exact h t (by simp only[List.contains_cons,Bool.or_eq_false_iff];exact⟨by simpa using e,ht⟩)
 exact fun D=>key D a0
section lists
variable {L:List (Nat×Fact)}{ops:Array Oper}{w0:World}{o:Oper}{P:Program}
theorem okg_not (j:Nat)(want:Bool)(d:Tmp)(hg:o.guard=some (j,want))(hd:(ops[j]?).bind (·.dst)=some d)(hl:(o.looksAt ops).contains d=true)(hF:factOf L d = .val (.bool !want))(hD:FD L o.dst = .any):OpOk P ops (FSof L) w0 o:=by
 intro a w K Q hG hlk hK
 have h':(factOf L d).holds (a.eval (.tmp d)) w:=hlk d hl
 rw[hF] at h'
 have e:a.eval (.tmp d) = .bool !want:=h'
 have hw:Region.wanted o (yielded ops a.tmps)=false:=by
  have h2:a.tmps[d]? = some (.bool !want):=by
   replace e:a.tmps.getD d undef = .bool !want:=e
   rw[zT] at e
   cases hx:a.tmps[d]? with
   | none=>rw[hx] at e;cases e
   | some x=>rw[hx] at e;simpa using e
  cases want<;>simp[Region.wanted,hg,yielded,hd,h2]
 rw[if_neg (by simp[hw])]
 exact hK undef w (Grow.refl w) (fsd hD trivial)
theorem l_pickF (x y z:Operand)(r:Value)(ho:o.op = .pick x y z)(hx:Has ops (FSof L) o x (.bool false))(hz:Has ops (FSof L) o z r)(hd:FD L o.dst = .val r):RunOk P ops (FSof L) w0 o :=
 run2 x z hx hz (fun ρ w h1 h2=>by simp[execOp,ho,h1,h2,asBool]) fun _=>fsd hd rfl
theorem l_pickT (x y z:Operand)(r:Value)(ho:o.op = .pick x y z)(hx:Has ops (FSof L) o x (.bool true))(hy:Has ops (FSof L) o y r)(hd:FD L o.dst = .val r):RunOk P ops (FSof L) w0 o :=
 run2 x y hx hy (fun ρ w h1 h2=>by simp[execOp,ho,h1,h2,asBool]) fun _=>fsd hd rfl
theorem l_load (x:Operand)(p:Addr)(T:TypeId)(v:Value)(hagg:∀w:World,(isAgg T).run P w = .ok false w)(ho:o.op = .load T x)(hx:Has ops (FSof L) o x (.pointer (some p)))(hcell:∀w,Grow w0 w->w.cell? p=some v)(hd:FD L o.dst = .val v):RunOk P ops (FSof L) w0 o:=by
 refine l_run1W x (.val v) _ hx (fun ρ w hg h=>⟨v,w,?_,Grow.refl _,rfl⟩) hd
 have hc:=hcell w hg
 simp[execOp,ho,h,go_sem,hagg,hc,Result.andThen]
end lists
end Reg
end Go.Proofs.YtnlimngkagmjpaaGreat
