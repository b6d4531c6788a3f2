/- Texts that the proof of TreeNone leans on, part 1. -/
import Derived.WalkKit
import Derived.Maps.AppendAt
import Derived.Lib.Hide
import Derived.WalkSpells
import Derived.WalkLawsBesides
import Derived.Laws.AppendOwnNone
import Derived.Lib.AppendStr
import Derived.Test.YtpibjkbadnffgaaGreatProg
import Derived.ProofKit
import Derived.OpenShut
import Derived.ShutString
import Derived.ChangeOld
import Derived.Below
import Derived.Defers
import Derived.Laws.LoneSync
import Derived.RegionTactic
import Derived.RegionCalls
import Derived.ChangeAlike
import Derived.RangeFuncBox
import Derived.RangeFuncNested
import Derived.RangeFuncBound
import Derived.RangeFuncCalls
import Derived.RangeFuncLeaves
import Derived.Shelf.Abstract
import Derived.Shelf.RegionOpen
import Derived.OwnWalkIn
import Derived.TacticsInMore
import Derived.LoopNIn
import Derived.LoopIn
import Derived.Laws.CopyRow
import Derived.Deep.RegionHeld3
import Derived.Deep.DrawnRows
import Derived.Lib.AppendZerosOnto
import Derived.Deep.MidRow
import Derived.MapKept
import Derived.Carry
import Derived.ScopeJumps
import Derived.Lib.AppendZeros
open List renaming length_cons → zP, map_cons → zL, eq_nil_of_length_eq_zero → zZ, getElem?_eq_getElem → zM, length_nil → qE, length_append → zJ, replicate → zR, size_toArray → zT, push_toArray → qD, append_toArray → qA, nil_append → zV, cons_append → qB, take_succ_eq_append_getElem → zW, map_toArray → zK, map_nil → zN, take_of_length_le → qI, length_take → qG, getElem_mem → qF
open Nat renaming zero_add → qC, le_refl → zH, le_trans → zU, lt_of_lt_of_le → zO, reduceAdd → qO, reduceSub → qP
open Array renaming getElem?_eq_some_iff → zI, length_toList → qL, getElem?_setIfInBounds → zQ, replicate_succ → zX, replicate_zero → zY, getD_eq_getD_getElem? → zS
set_option linter.unusedVariables false
set_option maxRecDepth 100000
set_option maxHeartbeats 8000000
namespace Lou
def numF:Nat->Nat->List UInt8
 | 0,_=>[]
 | f+1,n=>if n<128 then [UInt8.ofNat n] else UInt8.ofNat (n % 128+128)::numF f (n / 128)
def num (n:Nat):List UInt8:=numF 10 n
def rdF:Nat->Nat->Nat->List UInt8->Option (Nat×Nat)
 | 0,_,_,_=>none
 | _+1,_,_,[]=>none
 | f+1,i,acc,c::r =>
  if i=9/\1<c.toNat then none
  else if 128<=c.toNat then rdF f (i+1) (acc+c.toNat % 128*128 ^ i) r
  else if c.toNat=0/\0<i then none
  else some (acc+c.toNat % 128*128 ^ i,i+1)
def rd (l:List UInt8):Option (Nat×Nat):=rdF 10 0 0 l
theorem numF_length (f n:Nat):(numF f n).length<=f:=by
 induction f generalizing n with
 | zero=>simp[numF]
 | succ f ih=>unfold numF;split<;>simp;exact ih _
theorem num_length (n:Nat):(num n).length<=10:=numF_length 10 n
theorem rdF_bound (f i e:Nat)(l:List UInt8)(n k:Nat)(hf:f+i=10)(ha:e<128 ^ i)(h:rdF f i e l=some (n,k)) :
  n<2 ^ 64/\i+1<=k/\k<=i+l.length:=by
 induction f generalizing i e l with
 | zero=>simp[rdF] at h
 | succ f ih =>
  cases l with
  | nil=>simp[rdF] at h
  | cons c r =>
   have hc:c.toNat<256:=c.toNat_lt
   have hs:e+c.toNat % 128*128 ^ i<128 ^ (i+1):=by
    have h1:c.toNat % 128<=127:=by omega
    have h2:c.toNat % 128*128 ^ i<=127*128 ^ i:=Nat.mul_le_mul_right _ h1
    have q:128 ^ (i+1)=128 ^ i*128:=Nat.pow_succ ..
    omega
   simp only[rdF] at h
   split at h
   ·cases h
   ·rename_i h9
    split at h
    ·obtain⟨j,s,u⟩:=ih (i+1) _ r (by omega) hs h
     refine⟨j,by omega,?_⟩
     simp only[zP]
     omega
    ·rename_i h128
     split at h
     ·cases h
     ·simp only[Option.some.injEq,Prod.mk.injEq] at h
      obtain⟨rfl,rfl⟩:=h
      refine⟨?_,by omega,by simp⟩
      by_cases m:i=9
      ·subst m
       have x:c.toNat<=1:=by omega
       have:c.toNat % 128*128 ^ 9<=1*128 ^ 9:=Nat.mul_le_mul_right _ (by omega)
       simp at this ha ⊢
       omega
      ·have:128 ^ (i+1)<=128 ^ 9:=Nat.pow_le_pow_right (by omega) (by omega)
       simp at this
       omega
theorem rd_bound {l:List UInt8}{n k:Nat}(h:rd l=some (n,k)):n<2 ^ 64/\1<=k/\k<=l.length:=by
 have:=rdF_bound 10 0 0 l n k (by omega) (by simp) h
 omega
def fixL (k n:Nat):List UInt8:=(List.range k).map λi=>UInt8.ofNat (n / 256 ^ (k - 1 - i))
def rfix (l:List UInt8):Nat:=l.foldl (λa c=>256*a+c.toNat) 0
theorem fixL_length (k n:Nat):(fixL k n).length=k:=by simp[fixL]
theorem fixL_succ (k n:Nat):fixL (k+1) n=UInt8.ofNat (n / 256 ^ k)::fixL k n:=by
 unfold fixL
 rw[List.range_succ_eq_map,zL,List.map_map]
 simp only[Nat.add_sub_cancel,Nat.sub_zero,List.cons.injEq,true_and]
 apply List.map_congr_left
 intro i c
 simp at c
 simp only[Function.comp]
 rw[show k - (i+1)=k - 1 - i from by omega]
theorem rfix_acc (l:List UInt8)(a:Nat):l.foldl (λa c=>256*a+c.toNat) a=a*256 ^ l.length+rfix l:=by
 induction l generalizing a with
 | nil=>simp[rfix]
 | cons c l ih =>
  rw[rfix,List.foldl_cons,List.foldl_cons,ih,ih (256*0+c.toNat),zP,Nat.pow_succ,Nat.add_mul,Nat.add_mul]
  rw[show 256*a*256 ^ l.length=a*(256 ^ l.length*256) from by rw[Nat.mul_comm 256 a,Nat.mul_assoc,Nat.mul_comm 256]]
  simp
  omega
theorem rfix_cons (c:UInt8)(l:List UInt8):rfix (c::l)=c.toNat*256 ^ l.length+rfix l:=by
 rw[rfix,List.foldl_cons,rfix_acc]
 simp
theorem rfix_lt (l:List UInt8):rfix l<256 ^ l.length:=by
 induction l with
 | nil=>simp[rfix]
 | cons c l ih =>
  rw[rfix_cons,zP,Nat.pow_succ]
  have h1:c.toNat<=255:=by have:=c.toNat_lt;omega
  have h2:c.toNat*256 ^ l.length<=255*256 ^ l.length:=Nat.mul_le_mul_right _ h1
  omega
theorem rfix_fixL (k n:Nat):rfix (fixL k n)=n % 256 ^ k:=by
 induction k with
 | zero=>simp[fixL,rfix,Nat.mod_one]
 | succ k ih =>
  rw[fixL_succ,rfix_cons,fixL_length,ih]
  have e:(UInt8.ofNat (n / 256 ^ k)).toNat=n / 256 ^ k % 256:=by simp[UInt8.toNat_ofNat']
  rw[e,Nat.pow_succ,Nat.mod_mul]
  rw[Nat.mul_comm (256 ^ k)]
  omega
def poly:Nat:=0xedb88320
def sh (x:Nat):Nat:=if x % 2=1 then (x / 2) ^^^ poly else x / 2
def shN:Nat->Nat->Nat
 | 0,x=>x
 | k+1,x=>shN k (sh x)
def stepC (s:Nat)(c:UInt8):Nat:=shN 8 (s ^^^ c.toNat)
def sumS (s:Nat)(l:List UInt8):Nat:=l.foldl stepC s
def sumL (l:List UInt8):Nat:=sumS 4294967295 l ^^^ 4294967295
theorem sh_bit (x i:Nat):(sh x).testBit i=(x.testBit (i+1) ^^ (x.testBit 0 && poly.testBit i)):=by
 unfold sh
 by_cases h:x % 2=1
 ·rw[if_pos h,Nat.testBit_xor,Nat.testBit_div_two]
  simp[Nat.testBit_zero,h]
 ·rw[if_neg h,Nat.testBit_div_two]
  simp[Nat.testBit_zero,h]
theorem sh_xor (x y:Nat):sh (x ^^^ y)=sh x ^^^ sh y:=by
 apply Nat.eq_of_testBit_eq
 intro i
 rw[sh_bit,Nat.testBit_xor,Nat.testBit_xor,Nat.testBit_xor,sh_bit,sh_bit]
 cases x.testBit (i+1)<;>cases y.testBit (i+1)<;>cases x.testBit 0<;>cases y.testBit 0<;>cases poly.testBit i<;>rfl
theorem shN_xor (k x y:Nat):shN k (x ^^^ y)=shN k x ^^^ shN k y:=by
 induction k generalizing x y with
 | zero=>rfl
 | succ k ih=>simp only[shN];rw[sh_xor,ih]
theorem sh_lt {x:Nat}(h:x<4294967296):sh x<4294967296:=by
 unfold sh
 split
 ·have:x / 2<2 ^ 32:=by omega
  have h2:poly<2 ^ 32:=by decide
  have:=Nat.xor_lt_two_pow this h2
  simpa using this
 ·omega
theorem shN_lt (k:Nat){x:Nat}(h:x<4294967296):shN k x<4294967296:=by
 induction k generalizing x with
 | zero=>exact h
 | succ k ih=>exact ih (sh_lt h)
theorem xor_lt32 {x y:Nat}(c:x<4294967296)(e:y<4294967296):x ^^^ y<4294967296:=by
 have:=Nat.xor_lt_two_pow (n:=32) (by simpa using c) (by simpa using e)
 simpa using this
theorem stepC_lt {s:Nat}(h:s<4294967296)(c:UInt8):stepC s c<4294967296 :=
 shN_lt 8 (xor_lt32 h (by have:=c.toNat_lt;omega))
theorem sumS_lt {s:Nat}(h:s<4294967296)(l:List UInt8):sumS s l<4294967296:=by
 induction l generalizing s with
 | nil=>exact h
 | cons c l ih=>exact ih (stepC_lt h c)
theorem shN_high (x:Nat)(k:Nat):shN k (x*2 ^ k)=x:=by
 induction k generalizing x with
 | zero=>simp[shN]
 | succ k ih =>
  simp only[shN]
  have h2:x*2 ^ (k+1)=2*(x*2 ^ k):=by rw[Nat.pow_succ];rw[<-Nat.mul_assoc];omega
  have:sh (x*2 ^ (k+1))=x*2 ^ k:=by
   unfold sh
   rw[if_neg (by omega)]
   omega
  rw[this,ih]
theorem stepC_table (s:Nat)(c:UInt8):stepC s c=(s / 256) ^^^ shN 8 ((s % 256) ^^^ c.toNat):=by
 unfold stepC
 have hs:s=(s / 256*2 ^ 8) ^^^ (s % 256):=by
  apply Nat.eq_of_testBit_eq
  intro i
  rw[Nat.testBit_xor,show (256:Nat)=2 ^ 8 from rfl,Nat.testBit_mod_two_pow,Nat.testBit_mul_two_pow,Nat.testBit_div_two_pow]
  by_cases h:i<8
  ·have f:¬ 8<=i:=by omega
   simp[h,f]
  ·have f:8<=i:=by omega
   have e:i - 8+8=i:=by omega
   simp[h,f,e]
 conv=>lhs;rw[hs,Nat.xor_assoc,shN_xor,shN_high]
theorem sumS_append (s:Nat)(a b:List UInt8):sumS s (a++b)=sumS (sumS s a) b:=by simp[sumS,List.foldl_append]
end Lou
namespace Go.Proofs.YtpibjkbadnffgaaGreat
open Go Go.RowKit
@[reducible] def b8 (c:UInt8):Value:=.int .u8 (c.toNat:Int)
theorem inf_u8:(Tryz.prog.info? 5).map (λi=>(i.zero,i.size,i.bytes))=some (some (.int .u8 0),1,1):=by kernel_rfl
def OwnB (w:World)(base:Nat)(v:Value)(l:List UInt8):Prop:=w.ownsRow base 5 1 v l.length (l.map b8)
def GivesB (w0:World)(l:List UInt8)(e:Ending)(w':World):Prop :=
 ∃v,e = .returned v/\OwnB w' w0.heap.size v l/\Below w0.heap.size w0 w'
theorem OwnB.nil (w:World)(base:Nat):OwnB w base (.slice none 0 0) []:=World.ownsRow_nil _ _ _ _
theorem OwnB.form {w:World}{base:Nat}{v:Value}{l:List UInt8}(h:OwnB w base v l) :
  (v = .slice none 0 0/\l=[])∨∃g cap,v = .slice (some ⟨g,0,none⟩) l.length cap/\base<=g/\g<w.heap.size/\l.length<=cap:=by
 rcases h.2 with⟨h1,h2⟩|⟨g,cap,cur,hv,hb,hg,hle,_⟩
 ·exact .inl ⟨h1,zZ h2⟩
 ·exact .inr ⟨g,cap,hv,hb,(zI.1 hg).1,hle⟩
theorem OwnB.at_ {w:World}{base:Nat}{v:Value}{l:List UInt8}(h:OwnB w base v l)(hl:0<l.length) :
  ∃g cap,v = .slice (some ⟨g,0,none⟩) l.length cap/\base<=g/\g<w.heap.size/\l.length<=cap:=by
 rcases h.form with⟨_,rfl⟩|h
 ·simp at hl
 ·exact h
structure InB (w:World)(B:Nat)(A:Option Addr)(c:Nat)(l:List UInt8):Prop where
 le:l.length<=c
 max:c<=9223372036854775807
 nil:A=none->c=0
 lies:0<l.length->∃g o,A=some ⟨g,o,none⟩/\g<B/\∀j (h:j<l.length),w.cell? ⟨g,o+j,none⟩=some (.int .u8 (l[j].toNat:Int))
theorem InB.keep {w w':World}{B:Nat}{A:Option Addr}{c:Nat}{l:List UInt8}(h:InB w B A c l)(i:∀p:Addr,p.block<B->w'.cell? p=w.cell? p):InB w' B A c l :=
 ⟨h.le,h.max,h.nil,λhl=>by
  obtain⟨g,o,k,e,hc⟩:=h.lies hl
  exact⟨g,o,k,e,λj f=>(i _ e).trans (hc j f)⟩⟩
theorem InB.below {w w':World}{B:Nat}{A:Option Addr}{c:Nat}{l:List UInt8}(h:InB w B A c l)(f:Below B w w'):InB w' B A c l:=h.keep λ_ e=>f.cell e
theorem InB.drew {w:World}{B:Nat}{A:Option Addr}{c:Nat}{l:List UInt8}(h:InB w B A c l):InB w.drew B A c l:=⟨h.le,h.max,h.nil,h.lies⟩
theorem InB.more {w:World}{B e:Nat}{A:Option Addr}{c:Nat}{l:List UInt8}(h:InB w B A c l)(hB:B<=e):InB w e A c l :=
 ⟨h.le,h.max,h.nil,λhl=>by
  obtain⟨g,o,f,i,hc⟩:=h.lies hl
  exact⟨g,o,f,by omega,hc⟩⟩
theorem OwnB.inB {w:World}{base:Nat}{v:Value}{l:List UInt8}(h:OwnB w base v l):∃A c,v = .slice A l.length c/\InB w w.heap.size A c l:=by
 rcases h.2 with⟨h1,h2⟩|⟨g,cap,cur,hv,hb,hg,hle,hm,hs,ht⟩
 ·obtain rfl:=zZ h2
  exact⟨none,0,h1,by simp,by omega,λ_=>rfl,λh=>by simp at h⟩
 ·refine⟨_,cap,hv,hle,by unfold maxLen at hm;omega,λh=>by simp at h,λ_=>⟨g,0,rfl,(zI.1 hg).1,λj e => ?_⟩⟩
  rw[qC,cell_of_row w g j cur _ (0,0) hg]
  have:=congrArg (λx=>x[j]?) ht
  simp only[List.getElem?_take,List.getElem?_map,zM e,Option.map_some] at this
  rw[if_pos (by omega)] at this
  simpa using this
def cutA (A:Option Addr)(c n:Nat):Option Addr:=if c=n then A else A.map (·.add n)
theorem InB.drop {w:World}{B:Nat}{A:Option Addr}{c:Nat}{l:List UInt8}(h:InB w B A c l)(n:Nat)(hn:n<=l.length):InB w B (cutA A c n) (c - n) (l.drop n):=by
 have h1:=h.le
 have h2:=h.max
 refine⟨by simp;omega,by omega,?_,?_⟩
 ·intro e
  unfold cutA at e
  split at e
  ·omega
  ·have:=h.nil (by simpa using e);omega
 ·intro hl
  simp at hl
  obtain⟨g,o,rfl,f,hc⟩:=h.lies (by omega)
  refine⟨g,o+n,?_,f,?_⟩
  ·unfold cutA
   rw[if_neg (by omega)]
   by_cases i:n=0<;>simp[Addr.add,i]
  ·intro j k
   simp at k
   have:=hc (n+j) (by omega)
   rw[Nat.add_assoc,this]
   simp
theorem InB.take {w:World}{B:Nat}{A:Option Addr}{c:Nat}{l:List UInt8}(h:InB w B A c l)(n:Nat)(c':Nat)(hn:n<=l.length)(hc:n<=c')(m:c'<=c):InB w B A c' (l.take n):=by
 have h1:=h.le
 have h2:=h.max
 refine⟨by simp;omega,by omega,λf=>by have:=h.nil f;omega,?_⟩
 intro hl
 simp at hl
 obtain⟨g,o,rfl,e,i⟩:=h.lies (by omega)
 refine⟨g,o,rfl,e,λj k => ?_⟩
 simp at k
 rw[i j (by omega)]
 simp
def str (l:List UInt8):ByteArray:=⟨l.toArray⟩
theorem str_size (l:List UInt8):(str l).size=l.length:=rfl
theorem str_of (s:ByteArray):s=str s.data.toList:=by cases s;simp[str]
theorem strOf_bytes (l:List UInt8):strOfNums (l.map λx=>(x.toNat:Int))=str l:=by
 have e:(l.map λx=>(x.toNat:Int)).map (λn=>UInt8.ofNat n.toNat)=l:=by
  rw[List.map_map]
  conv=>rhs;rw[<-List.map_id l]
  apply List.map_congr_left
  intro x _
  simp
 unfold strOfNums str
 rw[e]
theorem InB.string {w:World}{B:Nat}{A:Option Addr}{c:Nat}{l:List UInt8}(h:InB w B A c l) :
  (convert 87 9 (.slice A l.length c)).run Tryz.prog w = .ok (.string (str l)) w:=by
 rcases A with _|a
 ·have:=h.nil rfl
  have h1:=h.le
  obtain rfl:l=[]:=zZ (by omega)
  exact run_convert_bytes_nil (P:=Tryz.prog) w _ 5 Tryz.underlying87 Tryz.underlying5 _ _ _ Tryz.underlying9
 ·rcases Nat.eq_zero_or_pos l.length with e|e
  ·obtain rfl:=zZ e
   have hl:(loadCells a ([]:List Int).length).run Tryz.prog w = .ok ((([]:List Int)).map (Value.int .u8)).toArray w :=
    run_loadCells_list (P:=Tryz.prog) w a [] (λj v m=>by simp at m)
   rw[run_convert_bytes_string w _ _ 5 _ _ c Tryz.underlying87 Tryz.underlying5 Tryz.underlying9,qE]
   have:=run_bytesToString (P:=Tryz.prog) w a 0 c [] hl
   rw[this]
   exact congrArg (λs=>Result.ok (Value.string s) w) (show ByteArray.empty=str [] from rfl)
  ·obtain⟨g,o,k,_,hc⟩:=h.lies e
   obtain rfl:a=⟨g,o,none⟩:=by simpa using k
   have:=run_convert_bytes_arg (P:=Tryz.prog) w 87 5 Tryz.underlying87 Tryz.underlying5 g o l.length c (l.map λx=>(x.toNat:Int)) (by simp) (λi f=>by rw[hc i f];simp[List.getD,f]) 9 Tryz.underlying9
   rw[this,strOf_bytes]
section
variable {w:World}{ops:Array Oper}{rest:List Oper}{o:Oper}{a:Act}{Q:Exit->Act->World->Prop}
theorem wp_appB (n:o.guard=none)(s x:Operand)(z:o.op = .call { callee:=.builtin .append,args:=#[s,x],argTypes:=#[87,87] })
  (base:Nat) (v:Value) (l:List UInt8) (hs:a.eval s=v) (m:OwnB w base v l) (B:Nat) (A:Option Addr) (c:Nat) (f:List UInt8) (C:a.eval x = .slice A f.length c) (k:InB w B A c f)
  (Z:l.length+f.length<=140737488355328) (N:base<=w.heap.size)
  (h:∀v' w',OwnB w' base v' (l++f)->w.grownBy w' v.ownBlock->wpList Tryz.prog ops Q rest (a.put o.dst v') w'):wpList Tryz.prog ops Q (o::rest) a w:=by
 obtain⟨q,G,L,I,U⟩:=info_parts inf_u8
 have X:=k.le
 rcases A with _|i
 ·have V:=k.nil rfl
  obtain rfl:f=[]:=zZ (by omega)
  subst V
  refine wpList_append_own_none (w:=w) n s x _ z base _ q 1 Tryz.underlying87 G v l.length (l.map b8) hs m C ?_
  exact h v w (by rw[List.append_nil];exact m) (World.grownBy.refl _ _)
 ·have T:∀j u,(f.map b8)[j]? = some u->w.cell? (i.add j)=some u:=by
   intro j u hu
   have F:j<f.length:=by
    rcases Nat.lt_or_ge j f.length with h|h
    ·exact h
    ·rw[List.getElem?_eq_none (by simpa using h)] at hu;cases hu
   obtain⟨g,o',S,_,hc⟩:=k.lies (by omega)
   obtain rfl:i=⟨g,o',none⟩:=by simpa using S
   have e:(⟨g,o',none⟩:Addr).add j=⟨g,o'+j,none⟩:=by unfold Addr.add;split<;>simp_all
   rw[e,hc j F]
   simpa[F,b8] using hu
  refine wpList_append_own w n s x _ z base _ q (.int .u8 0) 1 1 Tryz.underlying87 G L I U rfl (by decide) v l.length (l.map b8) hs m i f.length c (f.map b8) C (by simp) T (by simp[b8,Value.oneCell']) (by unfold maxLen;omega) (by omega) N ?_
  intro v' w' M O _
  refine h v' w' ?_ O
  unfold OwnB
  simpa using M
theorem wp_appS (f:o.guard=none)(s x:Operand)(k:o.op = .call { callee:=.builtin .append,args:=#[s,x],argTypes:=#[87,9] })
  (base:Nat) (v:Value) (l:List UInt8) (hs:a.eval s=v) (C:OwnB w base v l) (st:ByteArray) (q:a.eval x = .string st)
  (F:l.length+st.size<=140737488355328) (u:base<=w.heap.size)
  (h:∀v' w',OwnB w' base v' (l++st.data.toList)->w.grownBy w' v.ownBlock->wpList Tryz.prog ops Q rest (a.put o.dst v') w'):wpList Tryz.prog ops Q (o::rest) a w:=by
 obtain⟨j,B,n,i,A⟩:=info_parts inf_u8
 refine Lib.wpList_append_own_string w f s x _ _ k base _ j Tryz.underlying87 Tryz.underlying9 B n i A v l.length (l.map b8) hs C st q (by unfold maxLen;omega) (by omega) u ?_
 intro v' w' c z _
 refine h v' w' ?_ z
 unfold OwnB
 have e:Lib.strCells st=st.data.toList.map b8:=rfl
 rw[e] at c
 have m:(l++st.data.toList).length=l.length+st.size:=by rw[zJ,qL];rfl
 rw[m,List.map_append]
 exact c
theorem wp_makeB (j:o.guard=none)(x y:Operand)(q:o.op=Op.makeSlice 87 x y)(base:Nat)(f c:IntKind)(n:Nat)(z:a.eval x = .int f (n:Int))(s:a.eval y = .int c (n:Int))
  (hn:n<=140737488355328) (A:base<=w.heap.size)
  (h:∀w',OwnB w' base (.slice (some ⟨w.heap.size,0,none⟩) n n) (zR n 0)->w.grownBy w' none->wpList Tryz.prog ops Q rest (a.put o.dst (.slice (some ⟨w.heap.size,0,none⟩) n n)) w'):wpList Tryz.prog ops Q (o::rest) a w:=by
 obtain⟨m,F,u,k,C⟩:=info_parts inf_u8
 refine wpList_make_full w j x y _ q base _ m (.int .u8 0) 1 Tryz.underlying87 F u k f c n n n z s rfl rfl (by rw[C];omega) (by unfold maxLen;omega) A ?_
 intro w' i B
 refine h w' ?_ B
 have e:(madeCells (Value.int .u8 0).cells (n*1)).toList=(zR n (0:UInt8)).map b8:=by
  rw[Nat.mul_one,show (Value.int .u8 0).cells=#[.int .u8 0] from rfl,toList_madeCells_one]
  simp[b8]
 rw[e] at i
 unfold OwnB
 simpa using i
end
theorem OwnB.set {w:World}{base g n c:Nat}{l:List UInt8}(h:OwnB w base (.slice (some ⟨g,0,none⟩) n c) l)(j x:Nat)(f:x<256) :
  OwnB (w.setCell ⟨g,j,none⟩ (.int .u8 (x:Int))) base (.slice (some ⟨g,0,none⟩) n c) (l.set j (UInt8.ofNat x)):=by
 rcases h.form with⟨h1,_⟩|⟨g',cap',h1,_,_,_⟩
 ·cases h1
 ·injection h1 with h2 h3 h4
  subst h3
  have:=(World.ownsRow.stored (w:=w) h j (.int .u8 (x:Int))).1
  unfold OwnB
  rw[List.length_set,List.map_set]
  have e:b8 (UInt8.ofNat x) = .int .u8 (x:Int):=by simp[b8];omega
  rw[e]
  exact this
theorem OwnB.cell {w:World}{base g n c:Nat}{l:List UInt8}(h:OwnB w base (.slice (some ⟨g,0,none⟩) n c) l)(j:Nat)(e:j<l.length):w.cell? ⟨g,j,none⟩=some (.int .u8 (l[j].toNat:Int)):=by
 rcases h.form with⟨h1,_⟩|⟨g',cap',h1,_,_,_⟩
 ·cases h1
 ·injection h1 with h2 h3 h4
  subst h3
  have:=World.ownsRow.cellAt (w:=w) h j (by omega)
  rw[this]
  simp[b8,e]
theorem OwnB.free {w:World}{base g n c:Nat}{l:List UInt8}(h:OwnB w base (.slice (some ⟨g,0,none⟩) n c) l)(j:Nat):w.frozen? ⟨g,j,none⟩=false:=by
 rcases h.form with⟨h1,_⟩|⟨g',cap',h1,_,_,_⟩
 ·cases h1
 ·injection h1 with h2 h3 h4
  subst h3
  exact World.ownsRow.frozenAt (w:=w) h j
def BlkIs (w:World)(g:Nat)(t:TypeId)(cs:Array Value):Prop:=w.heap[g]? = some (.cells cs t (0,0))
section
variable {w w':World}{g:Nat}{t:TypeId}{cs:Array Value}
theorem BlkIs.lt (h:BlkIs w g t cs):g<w.heap.size:=(zI.1 h).1
theorem BlkIs.cell (h:BlkIs w g t cs)(i:Nat):w.cell? ⟨g,i,none⟩=cs[i]?:=cell_of_row w g i cs t (0,0) h
theorem BlkIs.free (h:BlkIs w g t cs)(i:Nat):w.frozen? ⟨g,i,none⟩=false:=by
 unfold BlkIs at h
 simp[World.frozen?,h]
theorem BlkIs.set (h:BlkIs w g t cs)(i:Nat)(u:Value):BlkIs (w.setCell ⟨g,i,none⟩ u) g t (cs.setIfInBounds i u):=by
 unfold BlkIs at h ⊢
 simp[World.setCell,Array.getElem?_modify,h]
theorem BlkIs.other (h:BlkIs w g t cs){p:Addr}(c:g≠p.block)(u:Value):BlkIs (w.setCell p u) g t cs:=(Below.heap_setCell w p u g c).trans h
theorem BlkIs.drew (h:BlkIs w g t cs):BlkIs w.drew g t cs:=h
theorem BlkIs.alloc (h:BlkIs w g t cs)(o:Obj):BlkIs (w.alloc o) g t cs:=(Below.heap_alloc w o g h.lt).trans h
theorem BlkIs.new (w:World)(t:TypeId)(cs:Array Value):BlkIs (w.alloc (.cells cs t)) w.heap.size t cs:=heap_alloc_new w _
theorem BlkIs.below {B:Nat}(h:BlkIs w g t cs)(c:Below B w w')(e:g<B):BlkIs w' g t cs:=(c.block g e).trans h
theorem BlkIs.grown {row:Option Nat}(h:BlkIs w g t cs)(c:w.grownBy w' row)(e:some g≠row):BlkIs w' g t cs:=(c.block g h.lt e).trans h
end
theorem BlkIs.inB {w:World}{g:Nat}{l:List UInt8}(h:BlkIs w g 5 (l.map b8).toArray)(B:Nat)(hB:g<B)(e:l.length<=9223372036854775807):InB w B (some ⟨g,0,none⟩) l.length l :=
 ⟨zH _,e,(λh=>by cases h),λ_=>⟨g,0,rfl,hB,λj c=>by
  rw[h.cell,qC]
  simp[c,b8]⟩⟩
theorem grownBy_set (w:World)(b i:Nat)(v:Value):w.grownBy (w.setCell ⟨b,i,none⟩ v) (some b) :=
 ⟨rfl,rfl,rfl,by simp[World.setCell],λk _ c=>Below.heap_setCell _ _ _ k (λe=>c (by rw[e]))⟩
theorem grownBy_trans {a b c:World}{row:Option Nat}(h:a.grownBy b row)(k:b.grownBy c row):a.grownBy c row :=
 ⟨k.os.trans h.os,k.tape.trans h.tape,k.output.trans h.output,zU h.size k.size,λi e f=>(k.block i (zO e h.size) f).trans (h.block i e f)⟩
theorem grownBy_drew (w:World)(row:Option Nat):w.grownBy w.drew row:=⟨rfl,rfl,rfl,zH _,λ_ _ _=>rfl⟩
theorem new_cell (w:World)(v:Value)(t:TypeId):(w.alloc (.cells #[v] t)).cell? ⟨w.heap.size,0,none⟩=some v:=by
 simp
theorem new_free (w:World)(c:Array Value)(t:TypeId)(i:Nat):(w.alloc (.cells c t)).frozen? ⟨w.heap.size,i,none⟩=false:=by
 unfold World.frozen?
 rw[heap_alloc_new]
 simp
theorem or128:∀m,m<256->m ||| 128=m % 128+128:=by decide +kernel
theorem u8_or128 (n:Nat):bits .or .u8 ((n:Int) % 256) 128=((n % 128+128:Nat):Int):=by
 have e:(n:Int) % 256=((n % 256:Nat):Int):=by omega
 rw[e]
 have:=u8_or_nat (n % 256) 128 (by omega) (by omega)
 rw[or128 _ (by omega)] at this
 have h2:(((128:Nat)):Int)=128:=rfl
 rw[h2] at this
 rw[this]
 congr 1
 omega
end Go.Proofs.YtpibjkbadnffgaaGreat
namespace Go.Proofs.YtpibjkbadnffgaaGreat
open Go Go.RowKit Lou

end Go.Proofs.YtpibjkbadnffgaaGreat
namespace Go.Proofs.YtpibjkbadnffgaaGreat
open Go Lou Go.ChangeShapes Go.WideShapes Go.ChangeAt Go.RowKit
section
variable {H:Type}{enc:TypeId×Value->H}{W:World}{r:Reach}{b0 b1:Nat}{spare:Nat->Bool}{held:Bool}{v:Value}{d:DataW H}{p:List MemPlace}
end
end Go.Proofs.YtpibjkbadnffgaaGreat
namespace Go.Proofs.YtpibjkbadnffgaaGreat
open Go Go.RowKit Lou
theorem numF_lt {f n:Nat}(hf:1<=f)(h:n<128):numF f n=[UInt8.ofNat n]:=by
 cases f with
 | zero=>omega
 | succ f=>unfold numF;rw[if_pos h]
def NumAt (n0 n f:Nat)(pre:List UInt8):Prop:=pre++numF f n=num n0/\n<2 ^ (7*f - 6)/\1<=f/\pre.length+f=10
theorem NumAt.start {c:Nat}(h:c<2 ^ 64):NumAt c c 10 []:=⟨rfl,by simpa using h,by omega,by simp⟩
theorem NumAt.last {n0 n f:Nat}{c:List UInt8}(h:NumAt n0 n f c)(e:n<128):c++[UInt8.ofNat n]=num n0:=by
 rw[<-numF_lt h.2.2.1 e];exact h.1
theorem NumAt.next {e n f:Nat}{i:List UInt8}(h:NumAt e n f i)(k:128<=n):NumAt e (n / 128) (f - 1) (i++[UInt8.ofNat (n % 128+128)]):=by
 obtain⟨h1,h2,j,m⟩:=h
 cases f with
 | zero=>omega
 | succ f =>
  have hf:1<=f:=by
   rcases Nat.eq_zero_or_pos f with c|c
   ·subst c;simp at h2;omega
   ·exact c
  refine⟨?_,?_,by simpa using hf,by simp;omega⟩
  ·rw[<-h1]
   conv=>rhs;unfold numF
   rw[if_neg (by omega)]
   simp
  ·rw[Nat.div_lt_iff_lt_mul (by omega)]
   have:2 ^ (7*f - 6)*128=2 ^ (7*(f+1) - 6):=by
    rw[show 7*(f+1) - 6=(7*f - 6)+7 from by omega,Nat.pow_add]
   simp only[Nat.add_sub_cancel]
   omega
theorem map_snoc_b8 (l:List UInt8)(n:Nat)(h:n<256):l.map b8++[.int .u8 (n:Int)]=(l++[UInt8.ofNat n]).map b8:=by
 simp[b8];omega
theorem number_gives (e:Nat)(hn:e<2^64)(w:World):Calls Tryz.prog 284 #[.int .u64 e] w (GivesB w (num e)):=by
 obtain⟨u,C,x,q,B⟩:=info_parts inf_u8
 have hs:=Lib.hid (NumAt.start hn)
 clear hn
 go_enter Tryz.func284,Tryz.ntmps284
 go_wp2_with fail
 go_loopw [0,2] (λa v wr=>∃(n f:Nat) (c:List UInt8),Hid (NumAt e n f c)/\c.length<=10/\a = .int .u64 n/\OwnB wr w.heap.size v c/\Below w.heap.size w wr)
  (λa _ _=>(intOf a).toNat)
 case atStart=>exact⟨e,10,[],hs,by simp,rfl,OwnB.nil _ _,Below.refl _ _⟩
 case round =>
  obtain⟨n,f,c,F,hl,rfl,i,hB⟩:=hrel
  have A:=hB.size
  have L:=u8_or128 n
  by_cases I:n<128
  ·go_wp2_with (at_builtin;refine wpList_append_own _ rfl _ _ 87 rfl w.heap.size 5 u (.int .u8 0) 1 1 Tryz.underlying87 C x q B rfl (by decide) _ _ _ rfl (World.ownsRow.alloc i _) ⟨wr.heap.size,0,none⟩ 1 1 _ rfl rfl (cell_one_new _ _ _) (by simp[Value.oneCell']) (by unfold maxLen;omega) (by omega) (by simp;omega) ?_;intro v' G h m _)
   go_ret
   have s:=F.out.last I
   refine⟨v',rfl,?_,(hB.alloc A _).grown m (by simp;omega) (λk j=>(World.ownsRow.lt i k j).1)⟩
   rw[map_snoc_b8 c n (by omega),s] at h
   unfold OwnB
   rw[show (num e).length=c.length+1 from by rw[<-s];simp]
   exact h
  ·go_wp2_with (at_builtin;refine wpList_append_own _ rfl _ _ 87 rfl w.heap.size 5 u (.int .u8 0) 1 1 Tryz.underlying87 C x q B rfl (by decide) _ _ _ rfl (World.ownsRow.alloc i _) ⟨wr.heap.size,0,none⟩ 1 1 _ rfl rfl (cell_one_new _ _ _) (by simp[Value.oneCell']) (by unfold maxLen;omega) (by omega) (by simp;omega) ?_;intro v' G h m _)
   have z:=F.out.next (by omega)
   refine⟨⟨n / 128,f - 1,c++[UInt8.ofNat (n % 128+128)],Lib.hid z,?_,by go_num,?_,?_⟩,by simp[intOf];omega⟩
   ·have:=z.2.2.2;omega
   ·rw[show ((n:Int) % 128+128)=((n % 128+128:Nat):Int) from by omega,map_snoc_b8 c _ (by omega)] at h
    unfold OwnB
    simpa using h
   ·exact(hB.alloc A _).grown m (by simp;omega) (λk j=>(World.ownsRow.lt i k j).1)
theorem disable (w:World):(callFunc 383 #[]).run Tryz.prog w = .ok (.value (.tuple #[])) w:=run_call_mark0 Tryz.func383 (by kernel_rfl) (by kernel_rfl) (by kernel_rfl) .disable (by kernel_rfl) w
theorem enable (w:World):(callFunc 385 #[]).run Tryz.prog w = .ok (.value (.tuple #[])) w:=run_call_mark0 Tryz.func385 (by kernel_rfl) (by kernel_rfl) (by kernel_rfl) .enable (by kernel_rfl) w
theorem acquire (a:Addr)(w:World):(callFunc 386 #[.pointer (some a)]).run Tryz.prog w = .ok (.value (.tuple #[])) w:=run_call_marked Tryz.func386 (by kernel_rfl) (by kernel_rfl) (by kernel_rfl) .acquire (by kernel_rfl) a w
theorem releaseMerge (a:Addr)(w:World):(callFunc 388 #[.pointer (some a)]).run Tryz.prog w = .ok (.value (.tuple #[])) w:=run_call_marked Tryz.func388 (by kernel_rfl) (by kernel_rfl) (by kernel_rfl) .releaseMerge (by kernel_rfl) a w
theorem store_deferred (a:Addr)(x:Value)(u:FrameMode)(w:World)(hc:w.cell? a=some x)(i:w.frozen? a=false) :
  CallsD Tryz.prog 378 #[.pointer (some a),.bool true] u w λe h w'=>h=u/\(e = .returned (.tuple #[])/\w'=w.drew.setCell a (.int .u32 1)):=by
 have f:w.drew.cell? a=some x:=by go_simp
 have c:w.drew.frozen? a=false:=by go_simp
 have j:=run_call_store (P:=Tryz.prog) Tryz.func381 (by kernel_rfl) (by kernel_rfl) (by kernel_rfl) (by kernel_rfl) (k:=.u32) (y:=1) f c
 go_enter_d Tryz.func378,Tryz.ntmps378
 go_wp2
 go_region_calls
 all_goals (go_end0;exact⟨rfl,rfl⟩)
theorem unlock_deferred (a:Addr)(u:FrameMode)(w:World)(hc:w.cell? a=some (.int .i32 1))(c:w.frozen? a=false) :
  CallsD Tryz.prog 377 #[.pointer (some a)] u w λe f w'=>f=u/\(e = .returned (.tuple #[])/\w'=w.setCell a (.int .i32 0)):=by
 have hd:=disable
 have i:=enable
 have j:=releaseMerge
 have h:=run_call_add (P:=Tryz.prog) Tryz.func389 (by kernel_rfl) (by kernel_rfl) (by kernel_rfl) .i32 (by kernel_rfl) (y:=-1) (s:=0) hc c (by simp[go_sem];rfl)
 have k:=run_convert_to_unsafe (P:=Tryz.prog) (src:=447) (dst:=274) Tryz.underlying447 Tryz.underlying274 (by kernel_rfl) hc
 go_enter_d Tryz.func377,Tryz.ntmps377
 go_wp2
 go_end0
 go_wp2
 go_end0
 exact⟨rfl,rfl⟩
theorem lock_free (a:Addr)(w:World)(hc:w.cell? a=some (.int .i32 0))(c:w.frozen? a=false) :
  Calls Tryz.prog 376 #[.pointer (some a)] w λe w'=>e = .returned (.tuple #[])/\w'=w.setCell a (.int .i32 1):=by
 have hd:=disable
 have h:=enable
 have ha:=acquire
 have i:=run_call_cas_hit (P:=Tryz.prog) Tryz.func384 (by kernel_rfl) (by kernel_rfl) (by kernel_rfl) .i32 (by kernel_rfl) (y:=1) hc c
 have f:(w.setCell a (.int .i32 1)).cell? a=some (.int .i32 1):=World.cell?_setCell_same w a _ hc
 have j:=run_convert_to_unsafe (P:=Tryz.prog) (src:=447) (dst:=274) Tryz.underlying447 Tryz.underlying274 (by kernel_rfl) f
 go_enter Tryz.func376,Tryz.ntmps376
 go_wp2
 first|go_end0|(simp only[Exit.inBlock,Exit.then];refine bodyPost_ret (results_none rfl _ _ _) rfl ?_)|refine bodyPost_ret (results_none rfl _ _ _) rfl ?_
 go_wp2
 go_end0
 exact⟨rfl,rfl⟩
theorem bool_load (a:Addr)(d:Nat)(w:World)(hc:w.cell? a=some (.int .u32 d)) :
  Calls Tryz.prog 371 #[.pointer (some a)] w λe w'=>e = .returned (.bool ((d:Int) != 0))/\w=w':=by
 have hl:=run_call_load (P:=Tryz.prog) Tryz.func375 (by kernel_rfl) (by kernel_rfl) (by kernel_rfl) .u32 (by kernel_rfl) hc
 go_enter Tryz.func371,Tryz.ntmps371
 go_wp2
 go_ret
 exact⟨rfl,rfl⟩
theorem int64_add (b o k:Nat)(h:k<=1000000)(w:World)(hc:w.cell? ⟨b,o,none⟩=some (.int .i64 k))(c:w.frozen? ⟨b,o,none⟩=false) :
  Calls Tryz.prog 120 #[.pointer (some ⟨b,o,none⟩),.int .i64 1] w λe w'=>e = .returned (.int .i64 ((k:Int)+1))/\w.setCell ⟨b,o,none⟩ (.int .i64 ((k:Int)+1))=w':=by
 have f:=run_call_add (P:=Tryz.prog) Tryz.func190 (by kernel_rfl) (by kernel_rfl) (by kernel_rfl) .i64 (by kernel_rfl) (y:=1) (s:=(k:Int)+1) hc c (by
  have:=IntWalk.i64_in ((k:Int)+1) (by omega)
  simp[go_sem,this])
 go_enter Tryz.func120,Tryz.ntmps120
 go_wp2
 go_ret
 exact⟨rfl,rfl⟩
theorem sh_odd {y:Nat}(h:y % 2=1):sh y=(y / 2) ^^^ poly:=by unfold sh;rw[if_pos h]
theorem sh_even {y:Nat}(h:¬ y % 2=1):sh y=y / 2:=by unfold sh;rw[if_neg h]
theorem xor_poly {y:Nat}(c:y<4294967296):bits .xor .u32 ((y:Int) / 2) 3988292384=((y / 2 ^^^ poly:Nat):Int):=u32_xor_nat (y / 2) 3988292384 (by omega) (by omega)
theorem xor_inv {x:Nat}(c:x<4294967296):bits .xor .u32 IntKind.u32.max (x:Int)=((x ^^^ 4294967295:Nat):Int):=by
 have e:IntKind.u32.max=((4294967295:Nat):Int):=rfl
 rw[e,u32_xor_nat _ _ (by omega) c,Nat.xor_comm]
structure TabTo (cs0:Array Value)(k:Nat)(cs:Array Value):Prop where
 size:cs.size=260
 c0:cs[0]? = cs0[0]?
 c1:cs[1]? = cs0[1]?
 c2:cs[2]? = cs0[2]?
 many:cs[3]? = some (.int .i64 (k:Int))
 to:∀j,j<k->cs[4+j]? = some (.int .u32 (shN 8 j:Int))
theorem TabTo.next {c cs:Array Value}{k:Nat}(h:TabTo c k cs)(i:k<256) :
  TabTo c (k+1) ((cs.setIfInBounds (4+k) (.int .u32 (shN 8 k:Int))).setIfInBounds 3 (.int .i64 ((k:Int)+1))):=by
 have hs:=h.size
 refine⟨by simp[hs],?_,?_,?_,?_,?_⟩
 ·rw[zQ,if_neg (by omega),zQ,if_neg (by omega)];exact h.c0
 ·rw[zQ,if_neg (by omega),zQ,if_neg (by omega)];exact h.c1
 ·rw[zQ,if_neg (by omega),zQ,if_neg (by omega)];exact h.c2
 ·simp[hs]
 ·intro j f
  rw[zQ,if_neg (by omega),zQ]
  by_cases e:j=k
  ·subst e;rw[if_pos rfl,if_pos (by omega)]
  ·rw[if_neg (by omega)];exact h.to j (by omega)
theorem and_one {y:Nat}(c:y<4294967296):bits .and .u32 (y:Int) 1=((y % 2:Nat):Int):=by
 have:=u32_and_nat y 1 c (by omega)
 rw[Nat.and_one_is_mod] at this
 exact this
theorem make_gives (b:Nat)(f:Array Value)(w:World)(B:BlkIs w b 395 f)(M:TabTo f 0 f) :
  Calls Tryz.prog 358 #[.pointer (some ⟨b,0,none⟩)] w λe w'=>e = .returned (.tuple #[])/\(∃cs,BlkIs w' b 395 cs/\TabTo f 256 cs)/\w.grownBy w' (some b):=by
 go_enter Tryz.func358,Tryz.ntmps358
 go_wp2_with fail
 go_loopw [5] (λi wr=>∃(k:Nat) (cs:Array Value),k<=256/\i = .int .i64 k/\Hid (BlkIs wr b 395 cs/\TabTo f k cs)/\w.grownBy wr (some b)) (λi _=>256 - (intOf i).toNat)
 case atStart=>exact⟨0,f,by omega,rfl,Lib.hid ⟨B,M⟩,World.grownBy.refl _ _⟩
 case round =>
  obtain⟨k,cs,T,rfl,c,z⟩:=hrel
  by_cases C:k<256
  ·have L:=c.out.2.size
   have F:∃u,cs[4+k]? = some u:=⟨cs[4+k]'(by omega),Array.getElem?_eq_getElem (by omega)⟩
   obtain⟨u,hu⟩:=F
   have N:wr.cell? ⟨b,4+k,none⟩=some u:=(c.out.1.cell _).trans hu
   have S:wr.frozen? ⟨b,4+k,none⟩=false:=c.out.1.free _
   clear L hu
   go_wp2_with fail
   go_loop [3,10] (λs i=>∃j y:Nat,j<=8/\i = .int .i64 j/\y<4294967296/\s = .int .u32 y/\Hid (shN (8 - j) y=shN 8 k)) (λ_ i=>8 - (intOf i).toNat)
   case atStart=>exact⟨0,k,by omega,rfl,by omega,rfl,Lib.hid rfl⟩
   case round =>
    obtain⟨j,y,V,rfl,q,rfl,m⟩:=hrel
    by_cases O:j<8
    ·have hn:Hid (shN (8 - (j+1)) (sh y)=shN 8 k):=by
      have:=m.out
      rw[show 8 - j=(8 - (j+1))+1 from by omega] at this
      exact Lib.hid this
     have x:=sh_lt q
     have U:=and_one q
     clear m
     by_cases h:y % 2=1
     ·have hs:Hid (sh y=(y / 2) ^^^ poly):=Lib.hid (sh_odd h)
      have G:((((y % 2:Nat):Int)) == 1)=true:=by rw[beq_iff_eq];omega
      have X:=xor_poly q
      clear h
      go_wp2_with fail
      exact⟨⟨j+1,sh y,by omega,by go_num,x,by rw[hs.out],hn⟩,by simp[intOf];omega⟩
     ·have hs:Hid (sh y=y / 2):=Lib.hid (sh_even h)
      have G:((((y % 2:Nat):Int)) == 1)=false:=by rw[beq_eq_false_iff_ne];omega
      clear h
      go_wp2_with fail
      exact⟨⟨j+1,sh y,by omega,by go_num,x,by rw[hs.out];go_num,hn⟩,by simp[intOf];omega⟩
    ·have hn:Hid (y=shN 8 k):=by
      have:=m.out
      rw[show 8 - j=0 from by omega] at this
      exact Lib.hid this
     clear m
     have n:=c.out.1.set (4+k) (.int .u32 (y:Int))
     have A:(wr.setCell ⟨b,4+k,none⟩ (.int .u32 (y:Int))).cell? ⟨b,3,none⟩=some (.int .i64 (k:Int)):=by
      rw[n.cell,zQ,if_neg (by omega)]
      exact c.out.2.many
     have I:=n.free 3
     go_wp2_with (go_at_call 120;refine(int64_add b 3 k (by omega) _ A I).mono ?_;rintro e w' ⟨rfl,rfl⟩)
     refine⟨⟨k+1,_,by omega,by go_num,Lib.hid ⟨n.set 3 _,?_⟩,grownBy_trans z (grownBy_trans (grownBy_set _ _ _ _) (grownBy_set _ _ _ _))⟩,by simp[intOf];omega⟩
     rw[hn.out]
     exact c.out.2.next C
  ·obtain rfl:k=256:=by omega
   go_wp2_with fail
   go_end0
   exact⟨rfl,⟨cs,c.out⟩,z⟩
structure TabOk (d:Nat)(cs:Array Value):Prop where
 size:cs.size=260
 c0:cs[0]? = some (.int .u32 (d:Int))
 c1:cs[1]? = some (.int .i32 0)
 dd:d=0∨d=1
 many:d=0->cs[3]? = some (.int .i64 0)
 to:d=1->∀j,j<256->cs[4+j]? = some (.int .u32 (shN 8 j:Int))
theorem doSlow_gives (b:Nat)(m:Array Value)(w:World)(n:BlkIs w b 395 m)(i:TabOk 0 m) :
  Calls Tryz.prog 372 #[.pointer (some ⟨b,0,none⟩),.func (.func 358) #[.pointer (some ⟨b,0,none⟩)] #[]] w λe w' =>
   e = .returned (.tuple #[])/\(∃cs,BlkIs w' b 395 cs/\TabOk 1 cs)/\w.grownBy w' (some b):=by
 have T:w.cell? ⟨b,1,none⟩=some (.int .i32 0):=(n.cell 1).trans i.c1
 have F:=n.free 1
 have c:=n.set 1 (.int .i32 1)
 have V:(w.setCell ⟨b,1,none⟩ (.int .i32 1)).cell? ⟨b,0,none⟩=some (.int .u32 ((0:Nat):Int)):=by
  rw[c.cell,zQ,if_neg (by omega)]
  exact i.c0
 have U:=i.size
 have s:TabTo (m.setIfInBounds 1 (.int .i32 1)) 0 (m.setIfInBounds 1 (.int .i32 1)):=⟨by simp[U],rfl,rfl,rfl,by
  rw[zQ,if_neg (by omega)]
  exact i.many rfl,λj A=>by omega⟩
 have O:=make_gives b _ _ c s
 have X:(((0:Nat):Int) != 0)=false:=by decide
 clear s c
 go_enter_defers Tryz.func372,Tryz.ntmps372
 go_wp2_with (first
  | (go_at_call 376;refine(lock_free ⟨b,1,none⟩ _ T F).mono ?_;rintro e w' ⟨rfl,rfl⟩)
  | (go_at_call 371;refine(bool_load ⟨b,0,none⟩ 0 _ V).mono ?_;rintro e w' ⟨rfl,rfl⟩)
  | (go_at_call 358;refine O.mono ?_;rintro e u ⟨rfl,⟨x,c,k⟩,L⟩))
 have M:=k.size
 have B:x[0]? = some (.int .u32 ((0:Nat):Int)):=by rw[k.c0,zQ,if_neg (by omega)];exact i.c0
 have C:x[1]? = some (.int .i32 1):=by rw[k.c1,zQ,if_pos rfl,if_pos (by omega)]
 have q:=c.drew.set 0 (.int .u32 1)
 have I:=q.set 1 (.int .i32 0)
 refine leaves_cons (f:=378) (args:=#[.pointer (some ⟨b,0,none⟩),.bool true]) (by simp) (by simp[go_sem]) ?_
 refine(store_deferred ⟨b,0,none⟩ (.int .u32 0) .returning _ ((c.cell 0).trans B) (c.free 0)).mono ?_
 rintro e N G ⟨rfl,rfl,rfl⟩
 refine leaves_cons (f:=377) (args:=#[.pointer (some ⟨b,1,none⟩)]) (by simp[settle]) (by simp[go_sem]) ?_
 refine(unlock_deferred ⟨b,1,none⟩ _ _ (by rw[q.cell,zQ,if_neg (by omega)];exact C) (q.free 1)).mono ?_
 rintro e N G ⟨rfl,rfl,rfl⟩
 have z:(∃cs,BlkIs ((u.drew.setCell ⟨b,0,none⟩ (.int .u32 1)).setCell ⟨b,1,none⟩ (.int .i32 0)) b 395 cs/\TabOk 1 cs)/\w.grownBy ((u.drew.setCell ⟨b,0,none⟩ (.int .u32 1)).setCell ⟨b,1,none⟩ (.int .i32 0)) (some b):=by
  refine⟨⟨_,I,⟨by simp[M],?_,?_,.inr rfl,λh=>by omega,λ_ j A => ?_⟩⟩,?_⟩
  ·rw[zQ,if_neg (by omega),zQ,if_pos rfl,if_pos (by omega)];rfl
  ·rw[zQ,if_pos rfl,if_pos (by simp;omega)]
  ·rw[zQ,if_neg (by omega),zQ,if_neg (by omega)];exact k.to j A
  ·exact grownBy_trans (grownBy_set _ _ _ _) (grownBy_trans L (grownBy_trans (grownBy_drew _ _) (grownBy_trans (grownBy_set _ _ _ _) (grownBy_set _ _ _ _))))
 have S:=Lib.hid z
 clear z
 simp[Leaves,settle,results,Tryz.results372]
 exact S.out
theorem once_gives (b d:Nat)(f:Array Value)(w:World)(h:BlkIs w b 395 f)(c:TabOk d f) :
  Calls Tryz.prog 357 #[.pointer (some ⟨b,0,none⟩),.func (.func 358) #[.pointer (some ⟨b,0,none⟩)] #[]] w λe w' =>
   e = .returned (.tuple #[])/\(∃cs,BlkIs w' b 395 cs/\TabOk 1 cs)/\w.grownBy w' (some b):=by
 have i:w.cell? ⟨b,0,none⟩=some (.int .u32 (d:Int)):=(h.cell 0).trans c.c0
 rcases c.dd with rfl|rfl
 ·have k:=doSlow_gives b _ _ h c
  have m:(((0:Nat):Int) != 0)=false:=by decide
  go_enter Tryz.func357,Tryz.ntmps357
  go_wp2_with (first
   | (go_at_call 371;refine(bool_load ⟨b,0,none⟩ 0 _ i).mono ?_;rintro e w' ⟨rfl,rfl⟩)
   | (go_at_call 372;refine k.mono ?_;rintro e q ⟨rfl,n,j⟩))
  go_end0
  exact⟨rfl,n,j⟩
 ·have m:(((1:Nat):Int) != 0)=true:=by decide
  go_enter Tryz.func357,Tryz.ntmps357
  go_wp2_with (go_at_call 371;refine(bool_load ⟨b,0,none⟩ 1 _ i).mono ?_;rintro e w' ⟨rfl,rfl⟩)
  go_end0
  exact⟨rfl,⟨f,h,c⟩,World.grownBy.refl _ _⟩
theorem step_gives (b d:Nat)(f:Array Value)(s:Nat)(c:UInt8)(hs:s<4294967296)(w:World)(u:BlkIs w b 395 f)(B:TabOk d f) :
  Calls Tryz.prog 324 #[.pointer (some ⟨b,0,none⟩),.int .u32 s,.int .u8 (c.toNat:Int)] w λe w' =>
   e = .returned (.int .u32 (stepC s c:Int))/\(∃cs,BlkIs w' b 395 cs/\TabOk 1 cs)/\w.grownBy w' (some b):=by
 have m:=once_gives b d f w u B
 have G:∀(fn:Fn) (first j:Array Value) (w:World),(Instr.makeFunc fn first j).run Tryz.prog w = .ok (.func fn first j) w:=λ_ _ _ _=>rfl
 have N:=c.toNat_lt
 have A:(s % 256) ^^^ c.toNat<256:=by
  have:=Nat.xor_lt_two_pow (n:=8) (show s % 256<2 ^ 8 from by omega) (show c.toNat<2 ^ 8 from by omega)
  simpa using this
 have L:bits .xor .u8 ((s:Int) % 256) (c.toNat:Int)=(((s % 256) ^^^ c.toNat:Nat):Int):=by
  have:=u8_xor_nat (s % 256) c.toNat (by omega) (by omega)
  rw[<-this]
  congr 1
 have h:=stepC_table s c
 generalize i:(s % 256) ^^^ c.toNat=x at *
 have C:=Lib.hid i
 clear i
 have F:bits .xor .u32 ((s:Int) / 256) (shN 8 x:Int)=(stepC s c:Int):=by
  have:=u32_xor_nat (s / 256) (shN 8 x) (by omega) (shN_lt 8 (by omega))
  rw[h,<-this]
  congr 1
 clear h
 go_enter Tryz.func324,Tryz.ntmps324
 go_wp2_with (go_at_call 357;refine m.mono ?_;clear m;rintro e M ⟨rfl,⟨z,k,h1⟩,q⟩;have I:=(k.cell (4+x)).trans (h1.to rfl x A))
 go_ret
 exact⟨rfl,⟨z,k,h1⟩,q⟩
theorem BlkIs.kept {W W':World}{row:Option Nat}{g:Nat}{t:TypeId}{cs:Array Value}(h:BlkIs W g t cs)(f:W.grownBy W' row)(i:∀r,row=some r->∃o:Obj,W.heap[r]? = some o/\o.isCells=false):BlkIs W' g t cs :=
 h.grown f (λe=>by
  obtain⟨o,c,hc⟩:=i g e.symm
  rw[h] at c
  injection c with c
  subst c
  cases hc)
theorem BlkIs.boxed {W:World}{g:Nat}{t:TypeId}{v:Value}(h:BlkIs W g t #[v]):W.cell? ⟨g,0,none⟩=some v:=by rw[h.cell];rfl
theorem BlkIs.others {W W':World}{b:Nat}{t:TypeId}{cs:Array Value}(h:BlkIs W b t cs)(f:W.grownBy W' (some b)):KeepsOthers W W' :=
 KeepsOthers.of_grownBy f (λj o e c=>by
  injection e with e
  subst e
  rw[h] at c
  injection c with c
  subst c
  rfl)
end Go.Proofs.YtpibjkbadnffgaaGreat
namespace Go.Proofs.YtpibjkbadnffgaaGreat
open Go Go.RowKit Lou Go.Shelf
attribute [local go_sem] Oper.semAt_some
abbrev Piece (w0:World)(n₀:Nat):={ x:(Option Addr×Nat)×List UInt8 // InB w0 n₀ x.1.1 x.1.2 x.2 }
def Piece.val {w0:World}{n₀:Nat}(p:Piece w0 n₀):Value:=.slice p.1.1.1 p.1.2.length p.1.1.2
def Piece.l {w0:World}{n₀:Nat}(p:Piece w0 n₀):List UInt8:=p.1.2
structure InLL (w:World)(B:Nat)(A:Option Addr)(c:Nat)(ls:List (Piece w B)):Prop where
 le:ls.length<=c
 max:c<=9223372036854775807
 lies:0<ls.length->∃g o,A=some ⟨g,o,none⟩/\g<B/\∀j (h:j<ls.length),w.cell? ⟨g,o+j,none⟩=some ls[j].val
section
variable {w0:World}{n₀:Nat}
theorem values1_some (n:Nat)(aB:1<=n)(l q b off N:Nat)(zs:List (Piece w0 n₀))(X:zs.length<=9223372036854775807)(M:b<n₀)(J C:List (Piece w0 n₀)->World->Prop)
  (T:∀c x W,J c W->c.length<zs.length->YieldAt Fence.wide (n - 1) Tryz.prog l #[x.val] W λe W' =>
   (e = .returned (.bool true)/\J (c++[x]) W'/\Below n₀ W W')∨(e = .returned (.bool false)/\C (c++[x]) W'))
  (W:World) (aA:W.cell? ⟨q,0,none⟩=some (.slice (some ⟨b,off,none⟩) zs.length N)) (hc:∀j (h:j<zs.length),W.cell? ⟨b,off+j,none⟩=some zs[j].val) (U:J [] W) :
  CallsIn Fence.wide n Tryz.prog 356 #[.func (.yield l) #[] #[],.pointer (some ⟨q,0,none⟩)] W λe W'=>(∃v,e = .returned v) /\
   ((∃z,z=zs/\J z W')∨(∃c,c <+: zs/\C c W')):=by
 refine callsIn_of_wp Tryz.func356 rfl trivial ?_ rfl
 simp only[Tryz.ntmps356,zT,zP,qE,qO,qP,zX,zY,qD,qA,zV,qB]
 gi_wp2
 gi_loopw [7] (λi wr=>∃k:Nat,k<=zs.length/\i = .int .i64 k/\J (zs.take k) wr/\Below n₀ W wr)
  (λi _=>zs.length - (intOf i).toNat)
 case atStart=>exact⟨0,Nat.zero_le _,rfl,by simpa using U,Below.refl _ _⟩
 case round =>
  obtain⟨k,V,rfl,B,m⟩:=hrel
  by_cases A:k<zs.length
  ·have L:wr.cell? ⟨b,off+k,none⟩=some zs[k].val:=(m.cell (p:=⟨b,off+k,none⟩) M).trans (hc k A)
   obtain⟨fn,tmps,assign,body,F,G⟩:=T _ zs[k] wr B (by simp;omega)
   have s:zs.take k++[zs[k]]=zs.take (k+1):=(zW A).symm
   have u:=Lib.hid s
   clear s
   have f:zs[k].val = .slice zs[k].1.1.1 zs[k].1.2.length zs[k].1.1.2:=rfl
   rw[f] at L F
   clear f hc
   gi_wp2
   refine G.mono ?_
   rintro e Z (⟨rfl,S,I⟩|⟨rfl,O⟩)
   ·gi_wp2
    go_roundw
    case rel=>exact⟨k+1,by omega,by simp,by rw[<-u.out];exact S,m.trans I⟩
    case measure=>simp[intOf];omega
   ·gi_wp2
    refine bodyPost_ret (results_none rfl _ _ _) rfl ?_
    exact⟨⟨_,rfl⟩,.inr ⟨_,by rw[u.out];exact List.take_prefix _ _,O⟩⟩
  ·obtain rfl:k=zs.length:=by omega
   gi_wp2
   go_end0
   exact⟨⟨_,rfl⟩,.inl ⟨_,List.take_length,B⟩⟩
theorem values1_empty (n:Nat)(l c:Nat)(A:Option Addr)(f:Nat)(J:List (Piece w0 n₀)->World->Prop)(W:World)(k:W.cell? ⟨c,0,none⟩=some (.slice A 0 f))(h:J [] W) :
  CallsIn Fence.wide n Tryz.prog 356 #[.func (.yield l) #[] #[],.pointer (some ⟨c,0,none⟩)] W λe W'=>(∃v,e = .returned v)/\J [] W':=by
 refine callsIn_of_wp Tryz.func356 rfl trivial ?_ rfl
 simp only[Tryz.ntmps356,zT,zP,qE,qO,qP,zX,zY,qD,qA,zV,qB]
 gi_wp2
 gi_loopw [7] (λi wr=>i = .int .i64 0/\J [] wr) (λ_ _=>0)
 case atStart=>exact⟨rfl,h⟩
 case round =>
  obtain⟨rfl,j⟩:=hrel
  gi_wp2
  go_end0
  exact⟨⟨_,rfl⟩,j⟩
theorem values_in (n:Nat)(a:Option Addr)(len c:Nat)(w:World) :
  CallsIn Fence.wide n Tryz.prog 323 #[.slice a len c] w λe w'=>e = .returned (.func (.func 356) #[] #[.pointer (some ⟨w.heap.size,0,none⟩)])/\w.alloc (.cells #[.slice a len c] 151)=w':=by
 refine callsIn_of_wp Tryz.func323 rfl trivial ?_ rfl
 simp only[Tryz.ntmps323,zT,zP,qE,qO,qP,zX,zY,qD,qA,zV,qB]
 gi_wp2
 go_ret
 exact⟨rfl,rfl⟩
theorem values_stops (n:Nat)(L:1<=n)(f:Nat)(A:Option Addr)(c:Nat)(zs:List (Piece w0 n₀))(i:InLL w0 n₀ A c zs)(w:World)(O:Below n₀ w0 w)(G:f<w.heap.size)(I:n₀<=w.heap.size)
  (hc:w.cell? ⟨f,0,none⟩=some (.slice A zs.length c)) :
  SeqStopsK Fence.wide n Tryz.prog 356 #[.pointer (some ⟨f,0,none⟩)] (λx:Piece w0 n₀=>#[x.val]) (Below n₀) (λF=>F=zs) (λB=>B <+: zs) zs.length w:=λl J N W s _ _ M u=>by
 have q:=(s.cell (p:=⟨f,0,none⟩) G).trans hc
 have S:=i.le
 have T:=i.max
 rcases Nat.eq_zero_or_pos zs.length with h|h
 ·obtain rfl:=zZ h
  exact(values1_empty n l f A c J W q u).mono λe W' ⟨z,k⟩=>⟨z,.inl ⟨_,rfl,k⟩⟩
 ·obtain⟨g,o,rfl,m,C⟩:=i.lies h
  exact values1_some n L l f g o c zs (by omega) m J N M W q (λj k=>((O.trans (s.mono I)).cell m).trans (C j k)) u
end
theorem tab_zero:TabOk 0 Tryz.zeroCells395 :=
 ⟨by kernel_rfl,by kernel_rfl,by kernel_rfl,.inl rfl,λ_=>by kernel_rfl,λh=>by omega⟩
theorem sum_in (n:Nat)(hn:4<=n)(w:World)(A:Option Addr)(c:Nat)(zs:List (Piece w w.heap.size))(hI:InLL w w.heap.size A c zs) :
  CallsIn Fence.wide n Tryz.prog 291 #[.slice A zs.length c] w λe W'=>e = .returned (.int .u32 (sumL (zs.map Piece.l).flatten:Int))/\Below w.heap.size w W':=by
 have h1:1<=n:=by omega
 refine callsIn_of_wp_marks Tryz.func291 rfl trivial ?_ rfl
 simp only[Tryz.ntmps291,zT,zP,qE,qO,qP,zX,zY,qD,qA,zV,qB]
 gi_wp2_with (refine⟨trivial,?_⟩;gi_at_call 323;refine(values_in (n - 1) _ _ _ _).mono ?_;rintro e w' ⟨rfl,rfl⟩)
 have b0:BlkIs ((((w.alloc (.cells Tryz.zeroCells395 395)).alloc (.cells #[.pointer (some ⟨w.heap.size,0,none⟩)] 383)).alloc (.cells #[.int .u32 4294967295] 144)).alloc (.cells #[.slice A zs.length c] 151)) w.heap.size 395 Tryz.zeroCells395:=(((BlkIs.new _ _ _).alloc _).alloc _).alloc _
 have b1:BlkIs ((((w.alloc (.cells Tryz.zeroCells395 395)).alloc (.cells #[.pointer (some ⟨w.heap.size,0,none⟩)] 383)).alloc (.cells #[.int .u32 4294967295] 144)).alloc (.cells #[.slice A zs.length c] 151)) (w.heap.size+1) 383 #[.pointer (some ⟨w.heap.size,0,none⟩)]:=by
  have:=((BlkIs.new (w.alloc (.cells Tryz.zeroCells395 395)) 383 #[.pointer (some ⟨w.heap.size,0,none⟩)]).alloc (.cells #[.int .u32 4294967295] 144)).alloc (.cells #[.slice A zs.length c] 151)
  rwa [World.size_alloc] at this
 have b2:BlkIs ((((w.alloc (.cells Tryz.zeroCells395 395)).alloc (.cells #[.pointer (some ⟨w.heap.size,0,none⟩)] 383)).alloc (.cells #[.int .u32 4294967295] 144)).alloc (.cells #[.slice A zs.length c] 151)) (w.heap.size+1+1) 144 #[.int .u32 4294967295]:=by
  have:=(BlkIs.new ((w.alloc (.cells Tryz.zeroCells395 395)).alloc (.cells #[.pointer (some ⟨w.heap.size,0,none⟩)] 383)) 144 #[.int .u32 4294967295]).alloc (.cells #[.slice A zs.length c] 151)
  rwa [World.size_alloc,World.size_alloc] at this
 have b3:((((w.alloc (.cells Tryz.zeroCells395 395)).alloc (.cells #[.pointer (some ⟨w.heap.size,0,none⟩)] 383)).alloc (.cells #[.int .u32 4294967295] 144)).alloc (.cells #[.slice A zs.length c] 151)).cell? ⟨w.heap.size+1+1+1,0,none⟩=some (.slice A zs.length c):=by
  have:=new_cell (((w.alloc (.cells Tryz.zeroCells395 395)).alloc (.cells #[.pointer (some ⟨w.heap.size,0,none⟩)] 383)).alloc (.cells #[.int .u32 4294967295] 144)) (.slice A zs.length c) 151
  rwa [World.size_alloc,World.size_alloc,World.size_alloc] at this
 have V:Below w.heap.size w ((((w.alloc (.cells Tryz.zeroCells395 395)).alloc (.cells #[.pointer (some ⟨w.heap.size,0,none⟩)] 383)).alloc (.cells #[.int .u32 4294967295] 144)).alloc (.cells #[.slice A zs.length c] 151)) :=
  ((((Below.refl _ w).alloc (zH _) _).alloc (by simp) _).alloc (by simp;omega) _).alloc (by simp;omega) _
 have aH:((((w.alloc (.cells Tryz.zeroCells395 395)).alloc (.cells #[.pointer (some ⟨w.heap.size,0,none⟩)] 383)).alloc (.cells #[.int .u32 4294967295] 144)).alloc (.cells #[.slice A zs.length c] 151)).heap.size=w.heap.size+4:=by simp
 generalize aE:((((w.alloc (.cells Tryz.zeroCells395 395)).alloc (.cells #[.pointer (some ⟨w.heap.size,0,none⟩)] 383)).alloc (.cells #[.int .u32 4294967295] 144)).alloc (.cells #[.slice A zs.length c] 151))=W0 at *
 clear aE
 refine wpIn_rangeFunc_ownG rfl h1 (gf:=356) (lb:=#[.pointer (some ⟨w.heap.size+1+1+1,0,none⟩)]) rfl trivial (enters_of Tryz.func356 (by kernel_rfl) rfl)
  (values_stops (n - 1) (by omega) (w.heap.size+1+1+1) A c zs hI W0 V (by omega) (by omega) b3) belowK_t (belowK_b (by omega)) (Below.refl _ _) (λ_=>rfl)
  (λf W=>((∃d cs,BlkIs W w.heap.size 395 cs/\TabOk d cs)/\BlkIs W (w.heap.size+1) 383 #[.pointer (some ⟨w.heap.size,0,none⟩)]/\BlkIs W (w.heap.size+1+1) 144 #[.int .u32 (sumS 4294967295 (f.map Piece.l).flatten:Int)])/\Below w.heap.size w W)
  (λ_ _ _=>False)
  (OwnFrom.and (Own.from (λs A B row hs q O=>⟨by obtain⟨d,cs,h1,h2⟩:=hs.1;exact⟨d,cs,h1.kept q O,h2⟩,hs.2.1.kept q O,hs.2.2.kept q O⟩) _) (ownFrom_below (zH _) (by omega)))
  (λ_ _ _ _ _ hs _ _=>hs)
  ⟨⟨⟨0,_,b0,tab_zero⟩,b1,b2⟩,V⟩
  (λx => { tmps:=#[.slice A zs.length c,undef,.int .u32 0,.pointer (some ⟨w.heap.size+1,0,none⟩),.pointer (some ⟨w.heap.size+1+1,0,none⟩),.slice x.1.1.1 x.1.2.length x.1.1.2,undef,undef,.agg Tryz.zeroCells395,.pointer (some ⟨w.heap.size,0,none⟩),.slice A zs.length c,.func (.func 356) #[] #[.pointer (some ⟨w.heap.size+1+1+1,0,none⟩)],.slice x.1.1.1 x.1.2.length x.1.1.2,undef,undef,undef,undef,undef,undef,undef,undef,undef,undef,undef,undef,undef],defers:=[] }) ?assign ?body ?done ?stop
 case assign =>
  intro l x W K C
  have hv:x.val = .slice x.1.1.1 x.1.2.length x.1.1.2:=rfl
  dsimp only[hv]
  gi_wp2
  exact C
 case body =>
  rintro l f x W ⟨⟨⟨d,cs,m,F⟩,hP,j⟩,hB⟩ _
  have N:=x.2
  have aK:=N.le
  have aI:=N.max
  have aL:1<=n - 1 - 1:=by omega
  have hF:(f++[x]).map Piece.l=f.map Piece.l++[x.1.2]:=by simp[Piece.l]
  have T:sumS 4294967295 ((f++[x]).map Piece.l).flatten=sumS (sumS 4294967295 (f.map Piece.l).flatten) x.1.2:=by
   rw[hF,List.flatten_append,sumS_append];simp
  have I:=sumS_lt (s:=4294967295) (by omega) (f.map Piece.l).flatten
  have HF:=Lib.hid T
  clear hF T
  generalize sumS 4294967295 (f.map Piece.l).flatten=u at *
  have hz:=aH
  gi_wp2_with fail
  gi_loopw [15] (λi wr=>∃k:Nat,k<=x.1.2.length/\i = .int .i64 k/\(∃d cs,BlkIs wr w.heap.size 395 cs/\TabOk d cs)/\BlkIs wr (w.heap.size+1) 383 #[.pointer (some ⟨w.heap.size,0,none⟩)]/\BlkIs wr (w.heap.size+1+1) 144 #[.int .u32 (sumS u (x.1.2.take k):Int)]/\Below w.heap.size W wr/\KeepsOthers W wr)
   (λi _=>x.1.2.length - (intOf i).toNat)
  case atStart=>exact⟨0,by omega,rfl,⟨d,cs,m,F⟩,hP,j,Below.refl _ _,KeepsOthers.refl _⟩
  case round =>
   obtain⟨k,U,rfl,⟨d,cs,m,F⟩,hP,j,z,S⟩:=hrel
   by_cases Z:k<x.1.2.length
   ·obtain⟨g,o,M,q,hc⟩:=N.lies (by omega)
    have aN:wr.cell? ⟨g,o+k,none⟩=some (.int .u8 (x.1.2[k].toNat:Int)):=((hB.trans z).cell (p:=⟨g,o+k,none⟩) q).trans (hc k Z)
    have aG:=sumS_lt I (x.1.2.take k)
    have X:sumS u (x.1.2.take (k+1))=stepC (sumS u (x.1.2.take k)) x.1.2[k]:=by
     rw[zW Z,sumS_append];rfl
    have HN:=Lib.hid X
    clear X hc I
    generalize sumS u (x.1.2.take k)=sk at *
    have aJ:=hP.boxed
    have aB:=j.boxed
    rw[M]
    have HA:=Lib.hid M
    clear M
    gi_wp2_with (refine⟨trivial,?_⟩;gi_at_call 324;refine(CallsIn.inRound l (callsIn_wide.2 (step_gives w.heap.size d cs sk x.1.2[k] aG _ m F))).mono ?_;rintro e w' ⟨rfl,⟨aD,aC,h1⟩,G⟩;have L:=j.grown G (by simp;omega);have aA:=hP.grown G (by simp);have aO:=L.boxed;have aM:=L.free 0)
    have aF:Below w.heap.size wr w':=(Below.refl _ _).grown G (by have:=m.lt;omega) (λk U=>by cases U;exact zH _)
    refine⟨⟨k+1,by omega,by go_num,⟨1,aD,aC.other (by simp;omega) _,h1⟩,aA.other (by simp) _,?_,(z.trans aF).setCell (p:=⟨w.heap.size+1+1,0,none⟩) (by simp;omega) _,(S.trans (m.others G)).trans (KeepsOthers.setCell _ _ _)⟩,by simp[intOf];omega⟩
    rw[HN.out]
    exact L.set 0 _
   ·obtain rfl:k=x.1.2.length:=by omega
    gi_wp2_with fail
    rw[List.take_length] at j
    refine⟨S.from _,z,⟨⟨⟨d,cs,m,F⟩,hP,?_⟩,hB.trans z⟩⟩
    rw[HF.out]
    exact j
 case done =>
  rintro D ys W hD rfl ⟨⟨m,hP,j⟩,hB⟩ C
  have aB:=j.boxed
  have I:=sumS_lt (s:=4294967295) (by omega) (ys.map Piece.l).flatten
  have hinv:=xor_inv I
  gi_wp2
  refine⟨by simp,.inl ⟨_,_,rfl,run_takeDeferred C,?_⟩⟩
  exact⟨_,results_tmp rfl _ _ _,rfl,hB.trans (belowK_b (w:=w) (zH _) W D _ _ (by omega) C rfl rfl)⟩
 case stop =>
  rintro D c f W _ _ h _
  exact h.elim
theorem sum_gives (w:World)(A:Option Addr)(c:Nat)(zs:List (Piece w w.heap.size))(f:InLL w w.heap.size A c zs) :
  Calls Tryz.prog 291 #[.slice A zs.length c] w λe W'=>e = .returned (.int .u32 (sumL (zs.map Piece.l).flatten:Int))/\Below w.heap.size w W' :=
 callsIn_wide.1 (sum_in 4 (zH _) w A c zs f)
theorem sum1_gives (W:World)(A:Option Addr)(c:Nat)(l:List UInt8)(i:InB W W.heap.size A c l) :
  Calls Tryz.prog 291 #[.slice (some ⟨W.heap.size,0,none⟩) 1 1] (W.alloc (.cells #[.slice A l.length c] 87)) λe W'=>e = .returned (.int .u32 (sumL l:Int))/\Below W.heap.size W W':=by
 have f:Below W.heap.size W (W.alloc (.cells #[.slice A l.length c] 87)):=(Below.refl _ _).alloc (zH _) _
 have h1:InB (W.alloc (.cells #[.slice A l.length c] 87)) (W.alloc (.cells #[.slice A l.length c] 87)).heap.size A c l:=(i.below f).more (by simp)
 have H:=sum_gives (W.alloc (.cells #[.slice A l.length c] 87)) (some ⟨W.heap.size,0,none⟩) 1 [⟨((A,c),l),h1⟩] ⟨by simp,by omega,λ_=>⟨W.heap.size,0,rfl,by simp,λj h=>by
  obtain rfl:j=0:=by simpa using h
  exact new_cell _ _ _⟩⟩
 refine H.mono ?_
 rintro e W' ⟨rfl,hB⟩
 exact⟨by simp[Piece.l],f.trans (hB.mono (by simp))⟩
theorem sum2_gives (W:World)(A f:Option Addr)(c c2:Nat)(l l2:List UInt8)(k:InB W W.heap.size A c l)(i:InB W W.heap.size f c2 l2) :
  Calls Tryz.prog 291 #[.slice (some ⟨W.heap.size,0,none⟩) 2 2] (W.alloc (.cells #[.slice A l.length c,.slice f l2.length c2] 87)) λe W'=>e = .returned (.int .u32 (sumL (l++l2):Int))/\Below W.heap.size W W':=by
 have h:Below W.heap.size W (W.alloc (.cells #[.slice A l.length c,.slice f l2.length c2] 87)):=(Below.refl _ _).alloc (zH _) _
 have h1:InB (W.alloc (.cells #[.slice A l.length c,.slice f l2.length c2] 87)) (W.alloc (.cells #[.slice A l.length c,.slice f l2.length c2] 87)).heap.size A c l:=(k.below h).more (by simp)
 have h2:InB (W.alloc (.cells #[.slice A l.length c,.slice f l2.length c2] 87)) (W.alloc (.cells #[.slice A l.length c,.slice f l2.length c2] 87)).heap.size f c2 l2:=(i.below h).more (by simp)
 have m:=BlkIs.new W 87 #[.slice A l.length c,.slice f l2.length c2]
 have H:=sum_gives (W.alloc (.cells #[.slice A l.length c,.slice f l2.length c2] 87)) (some ⟨W.heap.size,0,none⟩) 2 [⟨((A,c),l),h1⟩,⟨((f,c2),l2),h2⟩] ⟨by simp,by omega,λ_=>⟨W.heap.size,0,rfl,by simp,λj n=>by
  rw[m.cell]
  rcases(show j=0∨j=1 from by simp at n;omega) with rfl|rfl
  ·rfl
  ·rfl⟩⟩
 refine H.mono ?_
 rintro e W' ⟨rfl,hB⟩
 exact⟨by simp[Piece.l],h.trans (hB.mono (by simp))⟩
end Go.Proofs.YtpibjkbadnffgaaGreat
namespace Go.Proofs.YtpibjkbadnffgaaGreat
open Go Go.RowKit Lou
theorem BlkIs.setRow {w:World}{g:Nat}{t:TypeId}{cs:Array Value}(h:BlkIs w g t cs)(cs':Array Value):BlkIs (w.setRow g cs') g t cs':=setRow_heap w g cs cs' t (0,0) h
theorem BlkIs.setRow_ne {w:World}{g k:Nat}{t:TypeId}{cs:Array Value}(h:BlkIs w g t cs)(c:g≠k)(cs':Array Value):BlkIs (w.setRow k cs') g t cs:=(setRow_other w k g cs' c).trans h
theorem below_setRow {B:Nat}{w0 w:World}(c:Below B w0 w){g:Nat}(e:B<=g)(cs:Array Value):Below B w0 (w.setRow g cs) :=
 c.trans ⟨rfl,rfl,rfl,by simp[World.setRow],λk f=>setRow_other w g k cs (by omega)⟩
def spliceB (l:List UInt8)(o n:Nat)(src:List UInt8):List UInt8:=l.take o++src.take n++l.drop (o+min src.length n)
theorem copyB_run {w:World}{g o:Nat}{l src:List UInt8}{A:Option Addr}{c B f dCap:Nat}(h:TypeId){T:TypeId}(i:BlkIs w g T (l.map b8).toArray)(u:InB w B A c src)(U:o+f<=l.length) :
  (Builtin.copy_ #[87,87] h #[.slice (some ⟨g,o,none⟩) f dCap,.slice A src.length c]).run Tryz.prog w = .ok (.int .i64 ((min src.length f:Nat):Int)) (w.setRow g ((spliceB l o f src).map b8).toArray):=by
 obtain⟨N,z,S,C,V⟩:=info_parts inf_u8
 have hs:(Tryz.prog.info? 5).map (·.size)=some 1:=by rw[z];simp[C]
 rcases Nat.eq_zero_or_pos src.length with q|q
 ·obtain rfl:=zZ q
  have e:spliceB l o f []=l:=by simp[spliceB]
  rw[e,setRow_self w g _ _ _ i]
  rcases A with _|G
  ·obtain rfl:=u.nil rfl
   have:=run_copy_nil (P:=Tryz.prog) w 87 87 h 5 ⟨g,o,none⟩ f dCap Tryz.underlying87 (by rw[z];rfl)
   simpa[goInt] using this
  ·have:=run_copy_row (P:=Tryz.prog) w 87 87 h 5 g o f dCap G 0 c _ _ [] Tryz.underlying87 hs i (by simp) (by simp) (by simp;omega) (by simp)
   have F:((l.map b8).toArray.toList.take o++[] ++ (l.map b8).toArray.toList.drop (o+([]:List Value).length)).toArray=(l.map b8).toArray:=by simp
   rw[F,setRow_self w g _ _ _ i] at this
   simpa[goInt] using this
 ·obtain⟨k,n,rfl,O,hc⟩:=u.lies q
  have:=run_copy_row (P:=Tryz.prog) w 87 87 h 5 g o f dCap ⟨k,n,none⟩ src.length c _ _ ((src.take f).map b8) Tryz.underlying87 hs i (by simp[Nat.min_comm]) ?_ (by simp;omega) (λv M=>by obtain⟨x,_,rfl⟩:=List.mem_map.1 M;rfl)
  ·rw[this]
   simp[goInt,spliceB,Nat.min_comm,List.map_take,List.map_drop]
  ·intro j v m
   have s:j<(src.take f).length:=by
    have:=(List.getElem?_eq_some_iff.1 m).1
    simpa using this
   have L:j<src.length:=by simp at s;omega
   have I:(⟨k,n,none⟩:Addr).add j=⟨k,n+j,none⟩:=by cases j<;>simp[Addr.add]
   rw[I,hc j L]
   rw[List.getElem?_map,zM s,List.getElem_take] at m
   simpa[b8] using m
section
variable {w:World}{ops:Array Oper}{rest:List Oper}{o:Oper}{a:Act}{Q:Exit->Act->World->Prop}
theorem oper_copyB {K:Act->World->Prop}(d s:Operand)(f:o.op = .call { callee:=.builtin .copy,args:=#[d,s],argTypes:=#[87,87] })
  (g off:Nat) (l src:List UInt8) (A:Option Addr) (c B e dCap:Nat) (hd:a.eval d = .slice (some ⟨g,off,none⟩) e dCap) (hs:a.eval s = .slice A src.length c)
  {T:TypeId} (k:BlkIs w g T (l.map b8).toArray) (m:InB w B A c src) (j:off+e<=l.length)
  (h:K (a.put o.dst (.int .i64 ((min src.length e:Nat):Int))) (w.setRow g ((spliceB l off e src).map b8).toArray)):o.wp Tryz.prog a w K Q:=by
 have i:=copyB_run (dCap:=dCap) o.type k m j
 unfold Oper.wp execOp
 simp only[f,resolve,invoke,builtin,Sem.run_bind,Sem.run_pure,Result.andThen_ok,zK,zL,zN,hd,hs,i]
 exact h
theorem wp_copyB (n:o.guard=none)(d s:Operand)(i:o.op = .call { callee:=.builtin .copy,args:=#[d,s],argTypes:=#[87,87] })
  (g off:Nat) (l src:List UInt8) (A:Option Addr) (c B e dCap:Nat) (hd:a.eval d = .slice (some ⟨g,off,none⟩) e dCap) (hs:a.eval s = .slice A src.length c)
  {T:TypeId} (k:BlkIs w g T (l.map b8).toArray) (m:InB w B A c src) (j:off+e<=l.length)
  (h:wpList Tryz.prog ops Q rest (a.put o.dst (.int .i64 ((min src.length e:Nat):Int))) (w.setRow g ((spliceB l off e src).map b8).toArray)):wpList Tryz.prog ops Q (o::rest) a w :=
 wpList_plain n λ_ f=>oper_copyB d s i g off l src A c B e dCap hd hs k m j (f _ _ h)
end
theorem OwnB.blk {w:World}{base g:Nat}{l:List UInt8}(h:OwnB w base (.slice (some ⟨g,0,none⟩) l.length l.length) l):BlkIs w g 5 (l.map b8).toArray/\base<=g:=by
 rcases h.2 with⟨h1,_⟩|⟨g',cap,cur,hv,hb,hg,hle,_,hs,ht⟩
 ·cases h1
 ·injection hv with e1 e2 e3
  injection e1 with e1
  injection e1 with e1 _ _
  subst e1 e3
  refine⟨?_,hb⟩
  have e:cur.toList=l.map b8:=by
   rw[<-ht,qI]
   simp;omega
  have c:cur=(l.map b8).toArray:=by rw[<-e]
  unfold BlkIs
  rw[hg,c]
theorem OwnB.later {w w':World}{base:Nat}{v:Value}{l:List UInt8}(h:OwnB w base v l)(hB:Below w.heap.size w w'):OwnB w' base v l:=by
 refine⟨h.1,?_⟩
 rcases h.2 with h|⟨g,e,f,h1,h2,c,i⟩
 ·exact .inl h
 ·exact .inr ⟨g,e,f,h1,h2,(hB.block g (zI.1 c).1).trans c,i⟩
theorem OwnB.ownGe {w:World}{base:Nat}{v:Value}{l:List UInt8}(h:OwnB w base v l):∀r,v.ownBlock=some r->base<=r:=by
 intro r c
 rcases h.form with⟨rfl,_⟩|⟨g,cap,rfl,hb,_⟩
 ·cases c
 ·injection c with c
  subst c
  exact hb
theorem grown_below {w w':World}{B:Nat}{row:Option Nat}(c:w.grownBy w' row)(hB:B<=w.heap.size)(f:∀r,row=some r->B<=r):Below B w w' :=
 ⟨c.os,c.tape,c.output,c.size,λk h=>c.block k (by omega) (λe=>by have:=f k e.symm;omega)⟩
section
variable {w:World}{ops:Array Oper}{o:Oper}{a:Act}{K:Act->World->Prop}{Q:Exit->Act->World->Prop}{E:Prop}
theorem step_copyB (m:o.guard=none)(d s:Operand)(f:o.op = .call { callee:=.builtin .copy,args:=#[d,s],argTypes:=#[87,87] })
  (g off:Nat) (l src:List UInt8) (A:Option Addr) (c B e dCap:Nat) (hd:a.eval d = .slice (some ⟨g,off,none⟩) e dCap) (hs:a.eval s = .slice A src.length c)
  {T:TypeId} (j:BlkIs w g T (l.map b8).toArray) (k:InB w B A c src) (i:off+e<=l.length)
  (h:K (a.put o.dst (.int .i64 ((min src.length e:Nat):Int))) (w.setRow g ((spliceB l off e src).map b8).toArray)) :
  if Region.wanted o (yielded ops a.tmps)=true then Oper.wp Tryz.prog o a w K Q else E:=by
 have n:Region.wanted o (yielded ops a.tmps)=true:=by simp[Region.wanted,m]
 rw[if_pos n]
 exact oper_copyB d s f g off l src A c B e dCap hd hs j k i h
end
theorem BlkIs.range {w:World}{g:Nat}{t:TypeId}{cs:Array Value}(h:BlkIs w g t cs):w.rangeAt g 0 cs.toList:=λj v c=>by
 rw[qC,h.cell]
 simpa using c
structure RowTy (P:Program)(T:TypeId)(n:Nat):Prop where
 desc:∃d,P.underlying T=some d/\d.isRow=true
 size:(P.info? T).map (·.size)=some n
theorem run_loadW {P:Program}{w:World}{g:Nat}{T t:TypeId}{cs:Array Value}(c:RowTy P T cs.size)(e:BlkIs w g t cs):(loadVar T ⟨g,0,none⟩).run P w = .ok (.agg cs) w:=by
 obtain⟨d,hu,hd⟩:=c.desc
 have:=run_loadVar_mid (P:=P) w g 0 T cs.toList d e.range hu hd (by simpa using c.size)
 simpa using this
theorem run_storeW {P:Program}{w:World}{g:Nat}{T t:TypeId}{cs cs':Array Value}(k:RowTy P T cs.size)(f:BlkIs w g t cs)(hs:cs'.size=cs.size)(h1:∀v∈cs'.toList,v.oneCell'=true):(storeVar T ⟨g,0,none⟩ (.agg cs')).run P w = .ok () (w.setRow g cs'):=by
 have h:=run_storeCells_at (P:=P) g 0 t cs'.toList 0 cs w f (by simp;omega) h1
 have e:(cs.toList.take (0+0)++cs'.toList++cs.toList.drop (0+0+cs'.toList.length)).toArray=cs':=by
  simp[List.drop_of_length_le,hs]
 rw[e] at h
 have c:=k.size
 cases hq:P.info? T with
 | none=>simp[hq] at c
 | some i =>
  have j:cs'.size=i.size:=by simp[hq] at c;omega
  simp[storeVar,sizeOf,typeInfo,hq,Value.cells,j,h]
section
variable {P:Program}{w:World}{ops:Array Oper}{rest:List Oper}{o:Oper}{a:Act}{Q:Exit->Act->World->Prop}
theorem oper_loadW {K:Act->World->Prop}(T:TypeId)(x:Operand)(e:o.op = .load T x)(g:Nat){t:TypeId}{cs:Array Value}(f:a.eval x = .pointer (some ⟨g,0,none⟩)){n:Nat}(i:RowTy P T n)(c:BlkIs w g t cs)(hn:cs.size=n)
  (h:K (a.put o.dst (.agg cs)) w):o.wp P a w K Q:=by
 unfold Oper.wp execOp
 simp only[e,f,Instr.loadAt,Instr.sureAddr,Sem.run_bind,Sem.run_pure,Result.andThen_ok,run_loadW (hn▸i) c]
 exact h
theorem oper_storeW {K:Act->World->Prop}(T:TypeId)(x y:Operand)(c:o.op = .store T x y)(g:Nat){t:TypeId}{cs cs':Array Value}(f:a.eval x = .pointer (some ⟨g,0,none⟩))(e:a.eval y = .agg cs'){n:Nat}(j:RowTy P T n)(i:BlkIs w g t cs)(hn:cs.size=n)
  (hs:cs'.size=cs.size) (h1:∀v∈cs'.toList,v.oneCell'=true) (h:K (a.put o.dst undef) (w.setRow g cs')):o.wp P a w K Q:=by
 unfold Oper.wp execOp
 simp only[c,f,e,Instr.storeAt,Instr.sureAddr,Sem.run_bind,Sem.run_pure,Result.andThen_ok,run_storeW (hn▸j) i hs h1]
 exact h
theorem wp_loadW (e:o.guard=none)(T:TypeId)(x:Operand)(i:o.op = .load T x)(g:Nat){t:TypeId}{cs:Array Value}(j:a.eval x = .pointer (some ⟨g,0,none⟩)){n:Nat}(k:RowTy P T n)(f:BlkIs w g t cs)(hn:cs.size=n)
  (h:wpList P ops Q rest (a.put o.dst (.agg cs)) w):wpList P ops Q (o::rest) a w :=
 wpList_plain e λ_ c=>oper_loadW T x i g j k f hn (c _ _ h)
theorem wp_storeW (m:o.guard=none)(T:TypeId)(x y:Operand)(e:o.op = .store T x y)(g:Nat){t:TypeId}{cs cs':Array Value}(i:a.eval x = .pointer (some ⟨g,0,none⟩))(f:a.eval y = .agg cs'){n:Nat}(k:RowTy P T n)(j:BlkIs w g t cs)(hn:cs.size=n)
  (hs:cs'.size=cs.size) (h1:∀v∈cs'.toList,v.oneCell'=true) (h:wpList P ops Q rest (a.put o.dst undef) (w.setRow g cs')):wpList P ops Q (o::rest) a w :=
 wpList_plain m λ_ c=>oper_storeW T x y e g i f k j hn hs h1 (c _ _ h)
end
theorem results_cellW {fn:Func}{P:Program}{a:Act}{w:World}{g:Nat}{T t:TypeId}{cs:Array Value}(k:Tmp)(h:fn.results=#[.cell k T])(i:a.eval (.tmp k) = .pointer (some ⟨g,0,none⟩)){n:Nat}(f:RowTy P T n)(c:BlkIs w g t cs)(hn:cs.size=n) :
  (results fn a.tmps).run P w = .ok (.agg cs) w:=by
 have e:a.tmps.getD k undef = .pointer (some ⟨g,0,none⟩):=i
 unfold results
 simp only[h]
 simp[-zS,e,asAddr,run_loadW (hn▸f) c]
theorem results_cellW_tmp {fn:Func}{P:Program}{a:Act}{w:World}{g:Nat}{T t:TypeId}{cs:Array Value}{v:Value}(k m:Tmp)(h:fn.results=#[.cell k T,.tmp m])(i:a.eval (.tmp k) = .pointer (some ⟨g,0,none⟩))(c:a.eval (.tmp m)=v){n:Nat}(q:RowTy P T n)(j:BlkIs w g t cs)(hn:cs.size=n) :
  (results fn a.tmps).run P w = .ok (.tuple #[.agg cs,v]) w:=by
 have e:a.tmps.getD k undef = .pointer (some ⟨g,0,none⟩):=i
 have f:a.tmps.getD m undef=v:=c
 unfold results
 simp only[h]
 simp[-zS,e,f,asAddr,run_loadW (hn▸q) j,Result.andThen]
theorem b8_one (l:List UInt8):∀v∈(l.map b8).toArray.toList,v.oneCell'=true:=by
 intro v c
 simp at c
 obtain⟨x,_,rfl⟩:=c
 rfl
theorem rowSector:RowTy Tryz.prog 307 64:=⟨⟨_,Tryz.underlying307,rfl⟩,by kernel_rfl⟩
theorem rowHead:RowTy Tryz.prog 185 4:=⟨⟨_,Tryz.underlying185,rfl⟩,by kernel_rfl⟩
structure InG (w:World)(B sz:Nat)(A:Option Addr)(n c:Nat)(cs:List Value):Prop where
 le:n<=c
 max:c<=9223372036854775807
 nil:A=none->c=0
 len:cs.length=n*sz
 one:∀v∈cs,v.oneCell'=true
 lies:0<n->∃g o,A=some ⟨g,o,none⟩/\g<B/\w.rangeAt g o cs
theorem InG.keep {w w':World}{B sz:Nat}{A:Option Addr}{n c:Nat}{cs:List Value}(h:InG w B sz A n c cs)(f:∀p:Addr,p.block<B->w'.cell? p=w.cell? p):InG w' B sz A n c cs :=
 ⟨h.le,h.max,h.nil,h.len,h.one,λhl=>by
  obtain⟨g,o,i,e,hc⟩:=h.lies hl
  exact⟨g,o,i,e,λj v k=>(f _ e).trans (hc j v k)⟩⟩
theorem InG.below {w w':World}{B sz:Nat}{A:Option Addr}{n c:Nat}{cs:List Value}(h:InG w B sz A n c cs)(f:Below B w w'):InG w' B sz A n c cs:=h.keep λ_ e=>f.cell e
theorem InG.more {w:World}{B e sz:Nat}{A:Option Addr}{n c:Nat}{cs:List Value}(h:InG w B sz A n c cs)(hB:B<=e):InG w e sz A n c cs :=
 ⟨h.le,h.max,h.nil,h.len,h.one,λhl=>by
  obtain⟨g,o,f,i,hc⟩:=h.lies hl
  exact⟨g,o,f,by omega,hc⟩⟩
theorem InG.grow {w w':World}{sz:Nat}{A:Option Addr}{n c:Nat}{cs:List Value}(h:InG w w.heap.size sz A n c cs)(e:Below w.heap.size w w'):InG w' w'.heap.size sz A n c cs:=(h.below e).more e.size
theorem InG.mt (w:World)(B sz:Nat):InG w B sz none 0 0 []:=⟨zH _,by omega,λ_=>rfl,by simp,(λv h=>by cases h),λh=>by omega⟩
theorem InG.elem {w:World}{B sz g o:Nat}{n c:Nat}{cs:List Value}(h:InG w B sz (some ⟨g,o,none⟩) n c cs)(j:Nat)(s:j<n):w.rangeAt g (o+j*sz) ((cs.drop (j*sz)).take sz):=by
 obtain⟨q,o',e,m,k⟩:=h.lies (by omega)
 injection e with e
 injection e with e1 e2
 subst e1 e2
 intro i v f
 rw[List.getElem?_take] at f
 split at f
 ·rw[List.getElem?_drop] at f
  rw[Nat.add_assoc]
  exact k _ v f
 ·cases f
theorem ownG_in {w:World}{base:Nat}{T:TypeId}{sz:Nat}{v:Value}{n:Nat}{cs:List Value}(h:w.ownsRow base T sz v n cs)(h1:∀v∈cs,v.oneCell'=true):∃A c,v = .slice A n c/\InG w w.heap.size sz A n c cs:=by
 rcases h.2 with⟨e1,e2⟩|⟨g,cap,cur,hv,hb,hg,hle,hm,hs,ht⟩
 ·subst e2
  exact⟨none,0,e1,zH _,by omega,λ_=>rfl,h.1,h1,λh=>by omega⟩
 ·refine⟨_,cap,hv,hle,by unfold maxLen at hm;omega,(λe=>by cases e),h.1,h1,λ_=>⟨g,0,rfl,(zI.1 hg).1,λj u f => ?_⟩⟩
  rw[qC,cell_of_row w g j cur _ (0,0) hg]
  rw[<-ht,List.getElem?_take] at f
  split at f
  ·simpa using f
  ·cases f
theorem ownG_ge {w:World}{base:Nat}{T:TypeId}{sz:Nat}{v:Value}{n:Nat}{cs:List Value}(h:w.ownsRow base T sz v n cs):∀r,v.ownBlock=some r->base<=r:=by
 intro r c
 rcases h.2 with⟨rfl,_⟩|⟨g,cap,cur,rfl,hb,_⟩
 ·cases c
 ·injection c with c
  subst c
  exact hb
theorem ownG_lt {w:World}{base:Nat}{T:TypeId}{sz:Nat}{v:Value}{n:Nat}{cs:List Value}(h:w.ownsRow base T sz v n cs):∀r,v.ownBlock=some r->r<w.heap.size:=by
 intro r c
 rcases h.2 with⟨rfl,_⟩|⟨g,cap,cur,rfl,hb,hg,_⟩
 ·cases c
 ·injection c with c
  subst c
  exact(zI.1 hg).1
theorem ownG_later {w w':World}{base:Nat}{T:TypeId}{sz:Nat}{v:Value}{n:Nat}{cs:List Value}(h:w.ownsRow base T sz v n cs)(hB:∀r,v.ownBlock=some r->w'.heap[r]? = w.heap[r]?):w'.ownsRow base T sz v n cs:=by
 refine⟨h.1,?_⟩
 rcases h.2 with h|⟨g,c,f,h1,h2,e,i⟩
 ·exact .inl h
 ·exact .inr ⟨g,c,f,h1,h2,(hB g (by rw[h1];rfl)).trans e,i⟩
theorem ownG_grow {w w':World}{base:Nat}{T:TypeId}{sz:Nat}{v:Value}{n:Nat}{cs:List Value}(h:w.ownsRow base T sz v n cs)(hB:Below w.heap.size w w'):w'.ownsRow base T sz v n cs :=
 ownG_later h λr c=>hB.block r (ownG_lt h r c)
theorem ownG_base {w:World}{b c:Nat}{T:TypeId}{sz:Nat}{v:Value}{n:Nat}{cs:List Value}(h:w.ownsRow b T sz v n cs)(j:c<=b):w.ownsRow c T sz v n cs:=by
 refine⟨h.1,?_⟩
 rcases h.2 with h|⟨g,e,i,h1,h2,f⟩
 ·exact .inl h
 ·exact .inr ⟨g,e,i,h1,by omega,f⟩
structure ElT (S T:TypeId)(sz by_:Nat)(z:Value):Prop where
 und:Tryz.prog.underlying S=some (.slice T)
 inf:(Tryz.prog.info? T).map (λi=>(i.zero,i.size,i.bytes))=some (some z,sz,by_)
 zs:z.cells.size=sz
 pos:0<sz
section
variable {w:World}{ops:Array Oper}{rest:List Oper}{o:Oper}{a:Act}{Q:Exit->Act->World->Prop}
theorem wp_appG (G:o.guard=none){S T:TypeId}{sz C:Nat}{z:Value}(i:ElT S T sz C z)(s x:Operand)(L:o.op = .call { callee:=.builtin .append,args:=#[s,x],argTypes:=#[S,S] })
  (base:Nat) (v:Value) (n:Nat) (cs:List Value) (hs:a.eval s=v) (k:w.ownsRow base T sz v n cs) (B:Nat) (A:Option Addr) (m c:Nat) (f:List Value) (M:a.eval x = .slice A m c) (e:InG w B sz A m c f)
  (U:n+m<=maxLen) (aE:(n+m)*C<=140737488355328) (aA:base<=w.heap.size)
  (h:∀v' w',w'.ownsRow base T sz v' (n+m) (cs++f)->w.grownBy w' v.ownBlock->wpList Tryz.prog ops Q rest (a.put o.dst v') w'):wpList Tryz.prog ops Q (o::rest) a w:=by
 obtain⟨I,N,X,O,aD⟩:=info_parts i.inf
 have aG:=e.le
 rcases A with _|q
 ·have aF:=e.nil rfl
  obtain rfl:m=0:=by omega
  obtain rfl:f=[]:=zZ (by rw[e.len];omega)
  subst aF
  refine wpList_append_own_none (w:=w) G s x _ L base _ I sz i.und N v n cs hs k M ?_
  exact h v w (by rw[List.append_nil];exact k) (World.grownBy.refl _ _)
 ·have aC:∀j u,f[j]? = some u->w.cell? (q.add j)=some u:=by
   intro j u hu
   have V:0<m:=by
    rcases Nat.eq_zero_or_pos m with F|F
    ·subst F
     have:=e.len
     obtain rfl:f=[]:=zZ (by omega)
     simp at hu
    ·exact F
   obtain⟨g,o',hA,_,hr⟩:=e.lies V
   obtain rfl:q=⟨g,o',none⟩:=by simpa using hA
   rw[Addr.add_mid]
   exact hr j u hu
  refine wpList_append_own w G s x _ L base _ I z sz C i.und N X O aD i.zs i.pos v n cs hs k q m c f M e.len aC e.one U aE aA ?_
  intro v' w' Z aB _
  exact h v' w' Z aB
theorem x_loadM {P:Program}{ρ:Operand->Value}{T:TypeId}{k g off:Nat}{cs:List Value}{x:Operand}(c:RowTy P T k)(i:w.rangeAt g off cs)(e:cs.length=k)(f:o.op = .load T x)(h:ρ x = .pointer (some ⟨g,off,none⟩)):(execOp ρ o).run P w = .ok (.value (.agg cs.toArray)) w:=by
 obtain⟨d,hu,hd⟩:=c.desc
 have:=run_loadVar_mid (P:=P) w g off T cs d i hu hd (by rw[c.size,e])
 simp only[execOp,f,h,Instr.loadAt,Instr.sureAddr,Sem.run_bind,Sem.run_pure,Result.andThen_ok,this]
end
theorem BlkIs.rangeOf {w:World}{g:Nat}{t:TypeId}{cs:Array Value}(h:BlkIs w g t cs)(k:Nat){n:Nat}:w.rangeAt g k ((cs.toList.drop k).take n):=λj v c=>by
 rw[List.getElem?_take] at c
 split at c
 ·rw[List.getElem?_drop] at c
  rw[h.cell]
  simpa using c
 ·cases c
theorem run_appG {w:World}(q:TypeId){S T:TypeId}{sz x:Nat}{z:Value}(i:ElT S T sz x z)(base:Nat)(v:Value)(n:Nat)(cs:List Value)(k:w.ownsRow base T sz v n cs)(B:Nat)(A:Option Addr)(m c:Nat)(f:List Value)(e:InG w B sz A m c f)
  (M:n+m<=maxLen) (aA:(n+m)*x<=140737488355328) (U:base<=w.heap.size) :
  ∃v' w',(Builtin.append_ #[S,S] q #[v,.slice A m c]).run Tryz.prog w = .ok v' w'/\w'.ownsRow base T sz v' (n+m) (cs++f)/\w.grownBy w' v.ownBlock:=by
 obtain⟨F,G,O,L,Z⟩:=info_parts i.inf
 have aC:=e.le
 rcases A with _|s
 ·have aB:=e.nil rfl
  obtain rfl:m=0:=by omega
  obtain rfl:f=[]:=zZ (by rw[e.len];omega)
  subst aB
  have h:=run_append_owned_none (P:=Tryz.prog) w base S q T F sz i.und G v n cs k
  exact⟨v,w,h,by rw[List.append_nil];exact k,World.grownBy.refl _ _⟩
 ·have X:∀j u,f[j]? = some u->w.cell? (s.add j)=some u:=by
   intro j u hu
   have N:0<m:=by
    rcases Nat.eq_zero_or_pos m with C|C
    ·subst C
     have:=e.len
     obtain rfl:f=[]:=zZ (by omega)
     simp at hu
    ·exact C
   obtain⟨g,o',V,_,h⟩:=e.lies N
   obtain rfl:s=⟨g,o',none⟩:=by simpa using V
   rw[Addr.add_mid]
   exact h j u hu
  obtain⟨v',w',h,h2,I,_,_⟩:=run_append_own_at (P:=Tryz.prog) w base S q T F z sz x i.und G O L Z i.zs i.pos v n cs k s m c f e.len X e.one M aA U
  exact⟨v',w',h,h2,I⟩
section
variable {w:World}{ops:Array Oper}{o:Oper}{a:Act}{Q:Exit->Act->World->Prop}{K:Act->World->Prop}{E:Prop}
theorem step_appG (M:o.guard=none){S T:TypeId}{sz f:Nat}{z:Value}(G:ElT S T sz f z)(s x:Operand)(k:o.op = .call { callee:=.builtin .append,args:=#[s,x],argTypes:=#[S,S] })
  (base:Nat) (v:Value) (n:Nat) (cs:List Value) (hs:a.eval s=v) (N:w.ownsRow base T sz v n cs) (B:Nat) (A:Option Addr) (m c:Nat) (e:List Value) (q:a.eval x = .slice A m c) (F:InG w B sz A m c e)
  (j:n+m<=maxLen) (I:(n+m)*f<=140737488355328) (C:base<=w.heap.size)
  (h:∀v' w',w'.ownsRow base T sz v' (n+m) (cs++e)->w.grownBy w' v.ownBlock->K (a.put o.dst v') w'):if Region.wanted o (yielded ops a.tmps)=true then Oper.wp Tryz.prog o a w K Q else E:=by
 have L:Region.wanted o (yielded ops a.tmps)=true:=by simp[Region.wanted,M]
 rw[if_pos L]
 obtain⟨v',w',u,h2,i⟩:=run_appG (w:=w) o.type G base v n cs N B A m c e F j I C
 unfold Oper.wp execOp
 simp only[k,resolve,invoke,builtin,Sem.run_bind,Sem.run_pure,Result.andThen_ok,zK,zL,zN,hs,q,u]
 exact h v' w' h2 i
end
def MapIs (w:World)(r:Nat)(es:Array MapEntry)(clock:Nat):Prop:=w.heap[r]? = some (.map es clock)
theorem MapIs.lt {w:World}{r:Nat}{es:Array MapEntry}{clock:Nat}(h:MapIs w r es clock):r<w.heap.size:=(zI.1 h).1
theorem MapIs.below {w w':World}{B r:Nat}{es:Array MapEntry}{clock:Nat}(h:MapIs w r es clock)(hB:Below B w w')(c:r<B):MapIs w' r es clock:=(hB.block r c).trans h
theorem MapIs.grown {w w':World}{r:Nat}{es:Array MapEntry}{clock:Nat}{row:Option Nat}(h:MapIs w r es clock)(c:w.grownBy w' row)(e:some r≠row):MapIs w' r es clock:=(c.block r h.lt e).trans h
def setMap (w:World)(r:Nat)(es:Array MapEntry)(clock:Nat):World:={ w with heap:=w.heap.setIfInBounds r (.map es clock) }
theorem MapIs.set {w:World}{r:Nat}{es:Array MapEntry}{clock:Nat}(h:MapIs w r es clock)(c:Array MapEntry)(clock':Nat):MapIs (setMap w r c clock') r c clock':=(MapKept.heap_set (o':=.map c clock') h).1
theorem setMap_grown {w:World}{r:Nat}{es:Array MapEntry}{clock:Nat}(h:MapIs w r es clock)(f:Array MapEntry)(c:Nat):w.grownBy (setMap w r f c) (some r) :=
 ⟨rfl,rfl,rfl,by simp[setMap],λk _ i=>(MapKept.heap_set (o':=.map f c) h).2 k (λe=>i (by rw[e]))⟩
theorem BlkIs.setMap {w:World}{g q:Nat}{t:TypeId}{cs:Array Value}{j:Array MapEntry}{m:Nat}(h:BlkIs w g t cs)(k:MapIs w q j m)(i:Array MapEntry)(c:Nat):BlkIs (setMap w q i c) g t cs:=by
 have n:g≠q:=by
  intro e
  subst e
  have f:w.heap[g]? = some (.cells cs t (0,0)):=h
  rw[show w.heap[g]? = some (.map j m) from k] at f
  cases f
 exact((MapKept.heap_set (o':=.map i c) k).2 g n).trans h
section
variable {P:Program}{w:World}{mty kt et:TypeId}{d:TypeDesc}{r clock:Nat}{es:Array MapEntry}{key val:Value}
theorem run_put_new (e:P.underlying mty=some (.map kt et))(hd:P.underlying kt=some d)(f:MapKept.IsKey d key)(c:MapIs w r es clock)(hf:Instr.findNow d key es.toList 0=some none) :
  (Instr.mapUpdate mty (.map (some r)) key val).run P w = .ok () (setMap w r (es.push { key:=key,val:=val,born:=clock }) (clock+1)):=by
 have hc:(Instr.checkKey false 10000 kt key).run P w = .ok () w:=MapKept.run_checkKey hd f false 9999
 simp[Instr.mapUpdate,run_underlying e,MapKept.run_getObj_map c,hc,MapKept.run_findKey hd hf,MapKept.run_setObj_map _ c,Result.andThen,setMap]
theorem run_get (e:P.underlying mty=some (.map kt et))(hd:P.underlying kt=some d)(f:MapKept.IsKey d key)(c:MapIs w r es clock){i:Nat}{v:Value}(hf:Instr.findNow d key es.toList 0=some (some (i,v))) :
  (Instr.lookup mty (.map (some r)) key false).run P w = .ok v w:=by
 have hc:(Instr.checkKey es.isEmpty 10000 kt key).run P w = .ok () w:=MapKept.run_checkKey hd f _ 9999
 simp[Instr.lookup,run_underlying e,MapKept.run_getObj_map c,hc,MapKept.run_findKey hd hf,Result.andThen]
end
section
variable {P:Program}{w:World}{ops:Array Oper}{rest:List Oper}{o:Oper}{a:Act}{Q:Exit->Act->World->Prop}{mty kt et:TypeId}{d:TypeDesc}{r clock:Nat}{es:Array MapEntry}{key val:Value}
theorem wp_makeMap (c:o.guard=none)(f:o.op = .makeMap mty none)(h:MapIs (w.alloc (.map #[] 0)) w.heap.size #[] 0->wpList P ops Q rest (a.put o.dst (.map (some w.heap.size))) (w.alloc (.map #[] 0))):wpList P ops Q (o::rest) a w :=
 wpList_plain c λ_ e=>by
  unfold Oper.wp execOp
  simp only[f,Option.map_none,run_makeMap,Sem.run_bind,Result.andThen_ok,Sem.run_pure]
  exact e _ _ (h (heap_alloc_new w _))
theorem wp_put_new (f:o.guard=none)(m x y:Operand)(c:o.op = .insert mty m x y∨o.op = .mapUpdate mty m x y)(n:P.underlying mty=some (.map kt et))(hd:P.underlying kt=some d)(s:MapKept.IsKey d key)(j:a.eval m = .map (some r))(q:a.eval x=key)(k:a.eval y=val)
  (e:MapIs w r es clock) (hf:Instr.findNow d key es.toList 0=some none)
  (h:∀w',MapIs w' r (es.push { key:=key,val:=val,born:=clock }) (clock+1)->w.grownBy w' (some r)->wpList P ops Q rest (a.put o.dst undef) w'):wpList P ops Q (o::rest) a w :=
 wpList_plain f λ_ i=>by
  unfold Oper.wp execOp
  rcases c with c|c<;>simp only[c,j,q,k,run_put_new n hd s e hf,Sem.run_bind,Result.andThen_ok,Sem.run_pure]<;>exact i _ _ (h _ (e.set _ _) (setMap_grown e _ _))
theorem BlkIs.grownMap {w w':World}{g r:Nat}{t:TypeId}{cs:Array Value}{es:Array MapEntry}{clock:Nat}(h:BlkIs w g t cs)(i:MapIs w r es clock)(f:w.grownBy w' (some r)):BlkIs w' g t cs:=by
 refine h.grown f (λe => ?_)
 injection e with e
 subst e
 have c:w.heap[g]? = some (.cells cs t (0,0)):=h
 rw[show w.heap[g]? = some (.map es clock) from i] at c
 cases c
end
def rdV (l:List UInt8):Value :=
 match rd l with
 | some (n,k) => .tuple #[.int .u64 (n:Int),.int .i64 (k:Int),.int .i64 0]
 | none => .tuple #[.int .u64 0,.int .i64 0,.int .i64 130]
theorem rdV_some {l:List UInt8}{n k:Nat}(h:rd l=some (n,k)):rdV l = .tuple #[.int .u64 (n:Int),.int .i64 (k:Int),.int .i64 0]:=by unfold rdV;rw[h]
theorem rdV_none {l:List UInt8}(h:rd l=none):rdV l = .tuple #[.int .u64 0,.int .i64 0,.int .i64 130]:=by unfold rdV;rw[h]
def RdAt (l:List UInt8)(acc k:Nat):Prop:=rdF (10 - k) k acc (l.drop k)=rd l/\acc<128 ^ k/\k<=10
theorem RdAt.start (l:List UInt8):RdAt l 0 0:=⟨rfl,by simp,by omega⟩
theorem RdAt.unfold {l:List UInt8}{c k:Nat}(h:RdAt l c k)(e:k<l.length)(f:k<10) :
  rd l=if k=9/\1<l[k].toNat then none else if 128<=l[k].toNat then rdF (10 - (k+1)) (k+1) (c+l[k].toNat % 128*128 ^ k) (l.drop (k+1))
   else if l[k].toNat=0/\0<k then none else some (c+l[k].toNat % 128*128 ^ k,k+1):=by
 rw[<-h.1,List.drop_eq_getElem_cons e,show 10 - k=(10 - (k+1))+1 from by omega]
 rfl
theorem RdAt.out {l:List UInt8}{e k:Nat}(h:RdAt l e k)(c:l.length<=k∨10<=k):rd l=none:=by
 rw[<-h.1]
 rcases c with c|c
 ·rw[List.drop_eq_nil_of_le c]
  cases 10 - k<;>rfl
 ·rw[show 10 - k=0 from by omega]
  rfl
theorem RdAt.next {l:List UInt8}{c k:Nat}(h:RdAt l c k)(e:k<l.length)(i:k<9)(hc:128<=l[k].toNat):RdAt l (c+l[k].toNat % 128*128 ^ k) (k+1):=by
 refine⟨?_,?_,by omega⟩
 ·rw[h.unfold e (by omega),if_neg (by omega),if_pos hc]
 ·have h1:l[k].toNat % 128<=127:=by omega
  have h2:l[k].toNat % 128*128 ^ k<=127*128 ^ k:=Nat.mul_le_mul_right _ h1
  have f:128 ^ (k+1)=128 ^ k*128:=Nat.pow_succ ..
  have:=h.2.1
  omega
theorem rd_or {f c k:Nat}(hc:c<256)(z:k<10)(q:k=9->c<=1)(ha:f<128 ^ k) :
  bits .or .u64 (f:Int) (IntKind.u64.wrap (IntKind.u64.wrap (bits .andNot .u8 (c:Int) 128)*2 ^ (7*k)))=((f+c % 128*128 ^ k:Nat):Int):=by
 have i:bits .andNot .u8 (c:Int) 128=((c % 128:Nat):Int):=by
  have:=u8_andNot_nat c 128 hc (by omega)
  have h2:(((128:Nat)):Int)=128:=rfl
  rw[h2] at this
  rw[this,show 255 - 128=2 ^ 7 - 1 from rfl,Nat.and_two_pow_sub_one_eq_mod]
 have e:(128:Nat) ^ k=2 ^ (7*k):=by rw[Nat.pow_mul]
 have h:128 ^ k<=128 ^ 9:=Nat.pow_le_pow_right (by omega) (by omega)
 have n:c % 128*128 ^ k<18446744073709551616:=by
  by_cases u:k=9
  ·have:c % 128*128 ^ k<=1*128 ^ 9:=by subst u;exact Nat.mul_le_mul_right _ (by have:=q rfl;omega)
   simp at this
   omega
  ·have x:128 ^ k<=128 ^ 8:=Nat.pow_le_pow_right (by omega) (by omega)
   have:c % 128*128 ^ k<=127*128 ^ 8:=Nat.mul_le_mul (by omega) x
   simp at this
   omega
 have s:IntKind.u64.wrap ((c % 128:Nat):Int)=((c % 128:Nat):Int):=by
  rw[IntKind.wrap_u64];omega
 have j:(((c % 128:Nat):Int))*2 ^ (7*k)=((c % 128*128 ^ k:Nat):Int):=by
  rw[e];push_cast;rfl
 have m:IntKind.u64.wrap ((c % 128*128 ^ k:Nat):Int)=((c % 128*128 ^ k:Nat):Int):=by
  rw[IntKind.wrap_u64];omega
 rw[i,s,j,m,u64_or_nat _ _ (by simp at h;omega) n]
 congr 1
 rw[Nat.or_comm,nat_join (7*k) _ _ (by rw[e];exact Nat.mul_mod_left _ _) (by rw[<-e];exact ha)]
 omega
def RdNone (l:List UInt8)(a:Act):Prop:=rd l=none/\∃u0 u1 u2 u3 u4 u5 u6 u7 u8 u9 u10 u11 u12 u13 u14 u15 u16 u17 u18 u19 u20 u21 u22 u23 u24 u25 u26 u27 u28 u29 u30 u31 u32 u33 u34 u35 u36 u37 u38 u39 u40 u41 u42 u43:Value,a = { tmps:=#[u0,u1,u2,u3,u4,u5,u6,u7,u8,u9,u10,u11,u12,u13,u14,u15,u16,u17,u18,u19,u20,u21,u22,u23,u24,u25,u26,u27,u28,u29,u30,u31,u32,u33,u34,u35,u36,u37,u38,u39,u40,u41,u42,u43],defers:=[] }
theorem readNumber_some (w:World)(g o c:Nat)(l:List UInt8)(hl:0<l.length)(hc:l.length<=c)(U:c<=9223372036854775807)(B:∀j (h:j<l.length),w.cell? ⟨g,o+j,none⟩=some (.int .u8 (l[j].toNat:Int))) :
  Calls Tryz.prog 285 #[.slice (some ⟨g,o,none⟩) l.length c] w λe w'=>e = .returned (rdV l)/\w=w':=by
 go_enter Tryz.func285,Tryz.ntmps285
 go_wp2_with fail
 refine wp_scope_jumps (rest:=?rest) 0 (λa w'=>RdNone l a/\w=w') (λ_ _=>0) ?hf ?first ?pass
 case hf=>exact rfl
 case pass =>
  rintro a w' ⟨⟨hn,u0,u1,u2,u3,u4,u5,u6,u7,u8,u9,u10,u11,u12,u13,u14,u15,u16,u17,u18,u19,u20,u21,u22,u23,u24,u25,u26,u27,u28,u29,u30,u31,u32,u33,u34,u35,u36,u37,u38,u39,u40,u41,u42,aA,rfl⟩,rfl⟩
  have L:=Lib.hid (rdV_none hn)
  clear hn
  go_wp2
  simp only[Exit.jump]
  go_wp2
  go_ret3
  exact⟨by rw[L.out];rfl,rfl⟩
 case first =>
  go_wp2_with fail
  all_goals
   go_loop [2,13] (λa i=>∃(s k:Nat),i = .int .i64 k/\k<=l.length/\k<=10/\a = .int .u64 s/\Hid (RdAt l s k)) (λ_ i=>l.length - (intOf i).toNat)
   case atStart=>exact⟨0,0,rfl,by omega,by omega,rfl,Lib.hid (RdAt.start l)⟩
   case round =>
    obtain⟨s,k,rfl,hk,aC,rfl,f⟩:=hrel
    by_cases S:k<l.length/\k<10
    ·obtain⟨h1,h2⟩:=S
     have aB:=B k h1
     clear B
     have I:=(l[k]).toNat_lt
     have hu:=Lib.hid (f.out.unfold h1 h2)
     by_cases m:k=9/\1<l[k].toNat
     ·have hn:Hid (rd l=none):=by have:=hu.out;rw[if_pos m] at this;exact Lib.hid this
      clear hu f
      obtain⟨n,m⟩:=m
      subst n
      go_wp2_with fail
      go_step3
      exact⟨rfl,⟨hn.out,by repeat (first|exact rfl|apply Exists.intro)⟩,rfl⟩
     ·by_cases hB:128<=l[k].toNat
      ·have O:=Lib.hid (f.out.next h1 (by omega) hB)
       have T:=rd_or I h2 (by omega) f.out.2.1
       clear hu f
       have n:¬ (k:Int)=9:=by omega
       clear m
       go_wp2_with fail
       refine⟨⟨_,k+1,by go_num,by omega,by omega,rfl,O⟩,by simp[intOf];omega⟩
      ·by_cases u:l[k].toNat=0/\0<k
       ·have hn:Hid (rd l=none):=by have:=hu.out;rw[if_neg m,if_neg hB,if_pos u] at this;exact Lib.hid this
        clear hu f
        obtain⟨F,M⟩:=u
        have n:(k:Int)<9∨(k:Int)=9:=by omega
        clear m
        rcases n with n|n
        ·go_wp2_with fail
         go_step3
         exact⟨rfl,⟨hn.out,by repeat (first|exact rfl|apply Exists.intro)⟩,rfl⟩
        ·obtain rfl:k=9:=by omega
         go_wp2_with fail
         go_step3
         exact⟨rfl,⟨hn.out,by repeat (first|exact rfl|apply Exists.intro)⟩,rfl⟩
       ·have hn:Hid (rd l=some (s+l[k].toNat % 128*128 ^ k,k+1)):=by have:=hu.out;rw[if_neg m,if_neg hB,if_neg u] at this;exact Lib.hid this
        have T:=rd_or I h2 (by omega) f.out.2.1
        have A:k=9->l[k].toNat<=1:=by omega
        clear hu f
        have C:=Lib.hid (rdV_some hn.out)
        clear hn
        have G:∀x:Value,x=rdV l->Ending.returned x=Ending.returned (rdV l):=λx N=>by rw[N]
        have z:=Lib.hid G
        have q:l[k].toNat<1->k<=0:=by omega
        clear G m u
        by_cases n:k<9
        ·clear A
         by_cases F:l[k].toNat<1
         ·have M:k<=0:=q F
          have Z:((l[k].toNat:Int) == 0)=true:=by rw[beq_iff_eq];omega
          clear q F
          go_wp2_with fail
          all_goals
           simp only[Exit.jump]
           go_wp2
           go_ret3
           exact⟨z.out _ (by rw[C.out];rfl),rfl⟩
         ·clear q
          go_wp2_with fail
          all_goals
           simp only[Exit.jump]
           go_wp2
           go_ret3
           exact⟨z.out _ (by rw[C.out];rfl),rfl⟩
        ·have aD:l[k].toNat<=1:=A (by omega)
         have V:1<=l[k].toNat:=by
          rcases Nat.lt_or_ge l[k].toNat 1 with h|h
          ·have:=q h;omega
          ·exact h
         have X:((k:Int) == 9)=true:=by rw[beq_iff_eq];omega
         clear q A
         go_wp2_with fail
         all_goals
          simp only[Exit.jump]
          go_wp2
          go_ret3
          exact⟨z.out _ (by rw[C.out];rfl),rfl⟩
    ·have hn:=Lib.hid (rdV_none (f.out.out (by omega)))
     clear B f
     go_wp2_with fail
     go_step3
     go_wp2_with fail
     simp only[Exit.jump]
     go_wp2
     go_ret3
     exact⟨by rw[hn.out];rfl,rfl⟩
theorem readNumber_empty (w:World)(A:Option Addr)(c:Nat) :
  Calls Tryz.prog 285 #[.slice A 0 c] w λe w'=>e = .returned (rdV [])/\w=w':=by
 go_enter Tryz.func285,Tryz.ntmps285
 go_wp2_with fail
 refine wp_scope_straight ?_
 go_wp2_with fail
 refine wp_loop_rounds 1 ?_
 rw[rounds_succ]
 go_wp2_with fail
 go_step3
 go_wp2_with fail
 rw[Exit.noGoto_ret]
 go_wp2
 go_ret3
 exact⟨rfl,rfl⟩
theorem readNumber_gives (w:World)(B:Nat)(A:Option Addr)(c:Nat)(l:List UInt8)(h:InB w B A c l) :
  Calls Tryz.prog 285 #[.slice A l.length c] w λe w'=>e = .returned (rdV l)/\w=w':=by
 rcases Nat.eq_zero_or_pos l.length with f|f
 ·obtain rfl:=zZ f
  exact readNumber_empty w A c
 ·obtain⟨g,o,rfl,_,hc⟩:=h.lies f
  exact readNumber_some w g o c l f h.le h.max hc

theorem has_gives (w:World)(g o:Nat)(A:Option Addr)(len c n:Nat)(f:len<=9223372036854775807)(hc:w.cell? ⟨g,o,none⟩=some (.slice A len c)) :
  Calls Tryz.prog 215 #[.pointer (some ⟨g,o,none⟩),.int .u64 n] w λe w'=>e = .returned (.bool (decide (n<=len)))/\w=w':=by
 go_enter Tryz.func215,Tryz.ntmps215
 go_wp2
 go_ret
 exact⟨rfl,rfl⟩
theorem take_gives (w:World)(g o:Nat)(A:Option Addr)(len c n:Nat)(h:len<=c)(i:c<=9223372036854775807)(hn:n<=len)(hc:w.cell? ⟨g,o,none⟩=some (.slice A len c))(hf:w.frozen? ⟨g,o,none⟩=false) :
  Calls Tryz.prog 216 #[.pointer (some ⟨g,o,none⟩),.int .i64 n] w λe w'=>e = .returned (.slice A n n)/\w.setCell ⟨g,o,none⟩ (.slice (cutA A c n) (len - n) (c - n))=w':=by
 by_cases f:c=n
 ·obtain rfl:len=c:=by omega
  subst f
  go_enter Tryz.func216,Tryz.ntmps216
  go_wp2
  go_ret
  refine⟨rfl,?_⟩
  simp[cutA]
 ·go_enter Tryz.func216,Tryz.ntmps216
  go_wp2
  go_ret
  refine⟨rfl,?_⟩
  simp[cutA,f]
theorem rfix_snoc (l:List UInt8)(c:UInt8):rfix (l++[c])=256*rfix l+c.toNat:=by simp[rfix]
theorem rfix_take_succ {l:List UInt8}{k:Nat}(c:k<l.length):rfix (l.take (k+1))=256*rfix (l.take k)+l[k].toNat:=by
 rw[zW c,rfix_snoc]
theorem rfix_take_lt {l:List UInt8}{k m:Nat}(f:k<=m)(e:m<=8):rfix (l.take k)<18446744073709551616:=by
 have h1:=rfix_lt (l.take k)
 have h2:256 ^ (l.take k).length<=256 ^ 8:=Nat.pow_le_pow_right (by omega) (by simp;omega)
 have c:(256:Nat) ^ 8=18446744073709551616:=by decide
 omega
theorem rfix_mul {l:List UInt8}{k m:Nat}(f:k<m)(e:m<=8):IntKind.u64.wrap (256*(rfix (l.take k):Int))=256*(rfix (l.take k):Int):=by
 have h1:=rfix_lt (l.take k)
 have h2:256 ^ (l.take k).length<=256 ^ 7:=Nat.pow_le_pow_right (by omega) (by simp;omega)
 have c:(256:Nat) ^ 7=72057594037927936:=by decide
 rw[IntKind.wrap_u64]
 omega
theorem rfix_or {l:List UInt8}{k m:Nat}(hl:k<l.length)(e:k<m)(c:m<=8):bits .or .u64 (IntKind.u64.wrap ((rfix (l.take k):Int)*256)) (l[k].toNat:Int)=(rfix (l.take (k+1)):Int):=by
 have f:=rfix_mul (l:=l) e c
 rw[Int.mul_comm,f]
 have hc:=l[k].toNat_lt
 have h1:=rfix_take_lt (l:=l) (show k+1<=m from e) c
 rw[rfix_take_succ hl] at h1
 have h2:=u64_or_nat (256*rfix (l.take k)) l[k].toNat (by omega) (by omega)
 rw[show 256*(rfix (l.take k):Int)=((256*rfix (l.take k):Nat):Int) from by omega,h2,rfix_take_succ hl]
 congr 1
 exact nat_join 8 _ _ (by omega) (by omega)
def fixV (m:Nat)(l:List UInt8):Value:=if l.length<m then .tuple #[.int .u64 0,.int .i64 130] else .tuple #[.int .u64 (rfix (l.take m):Int),.int .i64 0]
theorem rnumber_gives (w:World)(g B:Nat)(A:Option Addr)(c:Nat)(l:List UInt8)(m:Nat)(j:m<=8)(hB:B<=g)(h:InB w B A c l)(hc:w.cell? ⟨g,0,none⟩=some (.slice A l.length c))(hf:w.frozen? ⟨g,0,none⟩=false) :
  Calls Tryz.prog 145 #[.pointer (some ⟨g,0,none⟩),.int .i64 m] w λe w'=>e = .returned (fixV m l)/\Below g w w':=by
 have C:=h.le
 have I:=h.max
 unfold fixV
 by_cases hs:l.length<m
 ·rw[if_pos hs]
  have hd:decide (m<=l.length)=false:=by simp;omega
  go_enter Tryz.func145,Tryz.ntmps145
  go_wp2_with (first|(go_at_call 215;refine(has_gives _ g 0 A l.length c m (by omega) hc).mono ?_;rintro e w' ⟨rfl,rfl⟩))
  go_ret2
  exact⟨rfl,Below.refl _ _⟩
 ·rw[if_neg hs]
  have hd:decide (m<=l.length)=true:=by simp;omega
  have x:InB (w.setCell ⟨g,0,none⟩ (.slice (cutA A c m) (l.length - m) (c - m))) B A c l:=h.keep λp n=>World.cell?_setCell_other w _ p _ (λe=>by subst e;simp at n;omega)
  go_enter Tryz.func145,Tryz.ntmps145
  go_wp2_with (first|(go_at_call 215;refine(has_gives _ g 0 A l.length c m (by omega) hc).mono ?_;rintro e w' ⟨rfl,rfl⟩)|(go_at_call 216;refine(take_gives _ g 0 A l.length c m (by omega) (by omega) (by omega) hc hf).mono ?_;rintro e w' ⟨rfl,rfl⟩))
  clear hc
  have q:Below g w (w.setCell ⟨g,0,none⟩ (.slice (cutA A c m) (l.length - m) (c - m))):=(Below.refl g w).setCell (p:=⟨g,0,none⟩) (zH g) _
  generalize w.setCell ⟨g,0,none⟩ (.slice (cutA A c m) (l.length - m) (c - m))=W at *
  go_loop [4,21] (λs i=>∃k:Nat,k<=m/\i = .int .i64 k/\s = .int .u64 (rfix (l.take k):Int)) (λ_ i=>m - (intOf i).toNat)
  case atStart=>exact⟨0,by omega,rfl,rfl⟩
  case round =>
   obtain⟨k,G,rfl,rfl⟩:=hrel
   by_cases u:k<m
   ·have f:k<l.length:=by omega
    obtain⟨z,o,rfl,_,hc⟩:=x.lies (by omega)
    have L:=hc k f
    clear hc
    have F:=(l[k]).toNat_lt
    have h1:=rfix_or f u j
    go_wp2_with fail
    refine⟨⟨k+1,by omega,by go_num,rfl⟩,by simp[intOf];omega⟩
   ·obtain rfl:k=m:=by omega
    go_wp2_with fail
    go_ret2
    exact⟨rfl,q⟩
def fixV32 (l:List UInt8):Value:=if l.length<4 then .tuple #[.int .u32 0,.int .i64 130] else .tuple #[.int .u32 (rfix (l.take 4):Int),.int .i64 0]
theorem fixV_lt {m:Nat}{l:List UInt8}(h:l.length<m):fixV m l = .tuple #[.int .u64 0,.int .i64 130]:=by unfold fixV;rw[if_pos h]
theorem fixV_ge {m:Nat}{l:List UInt8}(h:¬ l.length<m):fixV m l = .tuple #[.int .u64 (rfix (l.take m):Int),.int .i64 0]:=by unfold fixV;rw[if_neg h]
theorem fixV32_lt {l:List UInt8}(h:l.length<4):fixV32 l = .tuple #[.int .u32 0,.int .i64 130]:=by unfold fixV32;rw[if_pos h]
theorem fixV32_ge {l:List UInt8}(h:¬ l.length<4):fixV32 l = .tuple #[.int .u32 (rfix (l.take 4):Int),.int .i64 0]:=by unfold fixV32;rw[if_neg h]
theorem readEight_gives (w:World)(A:Option Addr)(c:Nat)(l:List UInt8)(h:InB w w.heap.size A c l) :
  Calls Tryz.prog 225 #[.slice A l.length c] w λe w'=>e = .returned (fixV 8 l)/\Below w.heap.size w w':=by
 have f:Below w.heap.size w (w.alloc (Obj.cells #[Value.slice A l.length c] 225)):=(Below.refl _ _).alloc (zH _) _
 have H:=rnumber_gives (w.alloc (Obj.cells #[Value.slice A l.length c] 225)) w.heap.size w.heap.size A c l 8 (by omega) (zH _) (h.below f) (new_cell _ _ _) (new_free _ _ _ _)
 by_cases hs:l.length<8
 ·rw[fixV_lt hs] at H ⊢
  go_enter Tryz.func225,Tryz.ntmps225
  go_wp2_with (go_at_call 145;refine H.mono ?_;rintro e w' ⟨rfl,i⟩)
  go_ret2
  exact⟨rfl,f.trans i⟩
 ·rw[fixV_ge hs] at H ⊢
  go_enter Tryz.func225,Tryz.ntmps225
  go_wp2_with (go_at_call 145;refine H.mono ?_;rintro e w' ⟨rfl,i⟩)
  go_ret2
  exact⟨rfl,f.trans i⟩
theorem readFour_gives (w:World)(A:Option Addr)(c:Nat)(l:List UInt8)(h:InB w w.heap.size A c l) :
  Calls Tryz.prog 88 #[.slice A l.length c] w λe w'=>e = .returned (fixV32 l)/\Below w.heap.size w w':=by
 have f:Below w.heap.size w (w.alloc (Obj.cells #[Value.slice A l.length c] 225)):=(Below.refl _ _).alloc (zH _) _
 have H:=rnumber_gives (w.alloc (Obj.cells #[Value.slice A l.length c] 225)) w.heap.size w.heap.size A c l 4 (by omega) (zH _) (h.below f) (new_cell _ _ _) (new_free _ _ _ _)
 by_cases hs:l.length<4
 ·rw[fixV_lt hs] at H
  rw[fixV32_lt hs]
  go_enter Tryz.func88,Tryz.ntmps88
  go_wp2_with (go_at_call 145;refine H.mono ?_;rintro e w' ⟨rfl,i⟩)
  go_ret2
  exact⟨rfl,f.trans i⟩
 ·rw[fixV_ge hs] at H
  rw[fixV32_ge hs]
  have k:rfix (l.take 4)<4294967296:=by
   have h1:=rfix_lt (l.take 4)
   have h2:256 ^ (l.take 4).length<=256 ^ 4:=Nat.pow_le_pow_right (by omega) (by simp;omega)
   have j:(256:Nat) ^ 4=4294967296:=by decide
   omega
  go_enter Tryz.func88,Tryz.ntmps88
  go_wp2_with (go_at_call 145;refine H.mono ?_;rintro e w' ⟨rfl,i⟩)
  go_ret2
  exact⟨rfl,f.trans i⟩
def strL (l:List UInt8):List UInt8:=num l.length++l
theorem OwnB.below {w0 w w':World}{v:Value}{l:List UInt8}(h:OwnB w w0.heap.size v l)(c:Below w0.heap.size w0 w)(e:w.grownBy w' v.ownBlock):Below w0.heap.size w0 w' :=
 c.grown e c.size (λk f=>(World.ownsRow.lt h k f).1)
theorem string_gives (l:List UInt8)(hl:l.length<=1000000000)(w:World):Calls Tryz.prog 270 #[.string (str l)] w (GivesB w (strL l)):=by
 have i:=str_size l
 have hn:=num_length l.length
 go_enter Tryz.func270,Tryz.ntmps270
 go_wp2_with fail
 refine(number_gives l.length (by omega) _).mono ?_
 rintro e j ⟨v,rfl,c,hB⟩
 go_wp2_with (at_builtin;refine wp_appS rfl _ _ rfl w.heap.size v (num l.length) rfl c (str l) rfl (by omega) hB.size ?_;intro v' w' h f)
 go_ret
 exact⟨v',rfl,h,c.below hB f⟩
def rdS (l:List UInt8):Option (List UInt8×Nat) :=
 match rd l with
 | some (n,k)=>if n<=l.length - k then some ((l.drop k).take n,k+n) else none
 | none=>none
def rdSV (l:List UInt8):Value :=
 match rdS l with
 | some (s,k) => .tuple #[.string (str s),.int .i64 (k:Int),.int .i64 0]
 | none => .tuple #[.string (str []),.int .i64 0,.int .i64 130]
theorem rdSV_a {l:List UInt8}(h:rd l=none):rdSV l = .tuple #[.string (str []),.int .i64 0,.int .i64 130]:=by unfold rdSV rdS;rw[h]
theorem rdSV_b {l:List UInt8}{n k:Nat}(h:rd l=some (n,k))(hn:¬ n<=l.length - k):rdSV l = .tuple #[.string (str []),.int .i64 0,.int .i64 130]:=by unfold rdSV rdS;rw[h];simp only[if_neg hn]
theorem rdSV_c {l:List UInt8}{n k:Nat}(h:rd l=some (n,k))(hn:n<=l.length - k):rdSV l = .tuple #[.string (str ((l.drop k).take n)),.int .i64 ((k:Int)+(n:Int)),.int .i64 0]:=by unfold rdSV rdS;rw[h];simp only[if_pos hn];rfl
theorem readString_gives (w:World)(A:Option Addr)(c:Nat)(l:List UInt8)(h:InB w w.heap.size A c l) :
  Calls Tryz.prog 287 #[.slice A l.length c] w λe w'=>e = .returned (rdSV l)/\Below w.heap.size w w':=by
 have G:=h.le
 have I:=h.max
 have H:=readNumber_gives w _ A c l h
 have j:∀u,Below w.heap.size w (w.alloc (Obj.cells #[u] 225)):=λu=>(Below.refl _ _).alloc (zH _) _
 rcases f:rd l with _|⟨n,k⟩
 ·rw[rdV_none f] at H
  have i:=Lib.hid (rdSV_a f)
  clear f
  go_enter Tryz.func287,Tryz.ntmps287
  go_wp2_with (first|(go_at_call 285;refine H.mono ?_;clear H;rintro e w' ⟨rfl,rfl⟩))
  go_ret3
  exact⟨by rw[i.out];rfl,j _⟩
 ·rw[rdV_some f] at H
  obtain⟨s,F,B⟩:=rd_bound f
  have hcut:(if c=k then A else Option.map (λx=>x.add k) A)=cutA A c k:=rfl
  have m:InB w w.heap.size (cutA A c k) (c - k) (l.drop k):=h.drop k B
  have z:(l.drop k).length=l.length - k:=by simp
  have M:=Lib.hid s
  clear s
  by_cases hs:n<=l.length - k
  ·have i:=Lib.hid (rdSV_c f hs)
   have hd:decide (n<=l.length - k)=true:=by simp[hs]
   have q:=m.take n n (by omega) (zH _) (by omega)
   have L:∀W,Below w.heap.size w W->(convert 87 9 (.slice (cutA A c k) n n)).run Tryz.prog W = .ok (.string (str ((l.drop k).take n))) W:=by
    intro W C
    have:=(q.below C).string
    rwa [qG,z,Nat.min_eq_left hs] at this
   clear f m q
   go_enter Tryz.func287,Tryz.ntmps287
   go_wp2_with (first
    | (go_at_call 285;refine H.mono ?_;clear H;rintro e w' ⟨rfl,rfl⟩)
    | (go_at_call 215;refine(has_gives _ w.heap.size 0 (cutA A c k) (l.length - k) (c - k) n (by omega) (new_cell _ _ _)).mono ?_;rintro e w' ⟨rfl,rfl⟩)
    | (go_at_call 216;refine(take_gives _ w.heap.size 0 (cutA A c k) (l.length - k) (c - k) n (by omega) (by omega) (by omega) (new_cell _ _ _) (new_free _ _ _ _)).mono ?_;rintro e w' ⟨rfl,rfl⟩))
   go_ret3
   exact⟨by rw[i.out];rfl,by first|exact j _|exact(j _).setCell (p:=⟨w.heap.size,0,none⟩) (zH _) _⟩
  ·have i:=Lib.hid (rdSV_b f hs)
   have hd:decide (n<=l.length - k)=false:=by simp;omega
   clear f m
   go_enter Tryz.func287,Tryz.ntmps287
   go_wp2_with (first
    | (go_at_call 285;refine H.mono ?_;clear H;rintro e w' ⟨rfl,rfl⟩)
    | (go_at_call 215;refine(has_gives _ w.heap.size 0 (cutA A c k) (l.length - k) (c - k) n (by omega) (new_cell _ _ _)).mono ?_;rintro e w' ⟨rfl,rfl⟩))
   go_ret3
   exact⟨by rw[i.out];rfl,j _⟩
structure InN (w:World)(A:Option Addr)(xs:List Int):Prop where
 lies:0<xs.length->∃g o,A=some ⟨g,o,none⟩/\∀j (h:j<xs.length),w.cell? ⟨g,o+j,none⟩=some (.int .i64 xs[j])
theorem wrap_i64_fr (n:Int)(h0 : -9223372036854775808<=n)(h1:n<9223372036854775808):IntKind.i64.wrap n=n:=by
 simp[IntKind.wrap,IntKind.bits,IntKind.signed]
 split<;>omega
theorem indexFunc_gives (w:World)(A:Option Addr)(c:Nat)(xs:List Int)(h:InN w A xs)(F:xs.length<=9223372036854775807)(p:Int->Bool)(f:FuncId)(lb:Array Value)(G:∀args w,(callFunc f args).run Tryz.prog w = .ok (.enter f args) w)
  (hf:∀x,Calls Tryz.prog f (#[.int .i64 x] ++ lb) w λe w'=>e = .returned (.bool (p x))/\w=w') :
  Calls Tryz.prog 194 #[.slice A xs.length c,.func (.func f) #[] lb] w λe w'=>(∃k:Int,e = .returned (.int .i64 k)/\decide (0<=k)=xs.any p)/\w=w':=by
 go_enter Tryz.func194,Tryz.ntmps194
 go_wp2_with fail
 go_loop [8] (λi=>∃k:Nat,k<=xs.length/\i = .int .i64 k/\Hid ((xs.take k).any p=false)) (λi=>xs.length - (intOf i).toNat)
 case atStart=>exact⟨0,Nat.zero_le _,rfl,Lib.hid (by simp)⟩
 case round =>
  obtain⟨k,C,rfl,m⟩:=hrel
  by_cases n:k<xs.length
  ·obtain⟨g,o,rfl,hc⟩:=h.lies (by omega)
   have I:=hc k n
   have H:=hf xs[k]
   clear hc hf
   have B:IntKind.i64.wrap ((k:Int)+1)=(k:Int)+1:=wrap_i64_fr _ (by omega) (by omega)
   have q:p xs[k]=false->(xs.take (k+1)).any p=false:=by
    intro j
    rw[zW n,List.any_append,m.out]
    simp[j]
   have s:p xs[k]=true->xs.any p=true:=λj=>List.any_eq_true.2 ⟨xs[k],qF n,j⟩
   cases j:p xs[k] with
   | true =>
    have u:=s j
    rw[j] at H
    go_wp2_with fail
    refine H.mono ?_
    clear H
    rintro e w' ⟨rfl,rfl⟩
    go_wp2
    go_ret
    exact⟨⟨(k:Int),rfl,by rw[u];simp⟩,rfl⟩
   | false =>
    have hn:=Lib.hid (q j)
    rw[j] at H
    clear q s
    go_wp2_with fail
    refine H.mono ?_
    clear H
    rintro e w' ⟨rfl,rfl⟩
    go_wp2
    refine⟨⟨k+1,by omega,by go_num,hn⟩,by simp[intOf];omega⟩
  ·obtain rfl:k=xs.length:=by omega
   have hn:=m.out
   rw[List.take_length] at hn
   have z:=Lib.hid hn
   clear hn m hf
   go_wp2
   go_ret
   exact⟨⟨-1,rfl,by rw[z.out];simp⟩,rfl⟩
theorem within1_gives (w:World)(a b:Addr)(c f x:Int)(ha:w.cell? a=some (.int .i64 c))(h:w.cell? b=some (.int .i64 f)) :
  Calls Tryz.prog 320 (#[.int .i64 x] ++ #[.pointer (some a),.pointer (some b)]) w λe w'=>e = .returned (.bool (decide (x<c) || decide (f<x)))/\w=w':=by
 by_cases h1:x<c
 ·go_enter Tryz.func320,Tryz.ntmps320
  go_wp2
  go_ret
  exact⟨by simp[h1],rfl⟩
 ·go_enter Tryz.func320,Tryz.ntmps320
  go_wp2
  go_ret
  have h2:decide (x<c)=false:=decide_eq_false (by omega)
  exact⟨by rw[h2,Bool.false_or];rfl,rfl⟩
def isIn (lo hi:Int)(xs:List Int):Bool:=!xs.any (λx=>decide (x<lo) || decide (hi<x))
theorem isIn_one (c e x:Int):isIn c e [x]=decide (c<=x/\x<=e):=by
 simp only[isIn,List.any_cons,List.any_nil,Bool.or_false]
 by_cases h1:x<c<;>by_cases h2:e<x<;>simp[h1,h2]<;>omega
theorem isIn_two (c e x y:Int):isIn c e [x,y]=(isIn c e [x] && isIn c e [y]):=by
 simp[isIn,Bool.not_or]
theorem within_gives (w:World)(A:Option Addr)(c:Nat)(xs:List Int)(h:InN w A xs)(z:∀g o,A=some ⟨g,o,none⟩->g<w.heap.size)(s:xs.length<=9223372036854775807)(f i:Int) :
  Calls Tryz.prog 289 #[.int .i64 f,.int .i64 i,.slice A xs.length c] w λe w'=>e = .returned (.bool (isIn f i xs))/\Below w.heap.size w w':=by
 have n:Below w.heap.size w ((w.alloc (.cells #[.int .i64 f] 3)).alloc (.cells #[.int .i64 i] 3)):=((Below.refl _ _).alloc (zH _) _).alloc (by simp) _
 have b0:=(BlkIs.new w 3 #[.int .i64 f]).alloc (.cells #[.int .i64 i] 3)
 have b1:=BlkIs.new (w.alloc (.cells #[.int .i64 f] 3)) 3 #[.int .i64 i]
 rw[World.size_alloc] at b1
 have B:InN ((w.alloc (.cells #[.int .i64 f] 3)).alloc (.cells #[.int .i64 i] 3)) A xs:=⟨λhl=>by
  obtain⟨g,o,e,hc⟩:=h.lies hl
  exact⟨g,o,e,λj C=>(n.cell (p:=⟨g,o+j,none⟩) (z g o e)).trans (hc j C)⟩⟩
 have H:=indexFunc_gives _ A c xs B s (λx=>decide (x<f) || decide (i<x)) 320 #[.pointer (some ⟨w.heap.size,0,none⟩),.pointer (some ⟨w.heap.size+1,0,none⟩)] (enters_of Tryz.func320 (by kernel_rfl) rfl)
  (λx=>within1_gives _ _ _ f i x b0.boxed b1.boxed)
 have u:Calls Tryz.prog 122 #[.slice A xs.length c,.func (.func 320) #[] #[.pointer (some ⟨w.heap.size,0,none⟩),.pointer (some ⟨w.heap.size+1,0,none⟩)]] ((w.alloc (.cells #[.int .i64 f] 3)).alloc (.cells #[.int .i64 i] 3))
   λe w'=>e = .returned (.bool (xs.any (λx=>decide (x<f) || decide (i<x))))/\((w.alloc (.cells #[.int .i64 f] 3)).alloc (.cells #[.int .i64 i] 3))=w':=by
  go_enter Tryz.func122,Tryz.ntmps122
  go_wp2_with fail
  refine H.mono ?_
  rintro e w' ⟨⟨k,rfl,m⟩,rfl⟩
  have q:=Lib.hid m
  clear m
  go_wp2
  go_ret
  exact⟨congrArg (λb=>Ending.returned (.bool b)) q.out,rfl⟩
 clear H
 go_enter Tryz.func289,Tryz.ntmps289
 go_wp2_with fail
 refine u.mono ?_
 rintro e w' ⟨rfl,rfl⟩
 go_wp2
 go_ret
 exact⟨rfl,n⟩
theorem grow_gives (n:Nat)(hn:n<=140737488355328)(w:World):Calls Tryz.prog 212 #[.slice none 0 0,.int .i64 n] w (GivesB w []):=by
 obtain⟨i,u,j,z,q⟩:=info_parts inf_u8
 have x:IntKind.i64.wrap ((n:Int) - 0)=(n:Int):=by rw[wrap_i64_fr _ (by omega) (by omega)];omega
 have A:IntKind.i64.wrap (n:Int)=(n:Int):=wrap_i64_fr _ (by omega) (by omega)
 by_cases s:0<n
 ·have k:=Lib.run_append_nil_zeros (P:=Tryz.prog) w 87 3 87 5 i (.int .u8 0) .i64 .i64 Tryz.underlying87 Tryz.underlying3 u j n s (by omega) (by omega) (by rw[q];omega)
  have e:=grownCap_le_maxLen w n 0 5 (by unfold maxLen;omega)
  have B:grownCap w n 0 5<=9223372036854775807:=by unfold maxLen at e;omega
  have C:=grownCap_ge w n 0 5
  go_enter Tryz.func212,Tryz.ntmps212
  generalize grownCap w n 0 5=f at *
  generalize h:Builtin.zeroCells (Value.int .u8 0).cells n++Builtin.zeroCells (Value.int .u8 0).cells (f - n)=c at *
  go_wp2_with (at_builtin;refine Lib.wpList_append_run _ rfl (.tmp 20) (.tmp 21) _ _ rfl _ _ rfl rfl _ _ k ?_)
  go_ret
  have m:Below w.heap.size w (w.drew.alloc (.cells c 5)):=((Below.refl _ w).drew).alloc (zH _) _
  refine⟨_,rfl,⟨by simp,.inr ⟨w.heap.size,f,c,rfl,zH _,heap_alloc_new w.drew _,Nat.zero_le _,e,?_,by simp⟩⟩,m⟩
  rw[<-h,Array.size_append,size_zeroCells,size_zeroCells]
  simp[Value.cells]
  omega
 ·obtain rfl:n=0:=by omega
  go_enter Tryz.func212,Tryz.ntmps212
  go_wp2
  go_ret
  exact⟨_,rfl,OwnB.nil _ _,Below.refl _ _⟩
theorem take_flat (c:List (List UInt8))(k:Nat)(h:k<c.length):(c.take (k+1)).flatten=(c.take k).flatten++c[k]:=by
 rw[zW h,List.flatten_append]
 simp
theorem flat_le (c:List (List UInt8))(k:Nat):(c.take k).flatten.length<=c.flatten.length:=by
 have:c.flatten=(c.take k).flatten++(c.drop k).flatten:=by rw[<-List.flatten_append,List.take_append_drop]
 rw[this,zJ]
 omega
theorem concat_gives (w:World)(A:Option Addr)(c:Nat)(zs:List (Piece w w.heap.size))(u:InLL w w.heap.size A c zs)(aC:(zs.map Piece.l).flatten.length<=1000000000) :
  Calls Tryz.prog 137 #[.slice A zs.length c] w (GivesB w (zs.map Piece.l).flatten):=by
 have aA:=u.le
 have aB:=u.max
 have q:=λk=>flat_le (zs.map Piece.l) k
 have F:∀k (h:k<zs.length),((zs.map Piece.l).take (k+1)).flatten=((zs.map Piece.l).take k).flatten++zs[k].1.2:=λk h=>by
  rw[take_flat _ _ (by simpa using h)]
  simp[Piece.l]
 have L:((zs.map Piece.l).take zs.length).flatten=(zs.map Piece.l).flatten:=by rw[qI (by simp)]
 generalize zs.map Piece.l=j at *
 have x:=Lib.hid F
 have T:=Lib.hid L
 clear F L
 have aE:(j.take 0).flatten=[]:=by simp
 go_enter Tryz.func137,Tryz.ntmps137
 go_wp2_with fail
 go_loop [3,11] (λs i=>∃k t:Nat,k<=zs.length/\i = .int .i64 k/\s = .int .i64 t/\t<=1000000000/\Hid (t=(j.take k).flatten.length)) (λ_ i=>zs.length - (intOf i).toNat)
 case atStart=>exact⟨0,0,Nat.zero_le _,rfl,rfl,by omega,Lib.hid (by simp)⟩
 case round =>
  obtain⟨k,t,S,rfl,rfl,ht,V⟩:=hrel
  by_cases m:k<zs.length
  ·obtain⟨g,o,rfl,C,hc⟩:=u.lies (by omega)
   have B:=hc k m
   have n:zs[k].val = .slice zs[k].1.1.1 zs[k].1.2.length zs[k].1.1.2:=rfl
   rw[n] at B
   have G:t+zs[k].1.2.length=(j.take (k+1)).flatten.length:=by rw[x.out k m,zJ,V.out]
   have z:=q (k+1)
   have Z:=Lib.hid G
   have X:t+zs[k].1.2.length<=1000000000:=by omega
   have aD:IntKind.i64.wrap ((t:Int)+(zs[k].1.2.length:Int))=(t:Int)+(zs[k].1.2.length:Int):=wrap_i64_fr _ (by omega) (by omega)
   clear hc n G z q
   go_wp2_with fail
   exact⟨⟨k+1,t+zs[k].1.2.length,by omega,by simp,by simp,X,Z⟩,by simp[intOf];omega⟩
  ·obtain rfl:k=zs.length:=by omega
   go_wp2_with fail
   refine(grow_gives t (by omega) _).mono ?_
   rintro e w1 ⟨v,rfl,f,hB⟩
   go_wp2_with fail
   go_loopw [6,27] (λv i wr=>∃k:Nat,k<=zs.length/\i = .int .i64 k/\OwnB wr w.heap.size v (j.take k).flatten/\Below w.heap.size w wr) (λ_ i _=>zs.length - (intOf i).toNat)
   case atStart=>exact⟨0,Nat.zero_le _,rfl,by simpa using f,hB⟩
   case round =>
    obtain⟨k,S,rfl,f,hB⟩:=hrel
    have I:=hB.size
    by_cases m:k<zs.length
    ·obtain⟨g,o,rfl,C,hc⟩:=u.lies (by omega)
     have B:=(hB.cell (p:=⟨g,o+k,none⟩) C).trans (hc k m)
     have n:zs[k].val = .slice zs[k].1.1.1 zs[k].1.2.length zs[k].1.1.2:=rfl
     rw[n] at B
     have N:=(zs[k].2.below hB).more I
     have z:=q (k+1)
     rw[x.out k m,zJ] at z
     clear hc n q
     have t1:(j.take k).flatten.length+zs[k].1.2.length<=140737488355328:=by omega
     go_wp2_with (at_builtin;refine wp_appB rfl (.tmp 31) (.tmp 32) rfl w.heap.size u6 (j.take k).flatten (by rfl) f wr.heap.size zs[k].1.1.1 zs[k].1.1.2 zs[k].1.2 (by rfl) N t1 I ?_;intro v' w2 U O;have M:=f.below hB O)
     refine⟨⟨k+1,by omega,by simp,by rw[x.out k m];exact U,M⟩,by simp[intOf];omega⟩
    ·obtain rfl:k=zs.length:=by omega
     go_wp2
     go_ret
     rw[T.out] at f
     exact⟨_,rfl,f,hB⟩
end Go.Proofs.YtpibjkbadnffgaaGreat
