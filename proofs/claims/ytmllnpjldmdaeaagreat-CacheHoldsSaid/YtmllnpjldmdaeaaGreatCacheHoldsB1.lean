/- Texts that the proof of CacheHolds leans on, part 1. -/
import Derived.WalkKit
import Derived.Maps.AppendAt
import Derived.Lib.Hide
import Derived.WalkSpells
import Derived.WalkLawsBesides
import Derived.Laws.AppendOwnNone
import Derived.Lib.AppendStr
import Derived.Test.YtmllnpjldmdaeaaGreatProg
import Derived.ProofKit
import Derived.OpenShut
import Derived.ShutString
import Derived.ChangeOld
import Derived.Below
import Derived.Defers
import Derived.Laws.LoneSync
import Derived.RegionTactic
import Derived.RegionCalls
import Derived.ChangeAlike
import Derived.RangeFuncBox
import Derived.RangeFuncNested
import Derived.RangeFuncBound
import Derived.RangeFuncCalls
import Derived.RangeFuncLeaves
import Derived.Shelf.Abstract
import Derived.Shelf.RegionOpen
import Derived.OwnWalkIn
import Derived.TacticsInMore
import Derived.LoopNIn
import Derived.LoopIn
import Derived.Laws.CopyRow
import Derived.Deep.RegionHeld3
import Derived.Deep.DrawnRows
import Derived.Lib.AppendZerosOnto
import Derived.Deep.MidRow
import Derived.MapKept
import Derived.Carry
import Derived.ScopeJumps
set_option maxRecDepth 100000
set_option maxHeartbeats 8000000
namespace Lou
def rdF:Nat->Nat->Nat->List UInt8->Option (Nat×Nat)
  | 0,_,_,_=>none
  | _+1,_,_,[]=>none
  | f+1,i,acc,c::r =>
    if i=9/\1<c.toNat then none
    else if 128<=c.toNat then rdF f (i+1) (acc+c.toNat % 128*128 ^ i) r
    else if c.toNat=0/\0<i then none
    else some (acc+c.toNat % 128*128 ^ i,i+1)
def rd (l:List UInt8):Option (Nat×Nat):=rdF 10 0 0 l
theorem rdF_bound (f i acc:Nat)(l:List UInt8)(n k:Nat)(hf:f+i=10)(ha:acc<128 ^ i)(h:rdF f i acc l=some (n,k)) :
    n<2 ^ 64/\i+1<=k/\k<=i+l.length:=by
  induction f generalizing i acc l with
  | zero=>simp[rdF] at h
  | succ f ih =>
    cases l with
    | nil=>simp[rdF] at h
    | cons c r =>
      have hc:c.toNat<256:=c.toNat_lt
      have hs:acc+c.toNat % 128*128 ^ i<128 ^ (i+1):=by
        have h1:c.toNat % 128<=127:=by omega
        have h2:c.toNat % 128*128 ^ i<=127*128 ^ i:=Nat.mul_le_mul_right _ h1
        have h3:128 ^ (i+1)=128 ^ i*128:=Nat.pow_succ ..
        omega
      simp only[rdF] at h
      split at h
      · cases h
      · rename_i h9
        split at h
        · obtain⟨p1,p2,p3⟩:=ih (i+1) _ r (by omega) hs h
          refine⟨p1,by omega,?_⟩
          simp only[List.length_cons]
          omega
        · rename_i h128
          split at h
          · cases h
          · simp only[Option.some.injEq,Prod.mk.injEq] at h
            obtain⟨rfl,rfl⟩:=h
            refine⟨?_,by omega,by simp⟩
            by_cases hi:i=9
            · subst hi
              have hc1:c.toNat<=1:=by omega
              have:c.toNat % 128*128 ^ 9<=1*128 ^ 9:=Nat.mul_le_mul_right _ (by omega)
              simp at this ha ⊢
              omega
            · have:128 ^ (i+1)<=128 ^ 9:=Nat.pow_le_pow_right (by omega) (by omega)
              simp at this
              omega
theorem rd_bound {l:List UInt8}{n k:Nat}(h:rd l=some (n,k)):n<2 ^ 64/\1<=k/\k<=l.length:=by
  have:=rdF_bound 10 0 0 l n k (by omega) (by simp) h
  omega
def fixL (k n:Nat):List UInt8:=(List.range k).map fun i=>UInt8.ofNat (n / 256 ^ (k - 1 - i))
def rfix (l:List UInt8):Nat:=l.foldl (fun a c=>256*a+c.toNat) 0
theorem fixL_length (k n:Nat):(fixL k n).length=k:=by simp[fixL]
theorem fixL_succ (k n:Nat):fixL (k+1) n=UInt8.ofNat (n / 256 ^ k)::fixL k n:=by
  unfold fixL
  rw[List.range_succ_eq_map,List.map_cons,List.map_map]
  simp only[Nat.add_sub_cancel,Nat.sub_zero,List.cons.injEq,true_and]
  apply List.map_congr_left
  intro i hi
  simp at hi
  simp only[Function.comp]
  rw[show k - (i+1)=k - 1 - i from by omega]
theorem rfix_acc (l:List UInt8)(a:Nat):l.foldl (fun a c=>256*a+c.toNat) a=a*256 ^ l.length+rfix l:=by
  induction l generalizing a with
  | nil=>simp[rfix]
  | cons c l ih =>
    rw[rfix,List.foldl_cons,List.foldl_cons,ih,ih (256*0+c.toNat),List.length_cons,Nat.pow_succ,Nat.add_mul,Nat.add_mul]
    rw[show 256*a*256 ^ l.length=a*(256 ^ l.length*256) from by rw[Nat.mul_comm 256 a,Nat.mul_assoc,Nat.mul_comm 256]]
    simp
    omega
theorem rfix_cons (c:UInt8)(l:List UInt8):rfix (c::l)=c.toNat*256 ^ l.length+rfix l:=by
  rw[rfix,List.foldl_cons,rfix_acc]
  simp
theorem rfix_lt (l:List UInt8):rfix l<256 ^ l.length:=by
  induction l with
  | nil=>simp[rfix]
  | cons c l ih =>
    rw[rfix_cons,List.length_cons,Nat.pow_succ]
    have h1:c.toNat<=255:=by have:=c.toNat_lt;omega
    have h2:c.toNat*256 ^ l.length<=255*256 ^ l.length:=Nat.mul_le_mul_right _ h1
    omega
theorem rfix_fixL (k n:Nat):rfix (fixL k n)=n % 256 ^ k:=by
  induction k with
  | zero=>simp[fixL,rfix,Nat.mod_one]
  | succ k ih =>
    rw[fixL_succ,rfix_cons,fixL_length,ih]
    have e:(UInt8.ofNat (n / 256 ^ k)).toNat=n / 256 ^ k % 256:=by simp[UInt8.toNat_ofNat']
    rw[e,Nat.pow_succ,Nat.mod_mul]
    rw[Nat.mul_comm (256 ^ k)]
    omega
def poly:Nat:=0xedb88320
def sh (x:Nat):Nat:=if x % 2=1 then (x / 2) ^^^ poly else x / 2
def shN:Nat->Nat->Nat
  | 0,x=>x
  | k+1,x=>shN k (sh x)
def stepC (s:Nat)(c:UInt8):Nat:=shN 8 (s ^^^ c.toNat)
def sumS (s:Nat)(l:List UInt8):Nat:=l.foldl stepC s
def sumL (l:List UInt8):Nat:=sumS 4294967295 l ^^^ 4294967295
theorem sh_bit (x i:Nat):(sh x).testBit i=(x.testBit (i+1) ^^ (x.testBit 0 && poly.testBit i)):=by
  unfold sh
  by_cases h:x % 2=1
  · rw[if_pos h,Nat.testBit_xor,Nat.testBit_div_two]
    simp[Nat.testBit_zero,h]
  · rw[if_neg h,Nat.testBit_div_two]
    simp[Nat.testBit_zero,h]
theorem sh_xor (x y:Nat):sh (x ^^^ y)=sh x ^^^ sh y:=by
  apply Nat.eq_of_testBit_eq
  intro i
  rw[sh_bit,Nat.testBit_xor,Nat.testBit_xor,Nat.testBit_xor,sh_bit,sh_bit]
  cases x.testBit (i+1)<;>cases y.testBit (i+1)<;>cases x.testBit 0<;>cases y.testBit 0<;>cases poly.testBit i<;>rfl
theorem shN_xor (k x y:Nat):shN k (x ^^^ y)=shN k x ^^^ shN k y:=by
  induction k generalizing x y with
  | zero=>rfl
  | succ k ih=>simp only[shN];rw[sh_xor,ih]
theorem sh_lt {x:Nat}(h:x<4294967296):sh x<4294967296:=by
  unfold sh
  split
  · have:x / 2<2 ^ 32:=by omega
    have h2:poly<2 ^ 32:=by decide
    have:=Nat.xor_lt_two_pow this h2
    simpa using this
  · omega
theorem shN_lt (k:Nat){x:Nat}(h:x<4294967296):shN k x<4294967296:=by
  induction k generalizing x with
  | zero=>exact h
  | succ k ih=>exact ih (sh_lt h)
theorem xor_lt32 {x y:Nat}(hx:x<4294967296)(hy:y<4294967296):x ^^^ y<4294967296:=by
  have:=Nat.xor_lt_two_pow (n:=32) (by simpa using hx) (by simpa using hy)
  simpa using this
theorem stepC_lt {s:Nat}(h:s<4294967296)(c:UInt8):stepC s c<4294967296 :=
  shN_lt 8 (xor_lt32 h (by have:=c.toNat_lt;omega))
theorem sumS_lt {s:Nat}(h:s<4294967296)(l:List UInt8):sumS s l<4294967296:=by
  induction l generalizing s with
  | nil=>exact h
  | cons c l ih=>exact ih (stepC_lt h c)
theorem sumL_lt (l:List UInt8):sumL l<4294967296:=xor_lt32 (sumS_lt (by omega) l) (by omega)
theorem shN_high (x:Nat)(k:Nat):shN k (x*2 ^ k)=x:=by
  induction k generalizing x with
  | zero=>simp[shN]
  | succ k ih =>
    simp only[shN]
    have h2:x*2 ^ (k+1)=2*(x*2 ^ k):=by rw[Nat.pow_succ];rw[<-Nat.mul_assoc];omega
    have:sh (x*2 ^ (k+1))=x*2 ^ k:=by
      unfold sh
      rw[if_neg (by omega)]
      omega
    rw[this,ih]
theorem stepC_table (s:Nat)(c:UInt8):stepC s c=(s / 256) ^^^ shN 8 ((s % 256) ^^^ c.toNat):=by
  unfold stepC
  have hs:s=(s / 256*2 ^ 8) ^^^ (s % 256):=by
    apply Nat.eq_of_testBit_eq
    intro i
    rw[Nat.testBit_xor,show (256:Nat)=2 ^ 8 from rfl,Nat.testBit_mod_two_pow,Nat.testBit_mul_two_pow,Nat.testBit_div_two_pow]
    by_cases h:i<8
    · have h8:¬ 8<=i:=by omega
      simp[h,h8]
    · have h8:8<=i:=by omega
      have e:i - 8+8=i:=by omega
      simp[h,h8,e]
  conv=>lhs;rw[hs,Nat.xor_assoc,shN_xor,shN_high]
theorem sumS_append (s:Nat)(a b:List UInt8):sumS s (a++b)=sumS (sumS s a) b:=by simp[sumS,List.foldl_append]
end Lou
namespace Go.Proofs.YtmllnpjldmdaeaaGreat
open Go Go.RowKit
@[reducible] def b8 (c:UInt8):Value:=.int .u8 (c.toNat:Int)
theorem inf_u8:(Tryz.prog.info? 5).map (fun i=>(i.zero,i.size,i.bytes))=some (some (.int .u8 0),1,1):=by kernel_rfl
def OwnB (w:World)(base:Nat)(v:Value)(l:List UInt8):Prop:=w.ownsRow base 5 1 v l.length (l.map b8)
def GivesB (w0:World)(l:List UInt8)(e:Ending)(w':World):Prop :=
  ∃v,e = .returned v/\OwnB w' w0.heap.size v l/\Below w0.heap.size w0 w'
theorem OwnB.nil (w:World)(base:Nat):OwnB w base (.slice none 0 0) []:=World.ownsRow_nil _ _ _ _
theorem OwnB.form {w:World}{base:Nat}{v:Value}{l:List UInt8}(h:OwnB w base v l) :
    (v = .slice none 0 0/\l=[])∨∃g cap,v = .slice (some ⟨g,0,none⟩) l.length cap/\base<=g/\g<w.heap.size/\l.length<=cap:=by
  rcases h.2 with⟨h1,h2⟩|⟨g,cap,cur,hv,hb,hg,hle,_⟩
  · exact .inl ⟨h1,List.eq_nil_of_length_eq_zero h2⟩
  · exact .inr ⟨g,cap,hv,hb,(Array.getElem?_eq_some_iff.1 hg).1,hle⟩
structure InB (w:World)(B:Nat)(A:Option Addr)(c:Nat)(l:List UInt8):Prop where
  le:l.length<=c
  max:c<=9223372036854775807
  nil:A=none->c=0
  lies:0<l.length->∃g o,A=some ⟨g,o,none⟩/\g<B/\∀j (h:j<l.length),w.cell? ⟨g,o+j,none⟩=some (.int .u8 (l[j].toNat:Int))
theorem InB.keep {w w':World}{B:Nat}{A:Option Addr}{c:Nat}{l:List UInt8}(h:InB w B A c l)(hk:∀p:Addr,p.block<B->w'.cell? p=w.cell? p):InB w' B A c l :=
  ⟨h.le,h.max,h.nil,fun hl=>by
    obtain⟨g,o,hA,hg,hc⟩:=h.lies hl
    exact⟨g,o,hA,hg,fun j hj=>(hk _ hg).trans (hc j hj)⟩⟩
theorem InB.below {w w':World}{B:Nat}{A:Option Addr}{c:Nat}{l:List UInt8}(h:InB w B A c l)(hb:Below B w w'):InB w' B A c l:=h.keep fun _ hp=>hb.cell hp
theorem InB.drew {w:World}{B:Nat}{A:Option Addr}{c:Nat}{l:List UInt8}(h:InB w B A c l):InB w.drew B A c l:=⟨h.le,h.max,h.nil,h.lies⟩
theorem InB.more {w:World}{B B':Nat}{A:Option Addr}{c:Nat}{l:List UInt8}(h:InB w B A c l)(hB:B<=B'):InB w B' A c l :=
  ⟨h.le,h.max,h.nil,fun hl=>by
    obtain⟨g,o,hA,hg,hc⟩:=h.lies hl
    exact⟨g,o,hA,by omega,hc⟩⟩
theorem OwnB.inB {w:World}{base:Nat}{v:Value}{l:List UInt8}(h:OwnB w base v l):∃A c,v = .slice A l.length c/\InB w w.heap.size A c l:=by
  rcases h.2 with⟨h1,h2⟩|⟨g,cap,cur,hv,hb,hg,hle,hm,hs,ht⟩
  · obtain rfl:=List.eq_nil_of_length_eq_zero h2
    exact⟨none,0,h1,by simp,by omega,fun _=>rfl,fun h=>by simp at h⟩
  · refine⟨_,cap,hv,hle,by unfold maxLen at hm;omega,fun h=>by simp at h,fun _=>⟨g,0,rfl,(Array.getElem?_eq_some_iff.1 hg).1,fun j hj => ?_⟩⟩
    rw[Nat.zero_add,cell_of_row w g j cur _ (0,0) hg]
    have:=congrArg (fun x=>x[j]?) ht
    simp only[List.getElem?_take,List.getElem?_map,List.getElem?_eq_getElem hj,Option.map_some] at this
    rw[if_pos (by omega)] at this
    simpa using this
def cutA (A:Option Addr)(c n:Nat):Option Addr:=if c=n then A else A.map (·.add n)
theorem InB.drop {w:World}{B:Nat}{A:Option Addr}{c:Nat}{l:List UInt8}(h:InB w B A c l)(n:Nat)(hn:n<=l.length):InB w B (cutA A c n) (c - n) (l.drop n):=by
  have h1:=h.le
  have h2:=h.max
  refine⟨by simp;omega,by omega,?_,?_⟩
  · intro hA
    unfold cutA at hA
    split at hA
    · omega
    · have:=h.nil (by simpa using hA);omega
  · intro hl
    simp at hl
    obtain⟨g,o,rfl,hg,hc⟩:=h.lies (by omega)
    refine⟨g,o+n,?_,hg,?_⟩
    · unfold cutA
      rw[if_neg (by omega)]
      by_cases hz:n=0<;>simp[Addr.add,hz]
    · intro j hj
      simp at hj
      have:=hc (n+j) (by omega)
      rw[Nat.add_assoc,this]
      simp
theorem InB.take {w:World}{B:Nat}{A:Option Addr}{c:Nat}{l:List UInt8}(h:InB w B A c l)(n:Nat)(c':Nat)(hn:n<=l.length)(hc:n<=c')(hc':c'<=c):InB w B A c' (l.take n):=by
  have h1:=h.le
  have h2:=h.max
  refine⟨by simp;omega,by omega,fun hA=>by have:=h.nil hA;omega,?_⟩
  intro hl
  simp at hl
  obtain⟨g,o,rfl,hg,hcell⟩:=h.lies (by omega)
  refine⟨g,o,rfl,hg,fun j hj => ?_⟩
  simp at hj
  rw[hcell j (by omega)]
  simp
def str (l:List UInt8):ByteArray:=⟨l.toArray⟩
theorem str_size (l:List UInt8):(str l).size=l.length:=rfl
theorem str_data (l:List UInt8):(str l).data.toList=l:=rfl
theorem strOf_bytes (l:List UInt8):strOfNums (l.map fun x=>(x.toNat:Int))=str l:=by
  have e:(l.map fun x=>(x.toNat:Int)).map (fun n=>UInt8.ofNat n.toNat)=l:=by
    rw[List.map_map]
    conv=>rhs;rw[<-List.map_id l]
    apply List.map_congr_left
    intro x _
    simp
  unfold strOfNums str
  rw[e]
theorem InB.string {w:World}{B:Nat}{A:Option Addr}{c:Nat}{l:List UInt8}(h:InB w B A c l) :
    (convert 44 9 (.slice A l.length c)).run Tryz.prog w = .ok (.string (str l)) w:=by
  rcases A with _|a
  · have:=h.nil rfl
    have h1:=h.le
    obtain rfl:l=[]:=List.eq_nil_of_length_eq_zero (by omega)
    exact run_convert_bytes_nil (P:=Tryz.prog) w _ 5 Tryz.underlying44 Tryz.underlying5 _ _ _ Tryz.underlying9
  · rcases Nat.eq_zero_or_pos l.length with h0|h0
    · obtain rfl:=List.eq_nil_of_length_eq_zero h0
      have hl:(loadCells a ([]:List Int).length).run Tryz.prog w = .ok ((([]:List Int)).map (Value.int .u8)).toArray w :=
        run_loadCells_list (P:=Tryz.prog) w a [] (fun j v hj=>by simp at hj)
      rw[run_convert_bytes_string w _ _ 5 _ _ c Tryz.underlying44 Tryz.underlying5 Tryz.underlying9,List.length_nil]
      have:=run_bytesToString (P:=Tryz.prog) w a 0 c [] hl
      rw[this]
      exact congrArg (fun s=>Result.ok (Value.string s) w) (show ByteArray.empty=str [] from rfl)
    · obtain⟨g,o,hA,_,hc⟩:=h.lies h0
      obtain rfl:a=⟨g,o,none⟩:=by simpa using hA
      have:=run_convert_bytes_arg (P:=Tryz.prog) w 44 5 Tryz.underlying44 Tryz.underlying5 g o l.length c (l.map fun x=>(x.toNat:Int)) (by simp) (fun i hi=>by rw[hc i hi];simp[List.getD,hi]) 9 Tryz.underlying9
      rw[this,strOf_bytes]
section
variable {w:World}{ops:Array Oper}{rest:List Oper}{o:Oper}{a:Act}{Q:Exit->Act->World->Prop}
theorem wp_appB (hg:o.guard=none)(s x:Operand)(ho:o.op = .call { callee:=.builtin .append,args:=#[s,x],argTypes:=#[44,44] })
    (base:Nat) (v:Value) (l:List UInt8) (hs:a.eval s=v) (hown:OwnB w base v l) (B:Nat) (A:Option Addr) (c:Nat) (l2:List UInt8) (hx:a.eval x = .slice A l2.length c) (hin:InB w B A c l2)
    (hbytes:l.length+l2.length<=140737488355328) (hbase:base<=w.heap.size)
    (h:∀v' w',OwnB w' base v' (l++l2)->w.grownBy w' v.ownBlock->wpList Tryz.prog ops Q rest (a.put o.dst v') w'):wpList Tryz.prog ops Q (o::rest) a w:=by
  obtain⟨i0,hi,hz0,hz1,hz2⟩:=info_parts inf_u8
  have hle:=hin.le
  rcases A with _|ad
  · have hc0:=hin.nil rfl
    obtain rfl:l2=[]:=List.eq_nil_of_length_eq_zero (by omega)
    subst hc0
    refine wpList_append_own_none (w:=w) hg s x _ ho base _ i0 1 Tryz.underlying44 hi v l.length (l.map b8) hs hown hx ?_
    exact h v w (by rw[List.append_nil];exact hown) (World.grownBy.refl _ _)
  · have hnews:∀j u,(l2.map b8)[j]? = some u->w.cell? (ad.add j)=some u:=by
      intro j u hu
      have hj:j<l2.length:=by
        rcases Nat.lt_or_ge j l2.length with h|h
        · exact h
        · rw[List.getElem?_eq_none (by simpa using h)] at hu;cases hu
      obtain⟨g,o',hA,_,hc⟩:=hin.lies (by omega)
      obtain rfl:ad=⟨g,o',none⟩:=by simpa using hA
      have e:(⟨g,o',none⟩:Addr).add j=⟨g,o'+j,none⟩:=by unfold Addr.add;split<;>simp_all
      rw[e,hc j hj]
      simpa[hj,b8] using hu
    refine wpList_append_own w hg s x _ ho base _ i0 (.int .u8 0) 1 1 Tryz.underlying44 hi hz0 hz1 hz2 rfl (by decide) v l.length (l.map b8) hs hown ad l2.length c (l2.map b8) hx (by simp) hnews (by simp[b8,Value.oneCell']) (by unfold maxLen;omega) (by omega) hbase ?_
    intro v' w' hown' hgrow _
    refine h v' w' ?_ hgrow
    unfold OwnB
    simpa using hown'
theorem wp_makeB (hg:o.guard=none)(x y:Operand)(ho:o.op=Op.makeSlice 44 x y)(base:Nat)(kl kc:IntKind)(n:Nat)(hx:a.eval x = .int kl (n:Int))(hy:a.eval y = .int kc (n:Int))
    (hn:n<=140737488355328) (hbase:base<=w.heap.size)
    (h:∀w',OwnB w' base (.slice (some ⟨w.heap.size,0,none⟩) n n) (List.replicate n 0)->w.grownBy w' none->wpList Tryz.prog ops Q rest (a.put o.dst (.slice (some ⟨w.heap.size,0,none⟩) n n)) w'):wpList Tryz.prog ops Q (o::rest) a w:=by
  obtain⟨i0,hi,hz0,hz1,hz2⟩:=info_parts inf_u8
  refine wpList_make_full w hg x y _ ho base _ i0 (.int .u8 0) 1 Tryz.underlying44 hi hz0 hz1 kl kc n n n hx hy rfl rfl (by rw[hz2];omega) (by unfold maxLen;omega) hbase ?_
  intro w' hown hgrow
  refine h w' ?_ hgrow
  have e:(madeCells (Value.int .u8 0).cells (n*1)).toList=(List.replicate n (0:UInt8)).map b8:=by
    rw[Nat.mul_one,show (Value.int .u8 0).cells=#[.int .u8 0] from rfl,toList_madeCells_one]
    simp[b8]
  rw[e] at hown
  unfold OwnB
  simpa using hown
end
theorem OwnB.set {w:World}{base g n cap:Nat}{l:List UInt8}(h:OwnB w base (.slice (some ⟨g,0,none⟩) n cap) l)(j x:Nat)(hx:x<256) :
    OwnB (w.setCell ⟨g,j,none⟩ (.int .u8 (x:Int))) base (.slice (some ⟨g,0,none⟩) n cap) (l.set j (UInt8.ofNat x)):=by
  rcases h.form with⟨h1,_⟩|⟨g',cap',h1,_,_,_⟩
  · cases h1
  · injection h1 with h2 h3 h4
    subst h3
    have:=(World.ownsRow.stored (w:=w) h j (.int .u8 (x:Int))).1
    unfold OwnB
    rw[List.length_set,List.map_set]
    have e:b8 (UInt8.ofNat x) = .int .u8 (x:Int):=by simp[b8];omega
    rw[e]
    exact this
theorem OwnB.cell {w:World}{base g n cap:Nat}{l:List UInt8}(h:OwnB w base (.slice (some ⟨g,0,none⟩) n cap) l)(j:Nat)(hj:j<l.length):w.cell? ⟨g,j,none⟩=some (.int .u8 (l[j].toNat:Int)):=by
  rcases h.form with⟨h1,_⟩|⟨g',cap',h1,_,_,_⟩
  · cases h1
  · injection h1 with h2 h3 h4
    subst h3
    have:=World.ownsRow.cellAt (w:=w) h j (by omega)
    rw[this]
    simp[b8,hj]
theorem OwnB.free {w:World}{base g n cap:Nat}{l:List UInt8}(h:OwnB w base (.slice (some ⟨g,0,none⟩) n cap) l)(j:Nat):w.frozen? ⟨g,j,none⟩=false:=by
  rcases h.form with⟨h1,_⟩|⟨g',cap',h1,_,_,_⟩
  · cases h1
  · injection h1 with h2 h3 h4
    subst h3
    exact World.ownsRow.frozenAt (w:=w) h j
def BlkIs (w:World)(g:Nat)(t:TypeId)(cs:Array Value):Prop:=w.heap[g]? = some (.cells cs t (0,0))
section
variable {w w':World}{g:Nat}{t:TypeId}{cs:Array Value}
theorem BlkIs.lt (h:BlkIs w g t cs):g<w.heap.size:=(Array.getElem?_eq_some_iff.1 h).1
theorem BlkIs.cell (h:BlkIs w g t cs)(i:Nat):w.cell? ⟨g,i,none⟩=cs[i]?:=cell_of_row w g i cs t (0,0) h
theorem BlkIs.free (h:BlkIs w g t cs)(i:Nat):w.frozen? ⟨g,i,none⟩=false:=by
  unfold BlkIs at h
  simp[World.frozen?,h]
theorem BlkIs.set (h:BlkIs w g t cs)(i:Nat)(u:Value):BlkIs (w.setCell ⟨g,i,none⟩ u) g t (cs.setIfInBounds i u):=by
  unfold BlkIs at h ⊢
  simp[World.setCell,Array.getElem?_modify,h]
theorem BlkIs.other (h:BlkIs w g t cs){p:Addr}(hp:g≠p.block)(u:Value):BlkIs (w.setCell p u) g t cs:=(Below.heap_setCell w p u g hp).trans h
theorem BlkIs.drew (h:BlkIs w g t cs):BlkIs w.drew g t cs:=h
theorem BlkIs.alloc (h:BlkIs w g t cs)(o:Obj):BlkIs (w.alloc o) g t cs:=(Below.heap_alloc w o g h.lt).trans h
theorem BlkIs.new (w:World)(t:TypeId)(cs:Array Value):BlkIs (w.alloc (.cells cs t)) w.heap.size t cs:=heap_alloc_new w _
theorem BlkIs.below {B:Nat}(h:BlkIs w g t cs)(hb:Below B w w')(hg:g<B):BlkIs w' g t cs:=(hb.block g hg).trans h
theorem BlkIs.grown {row:Option Nat}(h:BlkIs w g t cs)(hb:w.grownBy w' row)(hg:some g≠row):BlkIs w' g t cs:=(hb.block g h.lt hg).trans h
end
theorem grownBy_set (w:World)(b i:Nat)(v:Value):w.grownBy (w.setCell ⟨b,i,none⟩ v) (some b) :=
  ⟨rfl,rfl,rfl,by simp[World.setCell],fun k _ hk=>Below.heap_setCell _ _ _ k (fun e=>hk (by rw[e]))⟩
theorem grownBy_trans {a b c:World}{row:Option Nat}(h:a.grownBy b row)(k:b.grownBy c row):a.grownBy c row :=
  ⟨k.os.trans h.os,k.tape.trans h.tape,k.output.trans h.output,Nat.le_trans h.size k.size,fun i hi hr=>(k.block i (Nat.lt_of_lt_of_le hi h.size) hr).trans (h.block i hi hr)⟩
theorem grownBy_drew (w:World)(row:Option Nat):w.grownBy w.drew row:=⟨rfl,rfl,rfl,Nat.le_refl _,fun _ _ _=>rfl⟩
theorem new_cell (w:World)(v:Value)(t:TypeId):(w.alloc (.cells #[v] t)).cell? ⟨w.heap.size,0,none⟩=some v:=by
  simp
theorem new_free (w:World)(c:Array Value)(t:TypeId)(i:Nat):(w.alloc (.cells c t)).frozen? ⟨w.heap.size,i,none⟩=false:=by
  unfold World.frozen?
  rw[heap_alloc_new]
  simp
end Go.Proofs.YtmllnpjldmdaeaaGreat
namespace Go.Proofs.YtmllnpjldmdaeaaGreat
open Go Go.RowKit Lou
theorem u8_wf {n:Int}(h:(Lit.int .u8 n).wf=true):0<=n/\n<256:=by
  simp only[Lit.wf,Bool.and_eq_true,decide_eq_true_eq] at h
  have e1:IntKind.u8.min=0:=by decide
  have e2:IntKind.u8.max=255:=by decide
  omega
theorem cell_block_lt {w:World}{a:Addr}{v:Value}(h:w.cell? a=some v):a.block<w.heap.size:=by
  simp only[World.cell?] at h
  by_cases hb:a.block<w.heap.size
  · exact hb
  · exfalso
    simp[Array.getElem?_eq_none (Nat.le_of_not_lt hb)] at h
end Go.Proofs.YtmllnpjldmdaeaaGreat
namespace Go.Proofs.YtmllnpjldmdaeaaGreat
open Go Lou Go.ChangeShapes Go.WideShapes Go.ChangeAt Go.RowKit
section
variable {H:Type}{enc:TypeId×Value->H}{W:World}{r:Reach}{b0 b1:Nat}{spare:Nat->Bool}{held:Bool}{v:Value}{d:DataW H}{p:List MemPlace}
theorem open_struct {T:TypeId}{fs:Array Field}(hu:Tryz.prog.underlying T=some (.struct fs))(hval:Value.okWide Tryz.prog W r b0 T v)(h:DataW.Trod enc Tryz.prog W b1 spare held T v d p) :
    ∃cs:List Value,v = .agg cs.toArray/\cs.length=Tryz.prog.cellsOf T/\∀(i:Nat) (f:Field),fs[i]? = some f->∃n x,DataW.trod enc Tryz.prog W b1 spare held n f.type ((cs.drop f.offset).take (Tryz.prog.cellsOf f.type))=some x:=by
  unfold Value.okWide at hval
  rw[hu] at hval
  obtain⟨cs,rfl,hsz,_⟩:=hval
  obtain⟨fuel,hf⟩:=h
  obtain⟨xs,m,_,_,_,hl,hi⟩:=DataW.trod_struct hu hf
  refine⟨cs.toList,by simp,by simpa using hsz,fun i f hif => ?_⟩
  have e:=hi i f hif
  have hlt:i<xs.length:=by rw[hl];exact(Array.getElem?_eq_some_iff.1 hif).1
  rw[List.getElem?_eq_getElem hlt] at e
  exact⟨m,_,e⟩
theorem open_arr {T e:TypeId}{n:Nat}(hu:Tryz.prog.underlying T=some (.array n e))(hval:Value.okWide Tryz.prog W r b0 T v)(h:DataW.Trod enc Tryz.prog W b1 spare held T v d p) :
    ∃cs:List Value,v = .agg cs.toArray/\cs.length=Tryz.prog.cellsOf T/\∀i,i<n->∃m x,DataW.trod enc Tryz.prog W b1 spare held m e ((cs.drop (i*Tryz.prog.cellsOf e)).take (Tryz.prog.cellsOf e))=some x:=by
  unfold Value.okWide at hval
  rw[hu] at hval
  obtain⟨cs,rfl,hsz,_⟩:=hval
  obtain⟨fuel,hf⟩:=h
  obtain⟨xs,m,_,_,_,hl,hi⟩:=DataW.trod_array hu hf
  refine⟨cs.toList,by simp,by simpa using hsz,fun i hin => ?_⟩
  have e:=hi i hin
  rw[List.getElem?_eq_getElem (by omega)] at e
  exact⟨m,_,e⟩
theorem one_int {T:TypeId}{k:IntKind}{n:Nat}{c:Value}{l:List Value}{x:DataW H×List MemPlace}(hu:Tryz.prog.underlying T=some (.int k))(hc:Tryz.prog.cellsOf T=1)(h:DataW.trod enc Tryz.prog W b1 spare held n T ((c::l).take (Tryz.prog.cellsOf T))=some x):∃z,c = .int k z/\(Lit.int k z).wf=true:=by
  rw[hc] at h
  obtain⟨z,g,_,q⟩:=DataW.trod_int hu h
  simp at g
  exact⟨z,g,q⟩
theorem open_plan (hval:Value.okWide Tryz.prog W r b0 23 v)(h:DataW.Trod enc Tryz.prog W b1 spare held 23 v d p):∃x0 x1:Int,v = .agg #[.int .i64 x0,.int .i64 x1]:=by
  obtain⟨cs,rfl,hl,hi⟩:=open_struct Tryz.underlying23 hval h
  have h2:Tryz.prog.cellsOf 23=2:=by kernel_rfl
  rw[h2] at hl
  match cs,hl with
  | [c0,c1],_ =>
    obtain⟨_,_,e0⟩:=hi 0 _ rfl
    obtain⟨_,_,e1⟩:=hi 1 _ rfl
    obtain⟨x0,rfl,_⟩:=one_int Tryz.underlying3 (by kernel_rfl) e0
    obtain⟨x1,rfl,_⟩:=one_int Tryz.underlying3 (by kernel_rfl) e1
    exact⟨x0,x1,rfl⟩
theorem open_two (hval:Value.okWide Tryz.prog W r b0 24 v)(h:DataW.Trod enc Tryz.prog W b1 spare held 24 v d p):∃x0 x1:Int,v = .agg #[.int .i64 x0,.int .i64 x1]:=by
  obtain⟨cs,rfl,hl,hi⟩:=open_arr Tryz.underlying24 hval h
  have h2:Tryz.prog.cellsOf 24=2:=by kernel_rfl
  have h1:Tryz.prog.cellsOf 3=1:=by kernel_rfl
  rw[h2] at hl
  match cs,hl with
  | [c0,c1],_ =>
    obtain⟨_,_,e0⟩:=hi 0 (by omega)
    obtain⟨_,_,e1⟩:=hi 1 (by omega)
    rw[h1] at e0 e1
    obtain⟨x0,g0,_⟩:=DataW.trod_int Tryz.underlying3 e0
    obtain⟨x1,g1,_⟩:=DataW.trod_int Tryz.underlying3 e1
    simp at g0 g1
    subst g0 g1
    exact⟨x0,x1,rfl⟩
end
end Go.Proofs.YtmllnpjldmdaeaaGreat
namespace Go.Proofs.YtmllnpjldmdaeaaGreat
open Go Go.RowKit Lou
theorem map_snoc_b8 (l:List UInt8)(n:Nat)(h:n<256):l.map b8++[.int .u8 (n:Int)]=(l++[UInt8.ofNat n]).map b8:=by
  simp[b8];omega
theorem disable (w:World):(callFunc 235 #[]).run Tryz.prog w = .ok (.value (.tuple #[])) w:=run_call_mark0 Tryz.func235 (by kernel_rfl) (by kernel_rfl) (by kernel_rfl) .disable (by kernel_rfl) w
theorem enable (w:World):(callFunc 237 #[]).run Tryz.prog w = .ok (.value (.tuple #[])) w:=run_call_mark0 Tryz.func237 (by kernel_rfl) (by kernel_rfl) (by kernel_rfl) .enable (by kernel_rfl) w
theorem acquire (a:Addr)(w:World):(callFunc 238 #[.pointer (some a)]).run Tryz.prog w = .ok (.value (.tuple #[])) w:=run_call_marked Tryz.func238 (by kernel_rfl) (by kernel_rfl) (by kernel_rfl) .acquire (by kernel_rfl) a w
theorem releaseMerge (a:Addr)(w:World):(callFunc 240 #[.pointer (some a)]).run Tryz.prog w = .ok (.value (.tuple #[])) w:=run_call_marked Tryz.func240 (by kernel_rfl) (by kernel_rfl) (by kernel_rfl) .releaseMerge (by kernel_rfl) a w
theorem store_deferred (a:Addr)(x:Value)(u:FrameMode)(w:World)(hc:w.cell? a=some x)(hz:w.frozen? a=false) :
    CallsD Tryz.prog 218 #[.pointer (some a),.bool true] u w fun e u' w'=>u'=u/\(e = .returned (.tuple #[])/\w'=w.drew.setCell a (.int .u32 1)):=by
  have hc':w.drew.cell? a=some x:=by go_simp
  have hz':w.drew.frozen? a=false:=by go_simp
  have hst:=run_call_store (P:=Tryz.prog) Tryz.func230 (by kernel_rfl) (by kernel_rfl) (by kernel_rfl) (by kernel_rfl) (k:=.u32) (y:=1) hc' hz'
  go_enter_d Tryz.func218,Tryz.ntmps218
  go_wp2
  go_region_calls
  all_goals (go_end0;exact⟨rfl,rfl⟩)
theorem unlock_deferred (a:Addr)(u:FrameMode)(w:World)(hc:w.cell? a=some (.int .i32 1))(hz:w.frozen? a=false) :
    CallsD Tryz.prog 217 #[.pointer (some a)] u w fun e u' w'=>u'=u/\(e = .returned (.tuple #[])/\w'=w.setCell a (.int .i32 0)):=by
  have hd:=disable
  have he:=enable
  have hr:=releaseMerge
  have hadd:=run_call_add (P:=Tryz.prog) Tryz.func241 (by kernel_rfl) (by kernel_rfl) (by kernel_rfl) .i32 (by kernel_rfl) (y:=-1) (s:=0) hc hz (by simp[go_sem];rfl)
  have hcv:=run_convert_to_unsafe (P:=Tryz.prog) (src:=333) (dst:=337) Tryz.underlying333 Tryz.underlying337 (by kernel_rfl) hc
  go_enter_d Tryz.func217,Tryz.ntmps217
  go_wp2
  go_end0
  go_wp2
  go_end0
  exact⟨rfl,rfl⟩
theorem lock_free (a:Addr)(w:World)(hc:w.cell? a=some (.int .i32 0))(hz:w.frozen? a=false) :
    Calls Tryz.prog 216 #[.pointer (some a)] w fun e w'=>e = .returned (.tuple #[])/\w'=w.setCell a (.int .i32 1):=by
  have hd:=disable
  have he:=enable
  have ha:=acquire
  have hcas:=run_call_cas_hit (P:=Tryz.prog) Tryz.func236 (by kernel_rfl) (by kernel_rfl) (by kernel_rfl) .i32 (by kernel_rfl) (y:=1) hc hz
  have hc':(w.setCell a (.int .i32 1)).cell? a=some (.int .i32 1):=World.cell?_setCell_same w a _ hc
  have hcv:=run_convert_to_unsafe (P:=Tryz.prog) (src:=333) (dst:=337) Tryz.underlying333 Tryz.underlying337 (by kernel_rfl) hc'
  go_enter Tryz.func216,Tryz.ntmps216
  go_wp2
  first|go_end0|(simp only[Exit.inBlock,Exit.then];refine bodyPost_ret (results_none rfl _ _ _) rfl ?_)|refine bodyPost_ret (results_none rfl _ _ _) rfl ?_
  go_wp2
  go_end0
  exact⟨rfl,rfl⟩
theorem bool_load (a:Addr)(d:Nat)(w:World)(hc:w.cell? a=some (.int .u32 d)) :
    Calls Tryz.prog 212 #[.pointer (some a)] w fun e w'=>e = .returned (.bool ((d:Int) != 0))/\w=w':=by
  have hl:=run_call_load (P:=Tryz.prog) Tryz.func215 (by kernel_rfl) (by kernel_rfl) (by kernel_rfl) .u32 (by kernel_rfl) hc
  go_enter Tryz.func212,Tryz.ntmps212
  go_wp2
  go_ret
  exact⟨rfl,rfl⟩
theorem int64_add (b o k:Nat)(hk:k<=1000000)(w:World)(hc:w.cell? ⟨b,o,none⟩=some (.int .i64 k))(hz:w.frozen? ⟨b,o,none⟩=false) :
    Calls Tryz.prog 22 #[.pointer (some ⟨b,o,none⟩),.int .i64 1] w fun e w'=>e = .returned (.int .i64 ((k:Int)+1))/\w.setCell ⟨b,o,none⟩ (.int .i64 ((k:Int)+1))=w':=by
  have hadd:=run_call_add (P:=Tryz.prog) Tryz.func42 (by kernel_rfl) (by kernel_rfl) (by kernel_rfl) .i64 (by kernel_rfl) (y:=1) (s:=(k:Int)+1) hc hz (by
    have:=IntWalk.i64_in ((k:Int)+1) (by omega)
    simp[go_sem,this])
  go_enter Tryz.func22,Tryz.ntmps22
  go_wp2
  go_ret
  exact⟨rfl,rfl⟩
theorem sh_odd {y:Nat}(h:y % 2=1):sh y=(y / 2) ^^^ poly:=by unfold sh;rw[if_pos h]
theorem sh_even {y:Nat}(h:¬ y % 2=1):sh y=y / 2:=by unfold sh;rw[if_neg h]
theorem xor_u32 {x y:Nat}(hx:x<4294967296)(hy:y<4294967296):bits .xor .u32 (x:Int) (y:Int)=((x ^^^ y:Nat):Int):=u32_xor_nat x y hx hy
theorem xor_poly {y:Nat}(hy:y<4294967296):bits .xor .u32 ((y:Int) / 2) 3988292384=((y / 2 ^^^ poly:Nat):Int):=u32_xor_nat (y / 2) 3988292384 (by omega) (by omega)
theorem xor_inv {x:Nat}(hx:x<4294967296):bits .xor .u32 IntKind.u32.max (x:Int)=((x ^^^ 4294967295:Nat):Int):=by
  have e:IntKind.u32.max=((4294967295:Nat):Int):=rfl
  rw[e,u32_xor_nat _ _ (by omega) hx,Nat.xor_comm]
theorem refSum_gives (w:World)(B:Nat)(A:Option Addr)(c:Nat)(l:List UInt8)(h:InB w B A c l):Calls Tryz.prog 71 #[.slice A l.length c] w fun e w'=>e = .returned (.int .u32 (sumL l:Int))/\w=w':=by
  have hle:=h.le
  have hmax:=h.max
  go_enter Tryz.func71,Tryz.ntmps71
  go_wp2_with fail
  go_loop [3,4] (fun s i=>∃k x:Nat,k<=l.length/\i = .int .i64 k/\x<4294967296/\s = .int .u32 x/\Hid (x=sumS 4294967295 (l.take k))) (fun _ i=>l.length - (intOf i).toNat)
  case atStart=>exact⟨0,4294967295,by omega,rfl,by omega,rfl,Lib.hid rfl⟩
  case round =>
    obtain⟨k,x,hk,rfl,hx,rfl,hX⟩:=hrel
    by_cases hlt:k<l.length
    · obtain⟨g,o,rfl,_,hc⟩:=h.lies (by omega)
      have hck:=hc k hlt
      clear hc
      have hbd:=(l[k]).toNat_lt
      have hxor:=xor_u32 hx (show l[k].toNat<4294967296 from by omega)
      have hy:=xor_lt32 hx (show l[k].toNat<4294967296 from by omega)
      have hst:stepC x l[k]=shN 8 (x ^^^ l[k].toNat):=rfl
      have hS:=Lib.hid hst
      clear hst
      go_wp2_with fail
      go_loop [3,5] (fun s i=>∃j y:Nat,j<=8/\i = .int .i64 j/\y<4294967296/\s = .int .u32 y/\Hid (shN (8 - j) y=stepC x l[k])) (fun _ i=>8 - (intOf i).toNat)
      case atStart=>exact⟨0,_,by omega,rfl,hy,rfl,Lib.hid rfl⟩
      case round =>
        obtain⟨j,y,hj,rfl,hyl,rfl,hY⟩:=hrel
        clear hy hxor
        by_cases hj8:j<8
        · have hn:Hid (shN (8 - (j+1)) (sh y)=stepC x l[k]):=by
            have:=hY.out
            rw[show 8 - j=(8 - (j+1))+1 from by omega] at this
            exact Lib.hid this
          have hlt2:=sh_lt hyl
          clear hY
          by_cases hod:y % 2=1
          · have hs:Hid (sh y=(y / 2) ^^^ poly):=Lib.hid (sh_odd hod)
            have hb:(((y:Int) % 2) == 1)=true:=by rw[beq_iff_eq];omega
            have hx2:=xor_poly hyl
            clear hod
            go_wp2_with fail
            refine⟨⟨j+1,sh y,by omega,by go_num,hlt2,by rw[hs.out],hn⟩,by simp[intOf];omega⟩
          · have hs:Hid (sh y=y / 2):=Lib.hid (sh_even hod)
            have hb:(((y:Int) % 2) == 1)=false:=by rw[beq_eq_false_iff_ne];omega
            clear hod
            go_wp2_with fail
            refine⟨⟨j+1,sh y,by omega,by go_num,hlt2,by rw[hs.out];go_num,hn⟩,by simp[intOf];omega⟩
        · have hn:Hid (y=stepC x l[k]):=by
            have:=hY.out
            rw[show 8 - j=0 from by omega] at this
            exact Lib.hid this
          clear hY
          go_wp2_with fail
          refine⟨⟨k+1,y,by omega,by go_num,hyl,rfl,?_⟩,by simp[intOf];omega⟩
          have:y=sumS 4294967295 (l.take (k+1)):=by
            rw[hn.out,hX.out,List.take_succ_eq_append_getElem hlt,sumS_append]
            rfl
          exact Lib.hid this
    · have hinv:=xor_inv hx
      go_wp2_with fail
      go_ret
      have:x ^^^ 4294967295=sumL l:=by
        rw[hX.out,List.take_of_length_le (by omega)]
        rfl
      exact⟨by rw[<-this];rfl,rfl⟩
structure TabTo (cs0:Array Value)(k:Nat)(cs:Array Value):Prop where
  size:cs.size=260
  c0:cs[0]? = cs0[0]?
  c1:cs[1]? = cs0[1]?
  c2:cs[2]? = cs0[2]?
  many:cs[3]? = some (.int .i64 (k:Int))
  to:∀j,j<k->cs[4+j]? = some (.int .u32 (shN 8 j:Int))
theorem TabTo.next {cs0 cs:Array Value}{k:Nat}(h:TabTo cs0 k cs)(hk:k<256) :
    TabTo cs0 (k+1) ((cs.setIfInBounds (4+k) (.int .u32 (shN 8 k:Int))).setIfInBounds 3 (.int .i64 ((k:Int)+1))):=by
  have hs:=h.size
  refine⟨by simp[hs],?_,?_,?_,?_,?_⟩
  · rw[Array.getElem?_setIfInBounds,if_neg (by omega),Array.getElem?_setIfInBounds,if_neg (by omega)];exact h.c0
  · rw[Array.getElem?_setIfInBounds,if_neg (by omega),Array.getElem?_setIfInBounds,if_neg (by omega)];exact h.c1
  · rw[Array.getElem?_setIfInBounds,if_neg (by omega),Array.getElem?_setIfInBounds,if_neg (by omega)];exact h.c2
  · simp[hs]
  · intro j hj
    rw[Array.getElem?_setIfInBounds,if_neg (by omega),Array.getElem?_setIfInBounds]
    by_cases e:j=k
    · subst e;rw[if_pos rfl,if_pos (by omega)]
    · rw[if_neg (by omega)];exact h.to j (by omega)
theorem and_one {y:Nat}(hy:y<4294967296):bits .and .u32 (y:Int) 1=((y % 2:Nat):Int):=by
  have:=u32_and_nat y 1 hy (by omega)
  rw[Nat.and_one_is_mod] at this
  exact this
theorem make_gives (b:Nat)(cs0:Array Value)(w:World)(hb:BlkIs w b 302 cs0)(h0:TabTo cs0 0 cs0) :
    Calls Tryz.prog 208 #[.pointer (some ⟨b,0,none⟩)] w fun e w'=>e = .returned (.tuple #[])/\(∃cs,BlkIs w' b 302 cs/\TabTo cs0 256 cs)/\w.grownBy w' (some b):=by
  go_enter Tryz.func208,Tryz.ntmps208
  go_wp2_with fail
  go_loopw [5] (fun i wr=>∃(k:Nat) (cs:Array Value),k<=256/\i = .int .i64 k/\Hid (BlkIs wr b 302 cs/\TabTo cs0 k cs)/\w.grownBy wr (some b)) (fun i _=>256 - (intOf i).toNat)
  case atStart=>exact⟨0,cs0,by omega,rfl,Lib.hid ⟨hb,h0⟩,World.grownBy.refl _ _⟩
  case round =>
    obtain⟨k,cs,hk,rfl,hT,hg⟩:=hrel
    by_cases hlt:k<256
    · have hsz:=hT.out.2.size
      have hgetold:∃u,cs[4+k]? = some u:=⟨cs[4+k]'(by omega),Array.getElem?_eq_getElem (by omega)⟩
      obtain⟨u,hu⟩:=hgetold
      have hc4:wr.cell? ⟨b,4+k,none⟩=some u:=(hT.out.1.cell _).trans hu
      have hf4:wr.frozen? ⟨b,4+k,none⟩=false:=hT.out.1.free _
      clear hsz hu
      go_wp2_with fail
      go_loop [3,10] (fun s i=>∃j y:Nat,j<=8/\i = .int .i64 j/\y<4294967296/\s = .int .u32 y/\Hid (shN (8 - j) y=shN 8 k)) (fun _ i=>8 - (intOf i).toNat)
      case atStart=>exact⟨0,k,by omega,rfl,by omega,rfl,Lib.hid rfl⟩
      case round =>
        obtain⟨j,y,hj,rfl,hyl,rfl,hY⟩:=hrel
        by_cases hj8:j<8
        · have hn:Hid (shN (8 - (j+1)) (sh y)=shN 8 k):=by
            have:=hY.out
            rw[show 8 - j=(8 - (j+1))+1 from by omega] at this
            exact Lib.hid this
          have hlt2:=sh_lt hyl
          have hand:=and_one hyl
          clear hY
          by_cases hod:y % 2=1
          · have hs:Hid (sh y=(y / 2) ^^^ poly):=Lib.hid (sh_odd hod)
            have hb1:((((y % 2:Nat):Int)) == 1)=true:=by rw[beq_iff_eq];omega
            have hx2:=xor_poly hyl
            clear hod
            go_wp2_with fail
            exact⟨⟨j+1,sh y,by omega,by go_num,hlt2,by rw[hs.out],hn⟩,by simp[intOf];omega⟩
          · have hs:Hid (sh y=y / 2):=Lib.hid (sh_even hod)
            have hb1:((((y % 2:Nat):Int)) == 1)=false:=by rw[beq_eq_false_iff_ne];omega
            clear hod
            go_wp2_with fail
            exact⟨⟨j+1,sh y,by omega,by go_num,hlt2,by rw[hs.out];go_num,hn⟩,by simp[intOf];omega⟩
        · have hn:Hid (y=shN 8 k):=by
            have:=hY.out
            rw[show 8 - j=0 from by omega] at this
            exact Lib.hid this
          clear hY
          have hb4:=hT.out.1.set (4+k) (.int .u32 (y:Int))
          have hc3:(wr.setCell ⟨b,4+k,none⟩ (.int .u32 (y:Int))).cell? ⟨b,3,none⟩=some (.int .i64 (k:Int)):=by
            rw[hb4.cell,Array.getElem?_setIfInBounds,if_neg (by omega)]
            exact hT.out.2.many
          have hf3:=hb4.free 3
          go_wp2_with (go_at_call 22;refine(int64_add b 3 k (by omega) _ hc3 hf3).mono ?_;rintro e w' ⟨rfl,rfl⟩)
          refine⟨⟨k+1,_,by omega,by go_num,Lib.hid ⟨hb4.set 3 _,?_⟩,grownBy_trans hg (grownBy_trans (grownBy_set _ _ _ _) (grownBy_set _ _ _ _))⟩,by simp[intOf];omega⟩
          rw[hn.out]
          exact hT.out.2.next hlt
    · obtain rfl:k=256:=by omega
      go_wp2_with fail
      go_end0
      exact⟨rfl,⟨cs,hT.out⟩,hg⟩
structure TabOk (d:Nat)(cs:Array Value):Prop where
  size:cs.size=260
  c0:cs[0]? = some (.int .u32 (d:Int))
  c1:cs[1]? = some (.int .i32 0)
  dd:d=0∨d=1
  many:d=0->cs[3]? = some (.int .i64 0)
  to:d=1->∀j,j<256->cs[4+j]? = some (.int .u32 (shN 8 j:Int))
theorem doSlow_gives (b:Nat)(cs0:Array Value)(w:World)(hb:BlkIs w b 302 cs0)(h0:TabOk 0 cs0) :
    Calls Tryz.prog 213 #[.pointer (some ⟨b,0,none⟩),.func (.func 208) #[.pointer (some ⟨b,0,none⟩)] #[]] w fun e w' =>
      e = .returned (.tuple #[])/\(∃cs,BlkIs w' b 302 cs/\TabOk 1 cs)/\w.grownBy w' (some b):=by
  have hc1:w.cell? ⟨b,1,none⟩=some (.int .i32 0):=(hb.cell 1).trans h0.c1
  have hf1:=hb.free 1
  have hb1:=hb.set 1 (.int .i32 1)
  have hc0:(w.setCell ⟨b,1,none⟩ (.int .i32 1)).cell? ⟨b,0,none⟩=some (.int .u32 ((0:Nat):Int)):=by
    rw[hb1.cell,Array.getElem?_setIfInBounds,if_neg (by omega)]
    exact h0.c0
  have hsz:=h0.size
  have ht0:TabTo (cs0.setIfInBounds 1 (.int .i32 1)) 0 (cs0.setIfInBounds 1 (.int .i32 1)):=⟨by simp[hsz],rfl,rfl,rfl,by
    rw[Array.getElem?_setIfInBounds,if_neg (by omega)]
    exact h0.many rfl,fun j hj=>by omega⟩
  have hM:=make_gives b _ _ hb1 ht0
  have hbd:(((0:Nat):Int) != 0)=false:=by decide
  clear ht0 hb1
  go_enter_defers Tryz.func213,Tryz.ntmps213
  go_wp2_with (first
    | (go_at_call 216;refine(lock_free ⟨b,1,none⟩ _ hc1 hf1).mono ?_;rintro e w' ⟨rfl,rfl⟩)
    | (go_at_call 212;refine(bool_load ⟨b,0,none⟩ 0 _ hc0).mono ?_;rintro e w' ⟨rfl,rfl⟩)
    | (go_at_call 208;refine hM.mono ?_;rintro e w1 ⟨rfl,⟨cs1,hb1,ht1⟩,hg1⟩))
  have hs1:=ht1.size
  have e0:cs1[0]? = some (.int .u32 ((0:Nat):Int)):=by rw[ht1.c0,Array.getElem?_setIfInBounds,if_neg (by omega)];exact h0.c0
  have e1:cs1[1]? = some (.int .i32 1):=by rw[ht1.c1,Array.getElem?_setIfInBounds,if_pos rfl,if_pos (by omega)]
  have hb2:=hb1.drew.set 0 (.int .u32 1)
  have hb3:=hb2.set 1 (.int .i32 0)
  refine leaves_cons (f:=218) (args:=#[.pointer (some ⟨b,0,none⟩),.bool true]) (by simp) (by simp[go_sem]) ?_
  refine(store_deferred ⟨b,0,none⟩ (.int .u32 0) .returning _ ((hb1.cell 0).trans e0) (hb1.free 0)).mono ?_
  rintro e u' w'' ⟨rfl,rfl,rfl⟩
  refine leaves_cons (f:=217) (args:=#[.pointer (some ⟨b,1,none⟩)]) (by simp[settle]) (by simp[go_sem]) ?_
  refine(unlock_deferred ⟨b,1,none⟩ _ _ (by rw[hb2.cell,Array.getElem?_setIfInBounds,if_neg (by omega)];exact e1) (hb2.free 1)).mono ?_
  rintro e u' w'' ⟨rfl,rfl,rfl⟩
  have hfin:(∃cs,BlkIs ((w1.drew.setCell ⟨b,0,none⟩ (.int .u32 1)).setCell ⟨b,1,none⟩ (.int .i32 0)) b 302 cs/\TabOk 1 cs)/\w.grownBy ((w1.drew.setCell ⟨b,0,none⟩ (.int .u32 1)).setCell ⟨b,1,none⟩ (.int .i32 0)) (some b):=by
    refine⟨⟨_,hb3,⟨by simp[hs1],?_,?_,.inr rfl,fun h=>by omega,fun _ j hj => ?_⟩⟩,?_⟩
    · rw[Array.getElem?_setIfInBounds,if_neg (by omega),Array.getElem?_setIfInBounds,if_pos rfl,if_pos (by omega)];rfl
    · rw[Array.getElem?_setIfInBounds,if_pos rfl,if_pos (by simp;omega)]
    · rw[Array.getElem?_setIfInBounds,if_neg (by omega),Array.getElem?_setIfInBounds,if_neg (by omega)];exact ht1.to j hj
    · exact grownBy_trans (grownBy_set _ _ _ _) (grownBy_trans hg1 (grownBy_trans (grownBy_drew _ _) (grownBy_trans (grownBy_set _ _ _ _) (grownBy_set _ _ _ _))))
  have hH:=Lib.hid hfin
  clear hfin
  simp[Leaves,settle,results,Tryz.results213]
  exact hH.out
theorem once_gives (b d:Nat)(cs0:Array Value)(w:World)(hb:BlkIs w b 302 cs0)(h0:TabOk d cs0) :
    Calls Tryz.prog 207 #[.pointer (some ⟨b,0,none⟩),.func (.func 208) #[.pointer (some ⟨b,0,none⟩)] #[]] w fun e w' =>
      e = .returned (.tuple #[])/\(∃cs,BlkIs w' b 302 cs/\TabOk 1 cs)/\w.grownBy w' (some b):=by
  have hc0:w.cell? ⟨b,0,none⟩=some (.int .u32 (d:Int)):=(hb.cell 0).trans h0.c0
  rcases h0.dd with rfl|rfl
  · have hM:=doSlow_gives b _ _ hb h0
    have hbd:(((0:Nat):Int) != 0)=false:=by decide
    go_enter Tryz.func207,Tryz.ntmps207
    go_wp2_with (first
      | (go_at_call 212;refine(bool_load ⟨b,0,none⟩ 0 _ hc0).mono ?_;rintro e w' ⟨rfl,rfl⟩)
      | (go_at_call 213;refine hM.mono ?_;rintro e w1 ⟨rfl,hT,hg1⟩))
    go_end0
    exact⟨rfl,hT,hg1⟩
  · have hbd:(((1:Nat):Int) != 0)=true:=by decide
    go_enter Tryz.func207,Tryz.ntmps207
    go_wp2_with (go_at_call 212;refine(bool_load ⟨b,0,none⟩ 1 _ hc0).mono ?_;rintro e w' ⟨rfl,rfl⟩)
    go_end0
    exact⟨rfl,⟨cs0,hb,h0⟩,World.grownBy.refl _ _⟩
theorem step_gives (b d:Nat)(cs0:Array Value)(s:Nat)(c:UInt8)(hs:s<4294967296)(w:World)(hb:BlkIs w b 302 cs0)(h0:TabOk d cs0) :
    Calls Tryz.prog 202 #[.pointer (some ⟨b,0,none⟩),.int .u32 s,.int .u8 (c.toNat:Int)] w fun e w' =>
      e = .returned (.int .u32 (stepC s c:Int))/\(∃cs,BlkIs w' b 302 cs/\TabOk 1 cs)/\w.grownBy w' (some b):=by
  have hO:=once_gives b d cs0 w hb h0
  have hmf:∀(fn:Fn) (first cap:Array Value) (w:World),(Instr.makeFunc fn first cap).run Tryz.prog w = .ok (.func fn first cap) w:=fun _ _ _ _=>rfl
  have hcl:=c.toNat_lt
  have hxl:(s % 256) ^^^ c.toNat<256:=by
    have:=Nat.xor_lt_two_pow (n:=8) (show s % 256<2 ^ 8 from by omega) (show c.toNat<2 ^ 8 from by omega)
    simpa using this
  have hx8:bits .xor .u8 ((s:Int) % 256) (c.toNat:Int)=(((s % 256) ^^^ c.toNat:Nat):Int):=by
    have:=u8_xor_nat (s % 256) c.toNat (by omega) (by omega)
    rw[<-this]
    congr 1
  have hst:=stepC_table s c
  generalize hx:(s % 256) ^^^ c.toNat=x at *
  have hX:=Lib.hid hx
  clear hx
  have hx32:bits .xor .u32 ((s:Int) / 256) (shN 8 x:Int)=(stepC s c:Int):=by
    have:=u32_xor_nat (s / 256) (shN 8 x) (by omega) (shN_lt 8 (by omega))
    rw[hst,<-this]
    congr 1
  clear hst
  go_enter Tryz.func202,Tryz.ntmps202
  go_wp2_with (go_at_call 207;refine hO.mono ?_;clear hO;rintro e w1 ⟨rfl,⟨cs1,hb1,h1⟩,hg1⟩;have hcx:=(hb1.cell (4+x)).trans (h1.to rfl x hxl))
  go_ret
  exact⟨rfl,⟨cs1,hb1,h1⟩,hg1⟩
theorem BlkIs.kept {W W':World}{row:Option Nat}{g:Nat}{t:TypeId}{cs:Array Value}(h:BlkIs W g t cs)(hg:W.grownBy W' row)(hr:∀r,row=some r->∃o:Obj,W.heap[r]? = some o/\o.isCells=false):BlkIs W' g t cs :=
  h.grown hg (fun e=>by
    obtain⟨o,ho,hc⟩:=hr g e.symm
    rw[h] at ho
    injection ho with ho
    subst ho
    cases hc)
theorem BlkIs.own (g:Nat)(t:TypeId){β : Type}(cs : β -> Array Value):Own (fun (s : β) W=>BlkIs W g t (cs s)):=fun _ _ _ _ hs hg hr=>hs.kept hg hr
theorem BlkIs.boxed {W:World}{g:Nat}{t:TypeId}{v:Value}(h:BlkIs W g t #[v]):W.cell? ⟨g,0,none⟩=some v:=by rw[h.cell];rfl
theorem BlkIs.others {W W':World}{b:Nat}{t:TypeId}{cs:Array Value}(h:BlkIs W b t cs)(hg:W.grownBy W' (some b)):KeepsOthers W W' :=
  KeepsOthers.of_grownBy hg (fun j o e ho=>by
    injection e with e
    subst e
    rw[h] at ho
    injection ho with ho
    subst ho
    rfl)
end Go.Proofs.YtmllnpjldmdaeaaGreat
namespace Go.Proofs.YtmllnpjldmdaeaaGreat
open Go Go.RowKit Lou Go.Shelf
attribute [local go_sem] Oper.semAt_some
abbrev Piece (w0:World)(n₀:Nat):={ x:(Option Addr×Nat)×List UInt8 // InB w0 n₀ x.1.1 x.1.2 x.2 }
def Piece.val {w0:World}{n₀:Nat}(p:Piece w0 n₀):Value:=.slice p.1.1.1 p.1.2.length p.1.1.2
def Piece.l {w0:World}{n₀:Nat}(p:Piece w0 n₀):List UInt8:=p.1.2
structure InLL (w:World)(B:Nat)(A:Option Addr)(c:Nat)(ls:List (Piece w B)):Prop where
  le:ls.length<=c
  max:c<=9223372036854775807
  lies:0<ls.length->∃g o,A=some ⟨g,o,none⟩/\g<B/\∀j (h:j<ls.length),w.cell? ⟨g,o+j,none⟩=some ls[j].val
section
variable {w0:World}{n₀:Nat}
theorem values1_some (n:Nat)(hn1:1<=n)(l Bs b off cap:Nat)(zs:List (Piece w0 n₀))(hmax:zs.length<=9223372036854775807)(hb:b<n₀)(J Jx:List (Piece w0 n₀)->World->Prop)
    (hY:∀pre x W,J pre W->pre.length<zs.length->YieldAt Fence.wide (n - 1) Tryz.prog l #[x.val] W fun e W' =>
      (e = .returned (.bool true)/\J (pre++[x]) W'/\Below n₀ W W')∨(e = .returned (.bool false)/\Jx (pre++[x]) W'))
    (W:World) (hBs:W.cell? ⟨Bs,0,none⟩=some (.slice (some ⟨b,off,none⟩) zs.length cap)) (hc:∀j (h:j<zs.length),W.cell? ⟨b,off+j,none⟩=some zs[j].val) (h0:J [] W) :
    CallsIn Fence.wide n Tryz.prog 206 #[.func (.yield l) #[] #[],.pointer (some ⟨Bs,0,none⟩)] W fun e W'=>(∃v,e = .returned v) /\
      ((∃ys,ys=zs/\J ys W')∨(∃pre,pre <+: zs/\Jx pre W')):=by
  refine callsIn_of_wp Tryz.func206 rfl trivial ?_ rfl
  simp only[Tryz.ntmps206,List.size_toArray,List.length_cons,List.length_nil,Nat.reduceAdd,Nat.reduceSub,Array.replicate_succ,Array.replicate_zero,List.push_toArray,List.append_toArray,List.nil_append,List.cons_append]
  gi_wp2
  gi_loopw [7] (fun i wr=>∃k:Nat,k<=zs.length/\i = .int .i64 k/\J (zs.take k) wr/\Below n₀ W wr)
    (fun i _=>zs.length - (intOf i).toNat)
  case atStart=>exact⟨0,Nat.zero_le _,rfl,by simpa using h0,Below.refl _ _⟩
  case round =>
    obtain⟨k,hk,rfl,hJs,hnx⟩:=hrel
    by_cases hlt:k<zs.length
    · have hcx:wr.cell? ⟨b,off+k,none⟩=some zs[k].val:=(hnx.cell (p:=⟨b,off+k,none⟩) hb).trans (hc k hlt)
      obtain⟨fn,tmps,assign,body,hy,hR⟩:=hY _ zs[k] wr hJs (by simp;omega)
      have htk:zs.take k++[zs[k]]=zs.take (k+1):=(List.take_succ_eq_append_getElem hlt).symm
      have hTk:=Lib.hid htk
      clear htk
      have hval:zs[k].val = .slice zs[k].1.1.1 zs[k].1.2.length zs[k].1.1.2:=rfl
      rw[hval] at hcx hy
      clear hval hc
      gi_wp2
      refine hR.mono ?_
      rintro e W3 (⟨rfl,hJ3,hk3⟩|⟨rfl,hJx3⟩)
      · gi_wp2
        go_roundw
        case rel=>exact⟨k+1,by omega,by simp,by rw[<-hTk.out];exact hJ3,hnx.trans hk3⟩
        case measure=>simp[intOf];omega
      · gi_wp2
        refine bodyPost_ret (results_none rfl _ _ _) rfl ?_
        exact⟨⟨_,rfl⟩,.inr ⟨_,by rw[hTk.out];exact List.take_prefix _ _,hJx3⟩⟩
    · obtain rfl:k=zs.length:=by omega
      gi_wp2
      go_end0
      exact⟨⟨_,rfl⟩,.inl ⟨_,List.take_length,hJs⟩⟩
theorem values1_empty (n:Nat)(l Bs:Nat)(A:Option Addr)(cap:Nat)(J:List (Piece w0 n₀)->World->Prop)(W:World)(hBs:W.cell? ⟨Bs,0,none⟩=some (.slice A 0 cap))(h0:J [] W) :
    CallsIn Fence.wide n Tryz.prog 206 #[.func (.yield l) #[] #[],.pointer (some ⟨Bs,0,none⟩)] W fun e W'=>(∃v,e = .returned v)/\J [] W':=by
  refine callsIn_of_wp Tryz.func206 rfl trivial ?_ rfl
  simp only[Tryz.ntmps206,List.size_toArray,List.length_cons,List.length_nil,Nat.reduceAdd,Nat.reduceSub,Array.replicate_succ,Array.replicate_zero,List.push_toArray,List.append_toArray,List.nil_append,List.cons_append]
  gi_wp2
  gi_loopw [7] (fun i wr=>i = .int .i64 0/\J [] wr) (fun _ _=>0)
  case atStart=>exact⟨rfl,h0⟩
  case round =>
    obtain⟨rfl,hJs⟩:=hrel
    gi_wp2
    go_end0
    exact⟨⟨_,rfl⟩,hJs⟩
theorem values_in (n:Nat)(a:Option Addr)(len cap:Nat)(w:World) :
    CallsIn Fence.wide n Tryz.prog 201 #[.slice a len cap] w fun e w'=>e = .returned (.func (.func 206) #[] #[.pointer (some ⟨w.heap.size,0,none⟩)])/\w.alloc (.cells #[.slice a len cap] 259)=w':=by
  refine callsIn_of_wp Tryz.func201 rfl trivial ?_ rfl
  simp only[Tryz.ntmps201,List.size_toArray,List.length_cons,List.length_nil,Nat.reduceAdd,Nat.reduceSub,Array.replicate_succ,Array.replicate_zero,List.push_toArray,List.append_toArray,List.nil_append,List.cons_append]
  gi_wp2
  go_ret
  exact⟨rfl,rfl⟩
theorem values_stops (n:Nat)(hn1:1<=n)(Bs:Nat)(A:Option Addr)(c:Nat)(zs:List (Piece w0 n₀))(hI:InLL w0 n₀ A c zs)(w:World)(hb0:Below n₀ w0 w)(hBs:Bs<w.heap.size)(hn₀:n₀<=w.heap.size)
    (hc:w.cell? ⟨Bs,0,none⟩=some (.slice A zs.length c)) :
    SeqStopsK Fence.wide n Tryz.prog 206 #[.pointer (some ⟨Bs,0,none⟩)] (fun x:Piece w0 n₀=>#[x.val]) (Below n₀) (fun ys=>ys=zs) (fun pre=>pre <+: zs) zs.length w:=fun l J Jx W hW _ _ hY h0=>by
  have hc':=(hW.cell (p:=⟨Bs,0,none⟩) hBs).trans hc
  have hle:=hI.le
  have hmx:=hI.max
  rcases Nat.eq_zero_or_pos zs.length with hz|hz
  · obtain rfl:=List.eq_nil_of_length_eq_zero hz
    exact(values1_empty n l Bs A c J W hc' h0).mono fun e W' ⟨he,hj⟩=>⟨he,.inl ⟨_,rfl,hj⟩⟩
  · obtain⟨g,o,rfl,hg,hcs⟩:=hI.lies hz
    exact values1_some n hn1 l Bs g o c zs (by omega) hg J Jx hY W hc' (fun j hj=>((hb0.trans (hW.mono hn₀)).cell hg).trans (hcs j hj)) h0
end
theorem tab_zero:TabOk 0 Tryz.zeroCells302 :=
  ⟨by kernel_rfl,by kernel_rfl,by kernel_rfl,.inl rfl,fun _=>by kernel_rfl,fun h=>by omega⟩
theorem sum_in (n:Nat)(hn:4<=n)(w:World)(A:Option Addr)(c:Nat)(zs:List (Piece w w.heap.size))(hI:InLL w w.heap.size A c zs) :
    CallsIn Fence.wide n Tryz.prog 180 #[.slice A zs.length c] w fun e W'=>e = .returned (.int .u32 (sumL (zs.map Piece.l).flatten:Int))/\Below w.heap.size w W':=by
  have h1:1<=n:=by omega
  refine callsIn_of_wp_marks Tryz.func180 rfl trivial ?_ rfl
  simp only[Tryz.ntmps180,List.size_toArray,List.length_cons,List.length_nil,Nat.reduceAdd,Nat.reduceSub,Array.replicate_succ,Array.replicate_zero,List.push_toArray,List.append_toArray,List.nil_append,List.cons_append]
  gi_wp2_with (refine⟨trivial,?_⟩;gi_at_call 201;refine(values_in (n - 1) _ _ _ _).mono ?_;rintro e w' ⟨rfl,rfl⟩)
  have b0:BlkIs ((((w.alloc (.cells Tryz.zeroCells302 302)).alloc (.cells #[.pointer (some ⟨w.heap.size,0,none⟩)] 290)).alloc (.cells #[.int .u32 4294967295] 150)).alloc (.cells #[.slice A zs.length c] 259)) w.heap.size 302 Tryz.zeroCells302:=(((BlkIs.new _ _ _).alloc _).alloc _).alloc _
  have b1:BlkIs ((((w.alloc (.cells Tryz.zeroCells302 302)).alloc (.cells #[.pointer (some ⟨w.heap.size,0,none⟩)] 290)).alloc (.cells #[.int .u32 4294967295] 150)).alloc (.cells #[.slice A zs.length c] 259)) (w.heap.size+1) 290 #[.pointer (some ⟨w.heap.size,0,none⟩)]:=by
    have:=((BlkIs.new (w.alloc (.cells Tryz.zeroCells302 302)) 290 #[.pointer (some ⟨w.heap.size,0,none⟩)]).alloc (.cells #[.int .u32 4294967295] 150)).alloc (.cells #[.slice A zs.length c] 259)
    rwa [World.size_alloc] at this
  have b2:BlkIs ((((w.alloc (.cells Tryz.zeroCells302 302)).alloc (.cells #[.pointer (some ⟨w.heap.size,0,none⟩)] 290)).alloc (.cells #[.int .u32 4294967295] 150)).alloc (.cells #[.slice A zs.length c] 259)) (w.heap.size+1+1) 150 #[.int .u32 4294967295]:=by
    have:=(BlkIs.new ((w.alloc (.cells Tryz.zeroCells302 302)).alloc (.cells #[.pointer (some ⟨w.heap.size,0,none⟩)] 290)) 150 #[.int .u32 4294967295]).alloc (.cells #[.slice A zs.length c] 259)
    rwa [World.size_alloc,World.size_alloc] at this
  have b3:((((w.alloc (.cells Tryz.zeroCells302 302)).alloc (.cells #[.pointer (some ⟨w.heap.size,0,none⟩)] 290)).alloc (.cells #[.int .u32 4294967295] 150)).alloc (.cells #[.slice A zs.length c] 259)).cell? ⟨w.heap.size+1+1+1,0,none⟩=some (.slice A zs.length c):=by
    have:=new_cell (((w.alloc (.cells Tryz.zeroCells302 302)).alloc (.cells #[.pointer (some ⟨w.heap.size,0,none⟩)] 290)).alloc (.cells #[.int .u32 4294967295] 150)) (.slice A zs.length c) 259
    rwa [World.size_alloc,World.size_alloc,World.size_alloc] at this
  have hB0:Below w.heap.size w ((((w.alloc (.cells Tryz.zeroCells302 302)).alloc (.cells #[.pointer (some ⟨w.heap.size,0,none⟩)] 290)).alloc (.cells #[.int .u32 4294967295] 150)).alloc (.cells #[.slice A zs.length c] 259)) :=
    ((((Below.refl _ w).alloc (Nat.le_refl _) _).alloc (by simp) _).alloc (by simp;omega) _).alloc (by simp;omega) _
  have hsz:((((w.alloc (.cells Tryz.zeroCells302 302)).alloc (.cells #[.pointer (some ⟨w.heap.size,0,none⟩)] 290)).alloc (.cells #[.int .u32 4294967295] 150)).alloc (.cells #[.slice A zs.length c] 259)).heap.size=w.heap.size+4:=by simp
  generalize hW0:((((w.alloc (.cells Tryz.zeroCells302 302)).alloc (.cells #[.pointer (some ⟨w.heap.size,0,none⟩)] 290)).alloc (.cells #[.int .u32 4294967295] 150)).alloc (.cells #[.slice A zs.length c] 259))=W0 at *
  clear hW0
  refine wpIn_rangeFunc_ownG rfl h1 (gf:=206) (lb:=#[.pointer (some ⟨w.heap.size+1+1+1,0,none⟩)]) rfl trivial (enters_of Tryz.func206 (by kernel_rfl) rfl)
    (values_stops (n - 1) (by omega) (w.heap.size+1+1+1) A c zs hI W0 hB0 (by omega) (by omega) b3) belowK_t (belowK_b (by omega)) (Below.refl _ _) (fun _=>rfl)
    (fun pre W=>((∃d cs,BlkIs W w.heap.size 302 cs/\TabOk d cs)/\BlkIs W (w.heap.size+1) 290 #[.pointer (some ⟨w.heap.size,0,none⟩)]/\BlkIs W (w.heap.size+1+1) 150 #[.int .u32 (sumS 4294967295 (pre.map Piece.l).flatten:Int)])/\Below w.heap.size w W)
    (fun _ _ _=>False)
    (OwnFrom.and (Own.from (fun s A B row hs hg hr=>⟨by obtain⟨d,cs,h1,h2⟩:=hs.1;exact⟨d,cs,h1.kept hg hr,h2⟩,hs.2.1.kept hg hr,hs.2.2.kept hg hr⟩) _) (ownFrom_below (Nat.le_refl _) (by omega)))
    (fun _ _ _ _ _ hs _ _=>hs)
    ⟨⟨⟨0,_,b0,tab_zero⟩,b1,b2⟩,hB0⟩
    (fun x => { tmps:=#[.slice A zs.length c,undef,.int .u32 0,.pointer (some ⟨w.heap.size+1,0,none⟩),.pointer (some ⟨w.heap.size+1+1,0,none⟩),.slice x.1.1.1 x.1.2.length x.1.1.2,undef,undef,.agg Tryz.zeroCells302,.pointer (some ⟨w.heap.size,0,none⟩),.slice A zs.length c,.func (.func 206) #[] #[.pointer (some ⟨w.heap.size+1+1+1,0,none⟩)],.slice x.1.1.1 x.1.2.length x.1.1.2,undef,undef,undef,undef,undef,undef,undef,undef,undef,undef,undef,undef,undef],defers:=[] }) ?assign ?body ?done ?stop
  case assign =>
    intro l x W K hK
    have hv:x.val = .slice x.1.1.1 x.1.2.length x.1.1.2:=rfl
    dsimp only[hv]
    gi_wp2
    exact hK
  case body =>
    rintro l pre x W ⟨⟨⟨d,cs,hT,hOk⟩,hP,hS⟩,hB⟩ _
    have hx:=x.2
    have hxl:=hx.le
    have hxm:=hx.max
    have h11:1<=n - 1 - 1:=by omega
    have hF:(pre++[x]).map Piece.l=pre.map Piece.l++[x.1.2]:=by simp[Piece.l]
    have hFl:sumS 4294967295 ((pre++[x]).map Piece.l).flatten=sumS (sumS 4294967295 (pre.map Piece.l).flatten) x.1.2:=by
      rw[hF,List.flatten_append,sumS_append];simp
    have hs32:=sumS_lt (s:=4294967295) (by omega) (pre.map Piece.l).flatten
    have HF:=Lib.hid hFl
    clear hF hFl
    generalize sumS 4294967295 (pre.map Piece.l).flatten=s0 at *
    have hz:=hsz
    gi_wp2_with fail
    gi_loopw [15] (fun i wr=>∃k:Nat,k<=x.1.2.length/\i = .int .i64 k/\(∃d cs,BlkIs wr w.heap.size 302 cs/\TabOk d cs)/\BlkIs wr (w.heap.size+1) 290 #[.pointer (some ⟨w.heap.size,0,none⟩)]/\BlkIs wr (w.heap.size+1+1) 150 #[.int .u32 (sumS s0 (x.1.2.take k):Int)]/\Below w.heap.size W wr/\KeepsOthers W wr)
      (fun i _=>x.1.2.length - (intOf i).toNat)
    case atStart=>exact⟨0,by omega,rfl,⟨d,cs,hT,hOk⟩,hP,hS,Below.refl _ _,KeepsOthers.refl _⟩
    case round =>
      obtain⟨k,hk,rfl,⟨d,cs,hT,hOk⟩,hP,hS,hBW,hKO⟩:=hrel
      by_cases hlt:k<x.1.2.length
      · obtain⟨g,o,hA,hg,hc⟩:=hx.lies (by omega)
        have hck:wr.cell? ⟨g,o+k,none⟩=some (.int .u8 (x.1.2[k].toNat:Int)):=((hB.trans hBW).cell (p:=⟨g,o+k,none⟩) hg).trans (hc k hlt)
        have hsk:=sumS_lt hs32 (x.1.2.take k)
        have hnext:sumS s0 (x.1.2.take (k+1))=stepC (sumS s0 (x.1.2.take k)) x.1.2[k]:=by
          rw[List.take_succ_eq_append_getElem hlt,sumS_append];rfl
        have HN:=Lib.hid hnext
        clear hnext hc hs32
        generalize sumS s0 (x.1.2.take k)=sk at *
        have hcP:=hP.boxed
        have hcS:=hS.boxed
        rw[hA]
        have HA:=Lib.hid hA
        clear hA
        gi_wp2_with (refine⟨trivial,?_⟩;gi_at_call 202;refine(CallsIn.inRound l (callsIn_wide.2 (step_gives w.heap.size d cs sk x.1.2[k] hsk _ hT hOk))).mono ?_;rintro e w' ⟨rfl,⟨cs1,hb1,h1⟩,hg1⟩;have hS1:=hS.grown hg1 (by simp;omega);have hP1:=hP.grown hg1 (by simp);have hcS1:=hS1.boxed;have hfS1:=hS1.free 0)
        have hBw:Below w.heap.size wr w':=(Below.refl _ _).grown hg1 (by have:=hT.lt;omega) (fun k hk=>by cases hk;exact Nat.le_refl _)
        refine⟨⟨k+1,by omega,by go_num,⟨1,cs1,hb1.other (by simp;omega) _,h1⟩,hP1.other (by simp) _,?_,(hBW.trans hBw).setCell (p:=⟨w.heap.size+1+1,0,none⟩) (by simp;omega) _,(hKO.trans (hT.others hg1)).trans (KeepsOthers.setCell _ _ _)⟩,by simp[intOf];omega⟩
        rw[HN.out]
        exact hS1.set 0 _
      · obtain rfl:k=x.1.2.length:=by omega
        gi_wp2_with fail
        rw[List.take_length] at hS
        refine⟨hKO.from _,hBW,⟨⟨⟨d,cs,hT,hOk⟩,hP,?_⟩,hB.trans hBW⟩⟩
        rw[HF.out]
        exact hS
  case done =>
    rintro D ys W hD rfl ⟨⟨hT,hP,hS⟩,hB⟩ hK
    have hcS:=hS.boxed
    have hs32:=sumS_lt (s:=4294967295) (by omega) (ys.map Piece.l).flatten
    have hinv:=xor_inv hs32
    gi_wp2
    refine⟨by simp,.inl ⟨_,_,rfl,run_takeDeferred hK,?_⟩⟩
    exact⟨_,results_tmp rfl _ _ _,rfl,hB.trans (belowK_b (w:=w) (Nat.le_refl _) W D _ _ (by omega) hK rfl rfl)⟩
  case stop =>
    rintro D c pre W _ _ h _
    exact h.elim
theorem sum_gives (w:World)(A:Option Addr)(c:Nat)(zs:List (Piece w w.heap.size))(hI:InLL w w.heap.size A c zs) :
    Calls Tryz.prog 180 #[.slice A zs.length c] w fun e W'=>e = .returned (.int .u32 (sumL (zs.map Piece.l).flatten:Int))/\Below w.heap.size w W' :=
  callsIn_wide.1 (sum_in 4 (Nat.le_refl _) w A c zs hI)
theorem sum1_gives (W:World)(A:Option Addr)(c:Nat)(l:List UInt8)(hin:InB W W.heap.size A c l) :
    Calls Tryz.prog 180 #[.slice (some ⟨W.heap.size,0,none⟩) 1 1] (W.alloc (.cells #[.slice A l.length c] 44)) fun e W'=>e = .returned (.int .u32 (sumL l:Int))/\Below W.heap.size W W':=by
  have hb:Below W.heap.size W (W.alloc (.cells #[.slice A l.length c] 44)):=(Below.refl _ _).alloc (Nat.le_refl _) _
  have h1:InB (W.alloc (.cells #[.slice A l.length c] 44)) (W.alloc (.cells #[.slice A l.length c] 44)).heap.size A c l:=(hin.below hb).more (by simp)
  have H:=sum_gives (W.alloc (.cells #[.slice A l.length c] 44)) (some ⟨W.heap.size,0,none⟩) 1 [⟨((A,c),l),h1⟩] ⟨by simp,by omega,fun _=>⟨W.heap.size,0,rfl,by simp,fun j hj=>by
    obtain rfl:j=0:=by simpa using hj
    exact new_cell _ _ _⟩⟩
  refine H.mono ?_
  rintro e W' ⟨rfl,hB⟩
  exact⟨by simp[Piece.l],hb.trans (hB.mono (by simp))⟩
theorem sum2_gives (W:World)(A A2:Option Addr)(c c2:Nat)(l l2:List UInt8)(hin:InB W W.heap.size A c l)(hin2:InB W W.heap.size A2 c2 l2) :
    Calls Tryz.prog 180 #[.slice (some ⟨W.heap.size,0,none⟩) 2 2] (W.alloc (.cells #[.slice A l.length c,.slice A2 l2.length c2] 44)) fun e W'=>e = .returned (.int .u32 (sumL (l++l2):Int))/\Below W.heap.size W W':=by
  have hb:Below W.heap.size W (W.alloc (.cells #[.slice A l.length c,.slice A2 l2.length c2] 44)):=(Below.refl _ _).alloc (Nat.le_refl _) _
  have h1:InB (W.alloc (.cells #[.slice A l.length c,.slice A2 l2.length c2] 44)) (W.alloc (.cells #[.slice A l.length c,.slice A2 l2.length c2] 44)).heap.size A c l:=(hin.below hb).more (by simp)
  have h2:InB (W.alloc (.cells #[.slice A l.length c,.slice A2 l2.length c2] 44)) (W.alloc (.cells #[.slice A l.length c,.slice A2 l2.length c2] 44)).heap.size A2 c2 l2:=(hin2.below hb).more (by simp)
  have hbk:=BlkIs.new W 44 #[.slice A l.length c,.slice A2 l2.length c2]
  have H:=sum_gives (W.alloc (.cells #[.slice A l.length c,.slice A2 l2.length c2] 44)) (some ⟨W.heap.size,0,none⟩) 2 [⟨((A,c),l),h1⟩,⟨((A2,c2),l2),h2⟩] ⟨by simp,by omega,fun _=>⟨W.heap.size,0,rfl,by simp,fun j hj=>by
    rw[hbk.cell]
    rcases(show j=0∨j=1 from by simp at hj;omega) with rfl|rfl
    · rfl
    · rfl⟩⟩
  refine H.mono ?_
  rintro e W' ⟨rfl,hB⟩
  exact⟨by simp[Piece.l],hb.trans (hB.mono (by simp))⟩
end Go.Proofs.YtmllnpjldmdaeaaGreat
namespace Go.Proofs.YtmllnpjldmdaeaaGreat
open Go Go.RowKit Lou
theorem BlkIs.setRow {w:World}{g:Nat}{t:TypeId}{cs:Array Value}(h:BlkIs w g t cs)(cs':Array Value):BlkIs (w.setRow g cs') g t cs':=setRow_heap w g cs cs' t (0,0) h
theorem BlkIs.setRow_ne {w:World}{g k:Nat}{t:TypeId}{cs:Array Value}(h:BlkIs w g t cs)(hk:g≠k)(cs':Array Value):BlkIs (w.setRow k cs') g t cs:=(setRow_other w k g cs' hk).trans h
theorem below_setRow {B:Nat}{w0 w:World}(hb:Below B w0 w){g:Nat}(hg:B<=g)(cs:Array Value):Below B w0 (w.setRow g cs) :=
  hb.trans ⟨rfl,rfl,rfl,by simp[World.setRow],fun k hk=>setRow_other w g k cs (by omega)⟩
def spliceB (l:List UInt8)(o n:Nat)(src:List UInt8):List UInt8:=l.take o++src.take n++l.drop (o+min src.length n)
theorem copyB_run {w:World}{g o:Nat}{l src:List UInt8}{A:Option Addr}{c B dLen dCap:Nat}(ty:TypeId){T:TypeId}(hb:BlkIs w g T (l.map b8).toArray)(hin:InB w B A c src)(hfit:o+dLen<=l.length) :
    (Builtin.copy_ #[44,44] ty #[.slice (some ⟨g,o,none⟩) dLen dCap,.slice A src.length c]).run Tryz.prog w = .ok (.int .i64 ((min src.length dLen:Nat):Int)) (w.setRow g ((spliceB l o dLen src).map b8).toArray):=by
  obtain⟨i0,hi,hz0,hz1,hz2⟩:=info_parts inf_u8
  have hs:(Tryz.prog.info? 5).map (·.size)=some 1:=by rw[hi];simp[hz1]
  rcases Nat.eq_zero_or_pos src.length with h0|h0
  · obtain rfl:=List.eq_nil_of_length_eq_zero h0
    have e:spliceB l o dLen []=l:=by simp[spliceB]
    rw[e,setRow_self w g _ _ _ hb]
    rcases A with _|ad
    · obtain rfl:=hin.nil rfl
      have:=run_copy_nil (P:=Tryz.prog) w 44 44 ty 5 ⟨g,o,none⟩ dLen dCap Tryz.underlying44 (by rw[hi];rfl)
      simpa[goInt] using this
    · have:=run_copy_row (P:=Tryz.prog) w 44 44 ty 5 g o dLen dCap ad 0 c _ _ [] Tryz.underlying44 hs hb (by simp) (by simp) (by simp;omega) (by simp)
      have e2:((l.map b8).toArray.toList.take o++[] ++ (l.map b8).toArray.toList.drop (o+([]:List Value).length)).toArray=(l.map b8).toArray:=by simp
      rw[e2,setRow_self w g _ _ _ hb] at this
      simpa[goInt] using this
  · obtain⟨g2,o2,rfl,hg2,hc⟩:=hin.lies h0
    have:=run_copy_row (P:=Tryz.prog) w 44 44 ty 5 g o dLen dCap ⟨g2,o2,none⟩ src.length c _ _ ((src.take dLen).map b8) Tryz.underlying44 hs hb (by simp[Nat.min_comm]) ?_ (by simp;omega) (fun v hv=>by obtain⟨x,_,rfl⟩:=List.mem_map.1 hv;rfl)
    · rw[this]
      simp[goInt,spliceB,Nat.min_comm,List.map_take,List.map_drop]
    · intro j v hj
      have hj2:j<(src.take dLen).length:=by
        have:=(List.getElem?_eq_some_iff.1 hj).1
        simpa using this
      have hjs:j<src.length:=by simp at hj2;omega
      have ea:(⟨g2,o2,none⟩:Addr).add j=⟨g2,o2+j,none⟩:=by cases j<;>simp[Addr.add]
      rw[ea,hc j hjs]
      rw[List.getElem?_map,List.getElem?_eq_getElem hj2,List.getElem_take] at hj
      simpa[b8] using hj
section
variable {w:World}{ops:Array Oper}{rest:List Oper}{o:Oper}{a:Act}{Q:Exit->Act->World->Prop}
theorem oper_copyB {K:Act->World->Prop}(d s:Operand)(ho:o.op = .call { callee:=.builtin .copy,args:=#[d,s],argTypes:=#[44,44] })
    (g off:Nat) (l src:List UInt8) (A:Option Addr) (c B dLen dCap:Nat) (hd:a.eval d = .slice (some ⟨g,off,none⟩) dLen dCap) (hs:a.eval s = .slice A src.length c)
    {T:TypeId} (hb:BlkIs w g T (l.map b8).toArray) (hin:InB w B A c src) (hfit:off+dLen<=l.length)
    (h:K (a.put o.dst (.int .i64 ((min src.length dLen:Nat):Int))) (w.setRow g ((spliceB l off dLen src).map b8).toArray)):o.wp Tryz.prog a w K Q:=by
  have hr:=copyB_run (dCap:=dCap) o.type hb hin hfit
  unfold Oper.wp execOp
  simp only[ho,resolve,invoke,builtin,Sem.run_bind,Sem.run_pure,Result.andThen_ok,List.map_toArray,List.map_cons,List.map_nil,hd,hs,hr]
  exact h
theorem wp_copyB (hgd:o.guard=none)(d s:Operand)(ho:o.op = .call { callee:=.builtin .copy,args:=#[d,s],argTypes:=#[44,44] })
    (g off:Nat) (l src:List UInt8) (A:Option Addr) (c B dLen dCap:Nat) (hd:a.eval d = .slice (some ⟨g,off,none⟩) dLen dCap) (hs:a.eval s = .slice A src.length c)
    {T:TypeId} (hb:BlkIs w g T (l.map b8).toArray) (hin:InB w B A c src) (hfit:off+dLen<=l.length)
    (h:wpList Tryz.prog ops Q rest (a.put o.dst (.int .i64 ((min src.length dLen:Nat):Int))) (w.setRow g ((spliceB l off dLen src).map b8).toArray)):wpList Tryz.prog ops Q (o::rest) a w :=
  wpList_plain hgd fun _ hK=>oper_copyB d s ho g off l src A c B dLen dCap hd hs hb hin hfit (hK _ _ h)
end
theorem OwnB.blk {w:World}{base g:Nat}{l:List UInt8}(h:OwnB w base (.slice (some ⟨g,0,none⟩) l.length l.length) l):BlkIs w g 5 (l.map b8).toArray/\base<=g:=by
  rcases h.2 with⟨h1,_⟩|⟨g',cap,cur,hv,hb,hg,hle,_,hs,ht⟩
  · cases h1
  · injection hv with e1 e2 e3
    injection e1 with e1
    injection e1 with e1 _ _
    subst e1 e3
    refine⟨?_,hb⟩
    have e:cur.toList=l.map b8:=by
      rw[<-ht,List.take_of_length_le]
      simp;omega
    have e':cur=(l.map b8).toArray:=by rw[<-e]
    unfold BlkIs
    rw[hg,e']
theorem run_appB {w:World}(ty:TypeId)(base:Nat)(v:Value)(l:List UInt8)(hown:OwnB w base v l)(B:Nat)(A:Option Addr)(c:Nat)(l2:List UInt8)(hin:InB w B A c l2)
    (hbytes:l.length+l2.length<=140737488355328) (hbase:base<=w.heap.size) :
    ∃v' w',(Builtin.append_ #[44,44] ty #[v,.slice A l2.length c]).run Tryz.prog w = .ok v' w'/\OwnB w' base v' (l++l2)/\w.grownBy w' v.ownBlock/\(v'.ownBlock=v.ownBlock∨v'.ownBlock=some w.heap.size):=by
  obtain⟨i0,hi,hz0,hz1,hz2⟩:=info_parts inf_u8
  have hle:=hin.le
  rcases A with _|ad
  · have hc0:=hin.nil rfl
    obtain rfl:l2=[]:=List.eq_nil_of_length_eq_zero (by omega)
    subst hc0
    have hr:=run_append_owned_none (P:=Tryz.prog) w base 44 ty 5 i0 1 Tryz.underlying44 hi v l.length (l.map b8) hown
    exact⟨v,w,hr,by rw[List.append_nil];exact hown,World.grownBy.refl _ _,.inl rfl⟩
  · have hnews:∀j u,(l2.map b8)[j]? = some u->w.cell? (ad.add j)=some u:=by
      intro j u hu
      have hj:j<l2.length:=by
        rcases Nat.lt_or_ge j l2.length with h|h
        · exact h
        · rw[List.getElem?_eq_none (by simpa using h)] at hu;cases hu
      obtain⟨g,o',hA,_,hc⟩:=hin.lies (by omega)
      obtain rfl:ad=⟨g,o',none⟩:=by simpa using hA
      have e:(⟨g,o',none⟩:Addr).add j=⟨g,o'+j,none⟩:=by unfold Addr.add;split<;>simp_all
      rw[e,hc j hj]
      simpa[hj,b8] using hu
    obtain⟨v',w',hr,h2,h3,_,h5⟩:=run_append_own_at (P:=Tryz.prog) w base 44 ty 5 i0 (.int .u8 0) 1 1 Tryz.underlying44 hi hz0 hz1 hz2 rfl (by decide) v l.length (l.map b8) hown ad l2.length c (l2.map b8) (by simp) hnews (by simp[b8,Value.oneCell']) (by unfold maxLen;omega) (by omega) hbase
    refine⟨v',w',hr,?_,h3,h5⟩
    unfold OwnB
    simpa using h2
theorem zeroCells_b8 (k:Nat):Builtin.zeroCells (Value.int .u8 0).cells k=((List.replicate k (0:UInt8)).map b8).toArray:=by
  apply Array.ext'
  have:(Value.int .u8 0).cells=#[.int .u8 0]:=rfl
  rw[this]
  have h:(Builtin.zeroCells #[Value.int .u8 0] k).toList=List.replicate k (.int .u8 0):=by
    unfold Builtin.zeroCells
    simp only[Array.toList_map,Array.toList_range]
    apply List.ext_getElem
    · simp
    · intro i h1 h2
      simp[Nat.mod_one]
  rw[h]
  simp[b8]
theorem run_appZ {w:World}(ty:TypeId)(base:Nat)(v:Value)(l:List UInt8)(hown:OwnB w base v l)(k:Nat)(h0:0<k)(hbytes:l.length+k<=1000000000)(hbase:base<=w.heap.size) :
    ∃v' w',(Builtin.append_ #[44,3] ty #[v,.int .i64 (k:Int)]).run Tryz.prog w = .ok v' w'/\OwnB w' base v' (l++List.replicate k 0)/\w.grownBy w' v.ownBlock/\(v'.ownBlock=v.ownBlock∨v'.ownBlock=some w.heap.size):=by
  obtain⟨i0,hi,hz0,hz1,hz2⟩:=info_parts inf_u8
  have fresh:∀(old:Nat) (l':List UInt8),(h:old<l'.length+k)->l'.length+k<=1000000000 ->
      OwnB (w.drew.alloc (.cells ((l'.map b8).toArray++Builtin.zeroCells (Value.int .u8 0).cells k++Builtin.zeroCells (Value.int .u8 0).cells (grownCap w (l'.length+k) old 5 - (l'.length+k))) 5)) base (.slice (some ⟨w.heap.size,0,none⟩) (l'.length+k) (grownCap w (l'.length+k) old 5)) (l'++List.replicate k 0):=by
    intro old l' ho hb
    have hcap:=grownCap_le_maxLen w (l'.length+k) old 5 (by unfold maxLen;omega)
    have hge:=grownCap_ge w (l'.length+k) old 5
    generalize grownCap w (l'.length+k) old 5=cap at *
    rw[zeroCells_b8,zeroCells_b8]
    refine⟨by simp,.inr ⟨w.heap.size,cap,_,by simp,hbase,heap_alloc_new w.drew _,by simp;omega,hcap,by simp;omega,?_⟩⟩
    have e:∀d,List.replicate (k+d) (b8 0)=List.replicate k (b8 0)++List.replicate d (b8 0):=fun d=>by simp
    simp only[List.length_append,List.length_replicate,Nat.mul_one,Array.toList_append,List.map_append,List.map_replicate,List.append_assoc]
    rw[<-List.append_assoc,List.take_append_of_le_length (by simp),List.take_of_length_le (by simp)]
  rcases hown.2 with⟨rfl,h1⟩|⟨g,cap,cur,rfl,hb,hg,hle,hm,hs,ht⟩
  · obtain rfl:=List.eq_nil_of_length_eq_zero h1
    have hr:=Lib.run_append_nil_zeros (P:=Tryz.prog) w 44 3 ty 5 i0 (.int .u8 0) .i64 .i64 Tryz.underlying44 Tryz.underlying3 hi hz0 k h0 (by omega) (by omega) (by rw[hz2];simp at hbytes;omega)
    have hf:=fresh 0 [] (by simp;omega) hbytes
    simp only[List.length_nil,Nat.zero_add,List.map_nil,List.nil_append] at hf
    refine⟨_,_,hr,?_,⟨rfl,rfl,rfl,by simp,fun j hj _=>heap_alloc_old w.drew _ hj⟩,.inr rfl⟩
    simpa using hf
  · by_cases hroom:l.length+k<=cap
    · have hst:=run_storeCells_at (P:=Tryz.prog) g l.length 5 ((List.replicate k (0:UInt8)).map b8) 0 cur w hg (by simp;omega) (fun v hv=>by simp at hv;obtain⟨_,rfl⟩:=hv;rfl)
      have e1:(cur.toList.take (l.length+0)++(List.replicate k (0:UInt8)).map b8++cur.toList.drop (l.length+0+((List.replicate k (0:UInt8)).map b8).length)).toArray.toList.take (l.length+k)=(l++List.replicate k 0).map b8:=by
        have e2:cur.toList.take l.length=l.map b8:=by simpa using ht
        simp only[Nat.add_zero,e2,List.map_append]
        rw[List.take_append_of_le_length (by simp)]
        rw[List.take_of_length_le (by simp)]
      have hCs:(cur.toList.take (l.length+0)++(List.replicate k (0:UInt8)).map b8++cur.toList.drop (l.length+0+((List.replicate k (0:UInt8)).map b8).length)).toArray.size=cap:=by
        simp
        omega
      generalize (cur.toList.take (l.length+0)++(List.replicate k (0:UInt8)).map b8++cur.toList.drop (l.length+0+((List.replicate k (0:UInt8)).map b8).length)).toArray=C at hst e1 hCs
      refine⟨.slice (some ⟨g,0,none⟩) (l.length+k) cap,w.setRow g C,?_,?_,⟨rfl,rfl,rfl,by simp[World.setRow],fun j _ hj=>setRow_other w g j _ (fun e=>hj (by simp[Value.ownBlock,e]))⟩,.inl rfl⟩
      · have hk:k≠0:=by omega
        have hw:IntKind.i64.wrap (k:Int)=k:=by rw[IntKind.wrap_i64];omega
        have h48i:¬ (281474976710656<(k:Int)*(i0.bytes:Int)):=by rw[hz2];omega
        have hneg:¬ ((k:Int)<0):=by omega
        have hns:¬ (k*i0.size=0):=by rw[hz1];omega
        have ea:(⟨g,0,none⟩:Addr).add (l.length*i0.size)=⟨g,l.length,none⟩:=by rw[hz1,Nat.mul_one];unfold Addr.add;split<;>simp_all
        have hzc:=zeroCells_b8 k
        have hst':(storeCells ⟨g,l.length,none⟩ (Builtin.zeroCells (Value.int .u8 0).cells k).toList).run Tryz.prog w = .ok () (w.setRow g C):=by
          rw[hzc]
          simpa using hst
        simp[Builtin.append_,run_underlying Tryz.underlying44,run_underlying Tryz.underlying3,sizeOf,typeInfo,zeroValue,hi,hz0,asInt,asIntOf,hw,hroom,hneg,hns,h48i,ea,hst']
      · refine⟨by simp,.inr ⟨g,cap,_,by simp,hb,setRow_heap w g cur _ _ _ hg,by simpa using hroom,hm,by omega,?_⟩⟩
        simpa using e1
    · have hold:(Builtin.firstCells i0.size l.length (.slice (some ⟨g,0,none⟩) l.length cap)).run Tryz.prog w.drew = .ok (l.map b8).toArray w.drew:=by
        have hl:=run_loadCells_list (P:=Tryz.prog) w.drew ⟨g,0,none⟩ (l.map b8) (fun j u hj=>by
          have hj':j<l.length:=by
            have:=(List.getElem?_eq_some_iff.1 hj).1
            simpa using this
          have hc:=OwnB.cell (w:=w) hown j hj'
          have ea:(⟨g,0,none⟩:Addr).add j=⟨g,j,none⟩:=by unfold Addr.add;split<;>simp_all
          rw[ea]
          have hc2:w.drew.cell? ⟨g,j,none⟩=some (.int .u8 (l[j].toNat:Int)):=hc
          rw[hc2]
          rw[List.getElem?_map,List.getElem?_eq_getElem hj'] at hj
          simpa[b8] using hj)
        simp only[List.length_map] at hl
        simp[Builtin.firstCells,hz1,hl]
      have hr:=Lib.run_append_grow_zeros (P:=Tryz.prog) w 44 3 ty 5 i0 (.int .u8 0) .i64 .i64 Tryz.underlying44 Tryz.underlying3 hi hz0 (some ⟨g,0,none⟩) l.length cap (l.map b8) hold k h0 (by rw[hz1];omega) (by omega) (by omega) (by rw[hz2];omega) (growslice_fits (by omega) (by rw[hz2];omega))
      refine⟨_,_,hr,?_,⟨rfl,rfl,rfl,by simp,fun j hj _=>heap_alloc_old w.drew _ hj⟩,.inr rfl⟩
      have:=fresh cap l (by omega) hbytes
      simpa using this
theorem OwnB.later {w w':World}{base:Nat}{v:Value}{l:List UInt8}(h:OwnB w base v l)(hB:Below w.heap.size w w'):OwnB w' base v l:=by
  refine⟨h.1,?_⟩
  rcases h.2 with h|⟨g,cap,cur,h1,h2,h3,h4⟩
  · exact .inl h
  · exact .inr ⟨g,cap,cur,h1,h2,(hB.block g (Array.getElem?_eq_some_iff.1 h3).1).trans h3,h4⟩
theorem OwnB.ownGe {w:World}{base:Nat}{v:Value}{l:List UInt8}(h:OwnB w base v l):∀r,v.ownBlock=some r->base<=r:=by
  intro r hr
  rcases h.form with⟨rfl,_⟩|⟨g,cap,rfl,hb,_⟩
  · cases hr
  · injection hr with hr
    subst hr
    exact hb
theorem grown_below {w w':World}{B:Nat}{row:Option Nat}(hg:w.grownBy w' row)(hB:B<=w.heap.size)(hr:∀r,row=some r->B<=r):Below B w w' :=
  ⟨hg.os,hg.tape,hg.output,hg.size,fun k hk=>hg.block k (by omega) (fun e=>by have:=hr k e.symm;omega)⟩
theorem keepB2 {w1 W W':World}{g i j:Nat}{x y:Value}(hB:Below w1.heap.size W W')(h:Below w1.heap.size w1 W/\W.cell? ⟨g,i,none⟩=some x/\W.cell? ⟨g,j,none⟩=some y)(hg:g<w1.heap.size) :
    Below w1.heap.size w1 W'/\W'.cell? ⟨g,i,none⟩=some x/\W'.cell? ⟨g,j,none⟩=some y :=
  ⟨h.1.trans hB,(hB.cell (p:=⟨g,i,none⟩) hg).trans h.2.1,(hB.cell (p:=⟨g,j,none⟩) hg).trans h.2.2⟩
section
variable {w:World}{ops:Array Oper}{o:Oper}{a:Act}{K:Act->World->Prop}{Q:Exit->Act->World->Prop}{E:Prop}
theorem oper_appB (s x:Operand)(ho:o.op = .call { callee:=.builtin .append,args:=#[s,x],argTypes:=#[44,44] })
    (base:Nat) (v:Value) (l:List UInt8) (hs:a.eval s=v) (hown:OwnB w base v l) (B:Nat) (A:Option Addr) (c:Nat) (l2:List UInt8) (hx:a.eval x = .slice A l2.length c) (hin:InB w B A c l2)
    (hbytes:l.length+l2.length<=140737488355328) (hbase:base<=w.heap.size)
    (h:∀v' w',OwnB w' base v' (l++l2)->w.grownBy w' v.ownBlock->(v'.ownBlock=v.ownBlock∨v'.ownBlock=some w.heap.size)->K (a.put o.dst v') w'):o.wp Tryz.prog a w K Q:=by
  obtain⟨v',w',hr,h2,h3,h4⟩:=run_appB o.type base v l hown B A c l2 hin hbytes hbase
  unfold Oper.wp execOp
  simp only[ho,resolve,invoke,builtin,Sem.run_bind,Sem.run_pure,Result.andThen_ok,List.map_toArray,List.map_cons,List.map_nil,hs,hx,hr]
  exact h v' w' h2 h3 h4
theorem step_appB (hgd:o.guard=none)(s x:Operand)(ho:o.op = .call { callee:=.builtin .append,args:=#[s,x],argTypes:=#[44,44] })
    (base:Nat) (v:Value) (l:List UInt8) (hs:a.eval s=v) (hown:OwnB w base v l) (B:Nat) (A:Option Addr) (c:Nat) (l2:List UInt8) (hx:a.eval x = .slice A l2.length c) (hin:InB w B A c l2)
    (hbytes:l.length+l2.length<=140737488355328) (hbase:base<=w.heap.size)
    (h:∀v' w',OwnB w' base v' (l++l2)->w.grownBy w' v.ownBlock->(v'.ownBlock=v.ownBlock∨v'.ownBlock=some w.heap.size)->K (a.put o.dst v') w') :
    if Region.wanted o (yielded ops a.tmps)=true then Oper.wp Tryz.prog o a w K Q else E:=by
  have hw:Region.wanted o (yielded ops a.tmps)=true:=by simp[Region.wanted,hgd]
  rw[if_pos hw]
  exact oper_appB s x ho base v l hs hown B A c l2 hx hin hbytes hbase h
theorem oper_appZ (s x:Operand)(ho:o.op = .call { callee:=.builtin .append,args:=#[s,x],argTypes:=#[44,3] })
    (base:Nat) (v:Value) (l:List UInt8) (hs:a.eval s=v) (hown:OwnB w base v l) (k:Nat) (hx:a.eval x = .int .i64 (k:Int)) (h0:0<k) (hbytes:l.length+k<=1000000000) (hbase:base<=w.heap.size)
    (h:∀v' w',OwnB w' base v' (l++List.replicate k 0)->w.grownBy w' v.ownBlock->(v'.ownBlock=v.ownBlock∨v'.ownBlock=some w.heap.size)->K (a.put o.dst v') w'):o.wp Tryz.prog a w K Q:=by
  obtain⟨v',w',hr,h2,h3,h4⟩:=run_appZ o.type base v l hown k h0 hbytes hbase
  unfold Oper.wp execOp
  simp only[ho,resolve,invoke,builtin,Sem.run_bind,Sem.run_pure,Result.andThen_ok,List.map_toArray,List.map_cons,List.map_nil,hs,hx,hr]
  exact h v' w' h2 h3 h4
theorem wp_appZ {rest:List Oper}(hgd:o.guard=none)(s x:Operand)(ho:o.op = .call { callee:=.builtin .append,args:=#[s,x],argTypes:=#[44,3] })
    (base:Nat) (v:Value) (l:List UInt8) (hs:a.eval s=v) (hown:OwnB w base v l) (k:Nat) (hx:a.eval x = .int .i64 (k:Int)) (h0:0<k) (hbytes:l.length+k<=1000000000) (hbase:base<=w.heap.size)
    (h:∀v' w',OwnB w' base v' (l++List.replicate k 0)->w.grownBy w' v.ownBlock->(v'.ownBlock=v.ownBlock∨v'.ownBlock=some w.heap.size)->wpList Tryz.prog ops Q rest (a.put o.dst v') w'):wpList Tryz.prog ops Q (o::rest) a w :=
  wpList_plain hgd fun _ hK=>oper_appZ s x ho base v l hs hown k hx h0 hbytes hbase fun v' w' h1 h2 h3=>hK _ _ (h v' w' h1 h2 h3)
theorem step_copyB (hgd:o.guard=none)(d s:Operand)(ho:o.op = .call { callee:=.builtin .copy,args:=#[d,s],argTypes:=#[44,44] })
    (g off:Nat) (l src:List UInt8) (A:Option Addr) (c B dLen dCap:Nat) (hd:a.eval d = .slice (some ⟨g,off,none⟩) dLen dCap) (hs:a.eval s = .slice A src.length c)
    {T:TypeId} (hb:BlkIs w g T (l.map b8).toArray) (hin:InB w B A c src) (hfit:off+dLen<=l.length)
    (h:K (a.put o.dst (.int .i64 ((min src.length dLen:Nat):Int))) (w.setRow g ((spliceB l off dLen src).map b8).toArray)) :
    if Region.wanted o (yielded ops a.tmps)=true then Oper.wp Tryz.prog o a w K Q else E:=by
  have hw:Region.wanted o (yielded ops a.tmps)=true:=by simp[Region.wanted,hgd]
  rw[if_pos hw]
  exact oper_copyB d s ho g off l src A c B dLen dCap hd hs hb hin hfit h
end
theorem BlkIs.range {w:World}{g:Nat}{t:TypeId}{cs:Array Value}(h:BlkIs w g t cs):w.rangeAt g 0 cs.toList:=fun j v hj=>by
  rw[Nat.zero_add,h.cell]
  simpa using hj
structure RowTy (P:Program)(T:TypeId)(n:Nat):Prop where
  desc:∃d,P.underlying T=some d/\d.isRow=true
  size:(P.info? T).map (·.size)=some n
theorem run_loadW {P:Program}{w:World}{g:Nat}{T t:TypeId}{cs:Array Value}(hT:RowTy P T cs.size)(hb:BlkIs w g t cs):(loadVar T ⟨g,0,none⟩).run P w = .ok (.agg cs) w:=by
  obtain⟨d,hu,hd⟩:=hT.desc
  have:=run_loadVar_mid (P:=P) w g 0 T cs.toList d hb.range hu hd (by simpa using hT.size)
  simpa using this
theorem run_storeW {P:Program}{w:World}{g:Nat}{T t:TypeId}{cs cs':Array Value}(hT:RowTy P T cs.size)(hb:BlkIs w g t cs)(hs:cs'.size=cs.size)(h1:∀v∈cs'.toList,v.oneCell'=true):(storeVar T ⟨g,0,none⟩ (.agg cs')).run P w = .ok () (w.setRow g cs'):=by
  have h:=run_storeCells_at (P:=P) g 0 t cs'.toList 0 cs w hb (by simp;omega) h1
  have e:(cs.toList.take (0+0)++cs'.toList++cs.toList.drop (0+0+cs'.toList.length)).toArray=cs':=by
    simp[List.drop_of_length_le,hs]
  rw[e] at h
  have hi:=hT.size
  cases hq:P.info? T with
  | none=>simp[hq] at hi
  | some i =>
    have hs2:cs'.size=i.size:=by simp[hq] at hi;omega
    simp[storeVar,sizeOf,typeInfo,hq,Value.cells,hs2,h]
section
variable {P:Program}{w:World}{ops:Array Oper}{rest:List Oper}{o:Oper}{a:Act}{Q:Exit->Act->World->Prop}
theorem oper_loadW {K:Act->World->Prop}(T:TypeId)(x:Operand)(ho:o.op = .load T x)(g:Nat){t:TypeId}{cs:Array Value}(hx:a.eval x = .pointer (some ⟨g,0,none⟩)){n:Nat}(hT:RowTy P T n)(hb:BlkIs w g t cs)(hn:cs.size=n)
    (h:K (a.put o.dst (.agg cs)) w):o.wp P a w K Q:=by
  unfold Oper.wp execOp
  simp only[ho,hx,Instr.loadAt,Instr.sureAddr,Sem.run_bind,Sem.run_pure,Result.andThen_ok,run_loadW (hn▸hT) hb]
  exact h
theorem oper_storeW {K:Act->World->Prop}(T:TypeId)(x y:Operand)(ho:o.op = .store T x y)(g:Nat){t:TypeId}{cs cs':Array Value}(hx:a.eval x = .pointer (some ⟨g,0,none⟩))(hy:a.eval y = .agg cs'){n:Nat}(hT:RowTy P T n)(hb:BlkIs w g t cs)(hn:cs.size=n)
    (hs:cs'.size=cs.size) (h1:∀v∈cs'.toList,v.oneCell'=true) (h:K (a.put o.dst undef) (w.setRow g cs')):o.wp P a w K Q:=by
  unfold Oper.wp execOp
  simp only[ho,hx,hy,Instr.storeAt,Instr.sureAddr,Sem.run_bind,Sem.run_pure,Result.andThen_ok,run_storeW (hn▸hT) hb hs h1]
  exact h
theorem wp_loadW (hgd:o.guard=none)(T:TypeId)(x:Operand)(ho:o.op = .load T x)(g:Nat){t:TypeId}{cs:Array Value}(hx:a.eval x = .pointer (some ⟨g,0,none⟩)){n:Nat}(hT:RowTy P T n)(hb:BlkIs w g t cs)(hn:cs.size=n)
    (h:wpList P ops Q rest (a.put o.dst (.agg cs)) w):wpList P ops Q (o::rest) a w :=
  wpList_plain hgd fun _ hK=>oper_loadW T x ho g hx hT hb hn (hK _ _ h)
theorem wp_storeW (hgd:o.guard=none)(T:TypeId)(x y:Operand)(ho:o.op = .store T x y)(g:Nat){t:TypeId}{cs cs':Array Value}(hx:a.eval x = .pointer (some ⟨g,0,none⟩))(hy:a.eval y = .agg cs'){n:Nat}(hT:RowTy P T n)(hb:BlkIs w g t cs)(hn:cs.size=n)
    (hs:cs'.size=cs.size) (h1:∀v∈cs'.toList,v.oneCell'=true) (h:wpList P ops Q rest (a.put o.dst undef) (w.setRow g cs')):wpList P ops Q (o::rest) a w :=
  wpList_plain hgd fun _ hK=>oper_storeW T x y ho g hx hy hT hb hn hs h1 (hK _ _ h)
end
theorem results_cellW {fn:Func}{P:Program}{a:Act}{w:World}{g:Nat}{T t:TypeId}{cs:Array Value}(k:Tmp)(h:fn.results=#[.cell k T])(hk:a.eval (.tmp k) = .pointer (some ⟨g,0,none⟩)){n:Nat}(hT:RowTy P T n)(hb:BlkIs w g t cs)(hn:cs.size=n) :
    (results fn a.tmps).run P w = .ok (.agg cs) w:=by
  have e:a.tmps.getD k undef = .pointer (some ⟨g,0,none⟩):=hk
  unfold results
  simp only[h]
  simp[<-Array.getD_eq_getD_getElem?,e,asAddr,run_loadW (hn▸hT) hb]
theorem results_cellW_tmp {fn:Func}{P:Program}{a:Act}{w:World}{g:Nat}{T t:TypeId}{cs:Array Value}{v:Value}(k m:Tmp)(h:fn.results=#[.cell k T,.tmp m])(hk:a.eval (.tmp k) = .pointer (some ⟨g,0,none⟩))(hm:a.eval (.tmp m)=v){n:Nat}(hT:RowTy P T n)(hb:BlkIs w g t cs)(hn:cs.size=n) :
    (results fn a.tmps).run P w = .ok (.tuple #[.agg cs,v]) w:=by
  have e:a.tmps.getD k undef = .pointer (some ⟨g,0,none⟩):=hk
  have e2:a.tmps.getD m undef=v:=hm
  unfold results
  simp only[h]
  simp[<-Array.getD_eq_getD_getElem?,e,e2,asAddr,run_loadW (hn▸hT) hb,Result.andThen]
theorem b8_one (l:List UInt8):∀v∈(l.map b8).toArray.toList,v.oneCell'=true:=by
  intro v hv
  simp at hv
  obtain⟨x,_,rfl⟩:=hv
  rfl
theorem rowSector:RowTy Tryz.prog 220 64:=⟨⟨_,Tryz.underlying220,rfl⟩,by kernel_rfl⟩
theorem rowHead:RowTy Tryz.prog 111 4:=⟨⟨_,Tryz.underlying111,rfl⟩,by kernel_rfl⟩
structure InG (w:World)(B sz:Nat)(A:Option Addr)(n c:Nat)(cs:List Value):Prop where
  le:n<=c
  max:c<=9223372036854775807
  nil:A=none->c=0
  len:cs.length=n*sz
  one:∀v∈cs,v.oneCell'=true
  lies:0<n->∃g o,A=some ⟨g,o,none⟩/\g<B/\w.rangeAt g o cs
theorem InG.keep {w w':World}{B sz:Nat}{A:Option Addr}{n c:Nat}{cs:List Value}(h:InG w B sz A n c cs)(hk:∀p:Addr,p.block<B->w'.cell? p=w.cell? p):InG w' B sz A n c cs :=
  ⟨h.le,h.max,h.nil,h.len,h.one,fun hl=>by
    obtain⟨g,o,hA,hg,hc⟩:=h.lies hl
    exact⟨g,o,hA,hg,fun j v hj=>(hk _ hg).trans (hc j v hj)⟩⟩
theorem InG.below {w w':World}{B sz:Nat}{A:Option Addr}{n c:Nat}{cs:List Value}(h:InG w B sz A n c cs)(hb:Below B w w'):InG w' B sz A n c cs:=h.keep fun _ hp=>hb.cell hp
theorem InG.more {w:World}{B B' sz:Nat}{A:Option Addr}{n c:Nat}{cs:List Value}(h:InG w B sz A n c cs)(hB:B<=B'):InG w B' sz A n c cs :=
  ⟨h.le,h.max,h.nil,h.len,h.one,fun hl=>by
    obtain⟨g,o,hA,hg,hc⟩:=h.lies hl
    exact⟨g,o,hA,by omega,hc⟩⟩
theorem InG.grow {w w':World}{sz:Nat}{A:Option Addr}{n c:Nat}{cs:List Value}(h:InG w w.heap.size sz A n c cs)(hb:Below w.heap.size w w'):InG w' w'.heap.size sz A n c cs:=(h.below hb).more hb.size
theorem InG.mt (w:World)(B sz:Nat):InG w B sz none 0 0 []:=⟨Nat.le_refl _,by omega,fun _=>rfl,by simp,(fun v h=>by cases h),fun h=>by omega⟩
theorem InG.elem {w:World}{B sz g o:Nat}{n c:Nat}{cs:List Value}(h:InG w B sz (some ⟨g,o,none⟩) n c cs)(j:Nat)(hj:j<n):w.rangeAt g (o+j*sz) ((cs.drop (j*sz)).take sz):=by
  obtain⟨g',o',e,hg,hr⟩:=h.lies (by omega)
  injection e with e
  injection e with e1 e2
  subst e1 e2
  intro i v hi
  rw[List.getElem?_take] at hi
  split at hi
  · rw[List.getElem?_drop] at hi
    rw[Nat.add_assoc]
    exact hr _ v hi
  · cases hi
theorem ownG_in {w:World}{base:Nat}{T:TypeId}{sz:Nat}{v:Value}{n:Nat}{cs:List Value}(h:w.ownsRow base T sz v n cs)(h1:∀v∈cs,v.oneCell'=true):∃A c,v = .slice A n c/\InG w w.heap.size sz A n c cs:=by
  rcases h.2 with⟨e1,e2⟩|⟨g,cap,cur,hv,hb,hg,hle,hm,hs,ht⟩
  · subst e2
    exact⟨none,0,e1,Nat.le_refl _,by omega,fun _=>rfl,h.1,h1,fun h=>by omega⟩
  · refine⟨_,cap,hv,hle,by unfold maxLen at hm;omega,(fun e=>by cases e),h.1,h1,fun _=>⟨g,0,rfl,(Array.getElem?_eq_some_iff.1 hg).1,fun j u hj => ?_⟩⟩
    rw[Nat.zero_add,cell_of_row w g j cur _ (0,0) hg]
    rw[<-ht,List.getElem?_take] at hj
    split at hj
    · simpa using hj
    · cases hj
theorem ownG_ge {w:World}{base:Nat}{T:TypeId}{sz:Nat}{v:Value}{n:Nat}{cs:List Value}(h:w.ownsRow base T sz v n cs):∀r,v.ownBlock=some r->base<=r:=by
  intro r hr
  rcases h.2 with⟨rfl,_⟩|⟨g,cap,cur,rfl,hb,_⟩
  · cases hr
  · injection hr with hr
    subst hr
    exact hb
theorem ownG_lt {w:World}{base:Nat}{T:TypeId}{sz:Nat}{v:Value}{n:Nat}{cs:List Value}(h:w.ownsRow base T sz v n cs):∀r,v.ownBlock=some r->r<w.heap.size:=by
  intro r hr
  rcases h.2 with⟨rfl,_⟩|⟨g,cap,cur,rfl,hb,hg,_⟩
  · cases hr
  · injection hr with hr
    subst hr
    exact(Array.getElem?_eq_some_iff.1 hg).1
theorem ownG_later {w w':World}{base:Nat}{T:TypeId}{sz:Nat}{v:Value}{n:Nat}{cs:List Value}(h:w.ownsRow base T sz v n cs)(hB:∀r,v.ownBlock=some r->w'.heap[r]? = w.heap[r]?):w'.ownsRow base T sz v n cs:=by
  refine⟨h.1,?_⟩
  rcases h.2 with h|⟨g,cap,cur,h1,h2,h3,h4⟩
  · exact .inl h
  · exact .inr ⟨g,cap,cur,h1,h2,(hB g (by rw[h1];rfl)).trans h3,h4⟩
theorem ownG_grow {w w':World}{base:Nat}{T:TypeId}{sz:Nat}{v:Value}{n:Nat}{cs:List Value}(h:w.ownsRow base T sz v n cs)(hB:Below w.heap.size w w'):w'.ownsRow base T sz v n cs :=
  ownG_later h fun r hr=>hB.block r (ownG_lt h r hr)
theorem ownG_base {w:World}{b b':Nat}{T:TypeId}{sz:Nat}{v:Value}{n:Nat}{cs:List Value}(h:w.ownsRow b T sz v n cs)(hb:b'<=b):w.ownsRow b' T sz v n cs:=by
  refine⟨h.1,?_⟩
  rcases h.2 with h|⟨g,cap,cur,h1,h2,h3⟩
  · exact .inl h
  · exact .inr ⟨g,cap,cur,h1,by omega,h3⟩
structure ElT (S T:TypeId)(sz by_:Nat)(z:Value):Prop where
  und:Tryz.prog.underlying S=some (.slice T)
  inf:(Tryz.prog.info? T).map (fun i=>(i.zero,i.size,i.bytes))=some (some z,sz,by_)
  zs:z.cells.size=sz
  pos:0<sz
section
variable {w:World}{ops:Array Oper}{rest:List Oper}{o:Oper}{a:Act}{Q:Exit->Act->World->Prop}
theorem wp_appG (hg:o.guard=none){S T:TypeId}{sz by_:Nat}{z:Value}(hT:ElT S T sz by_ z)(s x:Operand)(ho:o.op = .call { callee:=.builtin .append,args:=#[s,x],argTypes:=#[S,S] })
    (base:Nat) (v:Value) (n:Nat) (cs:List Value) (hs:a.eval s=v) (hown:w.ownsRow base T sz v n cs) (B:Nat) (A:Option Addr) (m c:Nat) (cs2:List Value) (hx:a.eval x = .slice A m c) (hin:InG w B sz A m c cs2)
    (hm:n+m<=maxLen) (hbytes:(n+m)*by_<=140737488355328) (hbase:base<=w.heap.size)
    (h:∀v' w',w'.ownsRow base T sz v' (n+m) (cs++cs2)->w.grownBy w' v.ownBlock->wpList Tryz.prog ops Q rest (a.put o.dst v') w'):wpList Tryz.prog ops Q (o::rest) a w:=by
  obtain⟨i0,hi,hz0,hz1,hz2⟩:=info_parts hT.inf
  have hle:=hin.le
  rcases A with _|ad
  · have hc0:=hin.nil rfl
    obtain rfl:m=0:=by omega
    obtain rfl:cs2=[]:=List.eq_nil_of_length_eq_zero (by rw[hin.len];omega)
    subst hc0
    refine wpList_append_own_none (w:=w) hg s x _ ho base _ i0 sz hT.und hi v n cs hs hown hx ?_
    exact h v w (by rw[List.append_nil];exact hown) (World.grownBy.refl _ _)
  · have hnews:∀j u,cs2[j]? = some u->w.cell? (ad.add j)=some u:=by
      intro j u hu
      have hm0:0<m:=by
        rcases Nat.eq_zero_or_pos m with h0|h0
        · subst h0
          have:=hin.len
          obtain rfl:cs2=[]:=List.eq_nil_of_length_eq_zero (by omega)
          simp at hu
        · exact h0
      obtain⟨g,o',hA,_,hr⟩:=hin.lies hm0
      obtain rfl:ad=⟨g,o',none⟩:=by simpa using hA
      rw[Addr.add_mid]
      exact hr j u hu
    refine wpList_append_own w hg s x _ ho base _ i0 z sz by_ hT.und hi hz0 hz1 hz2 hT.zs hT.pos v n cs hs hown ad m c cs2 hx hin.len hnews hin.one hm hbytes hbase ?_
    intro v' w' hown' hgrow _
    exact h v' w' hown' hgrow
theorem x_loadM {P:Program}{ρ:Operand->Value}{T:TypeId}{k g off:Nat}{cs:List Value}{x:Operand}(hT:RowTy P T k)(hr:w.rangeAt g off cs)(hk:cs.length=k)(ho:o.op = .load T x)(hx:ρ x = .pointer (some ⟨g,off,none⟩)):(execOp ρ o).run P w = .ok (.value (.agg cs.toArray)) w:=by
  obtain⟨d,hu,hd⟩:=hT.desc
  have:=run_loadVar_mid (P:=P) w g off T cs d hr hu hd (by rw[hT.size,hk])
  simp only[execOp,ho,hx,Instr.loadAt,Instr.sureAddr,Sem.run_bind,Sem.run_pure,Result.andThen_ok,this]
end
theorem BlkIs.rangeOf {w:World}{g:Nat}{t:TypeId}{cs:Array Value}(h:BlkIs w g t cs)(k:Nat){n:Nat}:w.rangeAt g k ((cs.toList.drop k).take n):=fun j v hj=>by
  rw[List.getElem?_take] at hj
  split at hj
  · rw[List.getElem?_drop] at hj
    rw[h.cell]
    simpa using hj
  · cases hj
theorem run_appG {w:World}(ty:TypeId){S T:TypeId}{sz by_:Nat}{z:Value}(hT:ElT S T sz by_ z)(base:Nat)(v:Value)(n:Nat)(cs:List Value)(hown:w.ownsRow base T sz v n cs)(B:Nat)(A:Option Addr)(m c:Nat)(cs2:List Value)(hin:InG w B sz A m c cs2)
    (hm:n+m<=maxLen) (hbytes:(n+m)*by_<=140737488355328) (hbase:base<=w.heap.size) :
    ∃v' w',(Builtin.append_ #[S,S] ty #[v,.slice A m c]).run Tryz.prog w = .ok v' w'/\w'.ownsRow base T sz v' (n+m) (cs++cs2)/\w.grownBy w' v.ownBlock:=by
  obtain⟨i0,hi,hz0,hz1,hz2⟩:=info_parts hT.inf
  have hle:=hin.le
  rcases A with _|ad
  · have hc0:=hin.nil rfl
    obtain rfl:m=0:=by omega
    obtain rfl:cs2=[]:=List.eq_nil_of_length_eq_zero (by rw[hin.len];omega)
    subst hc0
    have hr:=run_append_owned_none (P:=Tryz.prog) w base S ty T i0 sz hT.und hi v n cs hown
    exact⟨v,w,hr,by rw[List.append_nil];exact hown,World.grownBy.refl _ _⟩
  · have hnews:∀j u,cs2[j]? = some u->w.cell? (ad.add j)=some u:=by
      intro j u hu
      have hm0:0<m:=by
        rcases Nat.eq_zero_or_pos m with h0|h0
        · subst h0
          have:=hin.len
          obtain rfl:cs2=[]:=List.eq_nil_of_length_eq_zero (by omega)
          simp at hu
        · exact h0
      obtain⟨g,o',hA,_,hr⟩:=hin.lies hm0
      obtain rfl:ad=⟨g,o',none⟩:=by simpa using hA
      rw[Addr.add_mid]
      exact hr j u hu
    obtain⟨v',w',hr,h2,h3,_,_⟩:=run_append_own_at (P:=Tryz.prog) w base S ty T i0 z sz by_ hT.und hi hz0 hz1 hz2 hT.zs hT.pos v n cs hown ad m c cs2 hin.len hnews hin.one hm hbytes hbase
    exact⟨v',w',hr,h2,h3⟩
section
variable {w:World}{ops:Array Oper}{o:Oper}{a:Act}{Q:Exit->Act->World->Prop}{K:Act->World->Prop}{E:Prop}
end
def MapIs (w:World)(r:Nat)(es:Array MapEntry)(clock:Nat):Prop:=w.heap[r]? = some (.map es clock)
theorem MapIs.lt {w:World}{r:Nat}{es:Array MapEntry}{clock:Nat}(h:MapIs w r es clock):r<w.heap.size:=(Array.getElem?_eq_some_iff.1 h).1
theorem MapIs.below {w w':World}{B r:Nat}{es:Array MapEntry}{clock:Nat}(h:MapIs w r es clock)(hB:Below B w w')(hr:r<B):MapIs w' r es clock:=(hB.block r hr).trans h
theorem MapIs.grown {w w':World}{r:Nat}{es:Array MapEntry}{clock:Nat}{row:Option Nat}(h:MapIs w r es clock)(hg:w.grownBy w' row)(hr:some r≠row):MapIs w' r es clock:=(hg.block r h.lt hr).trans h
def setMap (w:World)(r:Nat)(es:Array MapEntry)(clock:Nat):World:={ w with heap:=w.heap.setIfInBounds r (.map es clock) }
theorem MapIs.set {w:World}{r:Nat}{es:Array MapEntry}{clock:Nat}(h:MapIs w r es clock)(es':Array MapEntry)(clock':Nat):MapIs (setMap w r es' clock') r es' clock':=(MapKept.heap_set (o':=.map es' clock') h).1
theorem setMap_grown {w:World}{r:Nat}{es:Array MapEntry}{clock:Nat}(h:MapIs w r es clock)(es':Array MapEntry)(clock':Nat):w.grownBy (setMap w r es' clock') (some r) :=
  ⟨rfl,rfl,rfl,by simp[setMap],fun k _ hk=>(MapKept.heap_set (o':=.map es' clock') h).2 k (fun e=>hk (by rw[e]))⟩
theorem BlkIs.setMap {w:World}{g q:Nat}{t:TypeId}{cs:Array Value}{es0:Array MapEntry}{clock0:Nat}(h:BlkIs w g t cs)(h0:MapIs w q es0 clock0)(es':Array MapEntry)(clock':Nat):BlkIs (setMap w q es' clock') g t cs:=by
  have hne:g≠q:=by
    intro e
    subst e
    have h':w.heap[g]? = some (.cells cs t (0,0)):=h
    rw[show w.heap[g]? = some (.map es0 clock0) from h0] at h'
    cases h'
  exact((MapKept.heap_set (o':=.map es' clock') h0).2 g hne).trans h
section
variable {P:Program}{w:World}{mty kt et:TypeId}{d:TypeDesc}{r clock:Nat}{es:Array MapEntry}{key val:Value}
theorem run_put_new (hm:P.underlying mty=some (.map kt et))(hd:P.underlying kt=some d)(hk:MapKept.IsKey d key)(hb:MapIs w r es clock)(hf:Instr.findNow d key es.toList 0=some none) :
    (Instr.mapUpdate mty (.map (some r)) key val).run P w = .ok () (setMap w r (es.push { key:=key,val:=val,born:=clock }) (clock+1)):=by
  have hc:(Instr.checkKey false 10000 kt key).run P w = .ok () w:=MapKept.run_checkKey hd hk false 9999
  simp[Instr.mapUpdate,run_underlying hm,MapKept.run_getObj_map hb,hc,MapKept.run_findKey hd hf,MapKept.run_setObj_map _ hb,Result.andThen,setMap]
theorem run_get (hm:P.underlying mty=some (.map kt et))(hd:P.underlying kt=some d)(hk:MapKept.IsKey d key)(hb:MapIs w r es clock){i:Nat}{v:Value}(hf:Instr.findNow d key es.toList 0=some (some (i,v))) :
    (Instr.lookup mty (.map (some r)) key false).run P w = .ok v w:=by
  have hc:(Instr.checkKey es.isEmpty 10000 kt key).run P w = .ok () w:=MapKept.run_checkKey hd hk _ 9999
  simp[Instr.lookup,run_underlying hm,MapKept.run_getObj_map hb,hc,MapKept.run_findKey hd hf,Result.andThen]
end
section
variable {P:Program}{w:World}{ops:Array Oper}{rest:List Oper}{o:Oper}{a:Act}{Q:Exit->Act->World->Prop}{mty kt et:TypeId}{d:TypeDesc}{r clock:Nat}{es:Array MapEntry}{key val:Value}
theorem wp_makeMap (hg:o.guard=none)(ho:o.op = .makeMap mty none)(h:MapIs (w.alloc (.map #[] 0)) w.heap.size #[] 0->wpList P ops Q rest (a.put o.dst (.map (some w.heap.size))) (w.alloc (.map #[] 0))):wpList P ops Q (o::rest) a w :=
  wpList_plain hg fun _ hK=>by
    unfold Oper.wp execOp
    simp only[ho,Option.map_none,run_makeMap,Sem.run_bind,Result.andThen_ok,Sem.run_pure]
    exact hK _ _ (h (heap_alloc_new w _))
theorem wp_put_new (hg:o.guard=none)(m x y:Operand)(ho:o.op = .insert mty m x y∨o.op = .mapUpdate mty m x y)(hm:P.underlying mty=some (.map kt et))(hd:P.underlying kt=some d)(hk:MapKept.IsKey d key)(e1:a.eval m = .map (some r))(e2:a.eval x=key)(e3:a.eval y=val)
    (hb:MapIs w r es clock) (hf:Instr.findNow d key es.toList 0=some none)
    (h:∀w',MapIs w' r (es.push { key:=key,val:=val,born:=clock }) (clock+1)->w.grownBy w' (some r)->wpList P ops Q rest (a.put o.dst undef) w'):wpList P ops Q (o::rest) a w :=
  wpList_plain hg fun _ hK=>by
    unfold Oper.wp execOp
    rcases ho with ho|ho<;>simp only[ho,e1,e2,e3,run_put_new hm hd hk hb hf,Sem.run_bind,Result.andThen_ok,Sem.run_pure]<;>exact hK _ _ (h _ (hb.set _ _) (setMap_grown hb _ _))
theorem BlkIs.grownMap {w w':World}{g r:Nat}{t:TypeId}{cs:Array Value}{es:Array MapEntry}{clock:Nat}(h:BlkIs w g t cs)(hm:MapIs w r es clock)(hg:w.grownBy w' (some r)):BlkIs w' g t cs:=by
  refine h.grown hg (fun e => ?_)
  injection e with e
  subst e
  have h':w.heap[g]? = some (.cells cs t (0,0)):=h
  rw[show w.heap[g]? = some (.map es clock) from hm] at h'
  cases h'
end
def RdAt (l:List UInt8)(acc k:Nat):Prop:=rdF (10 - k) k acc (l.drop k)=rd l/\acc<128 ^ k/\k<=10
theorem RdAt.unfold {l:List UInt8}{acc k:Nat}(h:RdAt l acc k)(hk:k<l.length)(h10:k<10) :
    rd l=if k=9/\1<l[k].toNat then none else if 128<=l[k].toNat then rdF (10 - (k+1)) (k+1) (acc+l[k].toNat % 128*128 ^ k) (l.drop (k+1))
      else if l[k].toNat=0/\0<k then none else some (acc+l[k].toNat % 128*128 ^ k,k+1):=by
  rw[<-h.1,List.drop_eq_getElem_cons hk,show 10 - k=(10 - (k+1))+1 from by omega]
  rfl
theorem RdAt.out {l:List UInt8}{acc k:Nat}(h:RdAt l acc k)(hk:l.length<=k∨10<=k):rd l=none:=by
  rw[<-h.1]
  rcases hk with hk|hk
  · rw[List.drop_eq_nil_of_le hk]
    cases 10 - k<;>rfl
  · rw[show 10 - k=0 from by omega]
    rfl

theorem has_gives (w:World)(g o:Nat)(A:Option Addr)(len c n:Nat)(hlen:len<=9223372036854775807)(hc:w.cell? ⟨g,o,none⟩=some (.slice A len c)) :
    Calls Tryz.prog 199 #[.pointer (some ⟨g,o,none⟩),.int .u64 n] w fun e w'=>e = .returned (.bool (decide (n<=len)))/\w=w':=by
  go_enter Tryz.func199,Tryz.ntmps199
  go_wp2
  go_ret
  exact⟨rfl,rfl⟩
theorem take_gives (w:World)(g o:Nat)(A:Option Addr)(len c n:Nat)(hlen:len<=c)(hcc:c<=9223372036854775807)(hn:n<=len)(hc:w.cell? ⟨g,o,none⟩=some (.slice A len c))(hf:w.frozen? ⟨g,o,none⟩=false) :
    Calls Tryz.prog 200 #[.pointer (some ⟨g,o,none⟩),.int .i64 n] w fun e w'=>e = .returned (.slice A n n)/\w.setCell ⟨g,o,none⟩ (.slice (cutA A c n) (len - n) (c - n))=w':=by
  by_cases hcn:c=n
  · obtain rfl:len=c:=by omega
    subst hcn
    go_enter Tryz.func200,Tryz.ntmps200
    go_wp2
    go_ret
    refine⟨rfl,?_⟩
    simp[cutA]
  · go_enter Tryz.func200,Tryz.ntmps200
    go_wp2
    go_ret
    refine⟨rfl,?_⟩
    simp[cutA,hcn]
theorem rfix_snoc (l:List UInt8)(c:UInt8):rfix (l++[c])=256*rfix l+c.toNat:=by simp[rfix]
theorem rfix_take_succ {l:List UInt8}{k:Nat}(hk:k<l.length):rfix (l.take (k+1))=256*rfix (l.take k)+l[k].toNat:=by
  rw[List.take_succ_eq_append_getElem hk,rfix_snoc]
theorem rfix_take_lt {l:List UInt8}{k m:Nat}(hk:k<=m)(hm:m<=8):rfix (l.take k)<18446744073709551616:=by
  have h1:=rfix_lt (l.take k)
  have h2:256 ^ (l.take k).length<=256 ^ 8:=Nat.pow_le_pow_right (by omega) (by simp;omega)
  have h3:(256:Nat) ^ 8=18446744073709551616:=by decide
  omega
theorem rfix_mul {l:List UInt8}{k m:Nat}(hk:k<m)(hm:m<=8):IntKind.u64.wrap (256*(rfix (l.take k):Int))=256*(rfix (l.take k):Int):=by
  have h1:=rfix_lt (l.take k)
  have h2:256 ^ (l.take k).length<=256 ^ 7:=Nat.pow_le_pow_right (by omega) (by simp;omega)
  have h3:(256:Nat) ^ 7=72057594037927936:=by decide
  rw[IntKind.wrap_u64]
  omega
theorem rfix_add {l:List UInt8}{k m:Nat}(hl:k<l.length)(hk:k<m)(hm:m<=8):IntKind.u64.wrap (256*(rfix (l.take k):Int)+(l[k].toNat:Int))=(rfix (l.take (k+1)):Int):=by
  rw[rfix_take_succ hl,IntKind.wrap_u64]
  have h1:=rfix_take_lt (l:=l) (show k+1<=m from hk) hm
  rw[rfix_take_succ hl] at h1
  omega
theorem rfix_or {l:List UInt8}{k m:Nat}(hl:k<l.length)(hk:k<m)(hm:m<=8):bits .or .u64 (IntKind.u64.wrap ((rfix (l.take k):Int)*256)) (l[k].toNat:Int)=(rfix (l.take (k+1)):Int):=by
  have h0:=rfix_mul (l:=l) hk hm
  rw[Int.mul_comm,h0]
  have hc:=l[k].toNat_lt
  have h1:=rfix_take_lt (l:=l) (show k+1<=m from hk) hm
  rw[rfix_take_succ hl] at h1
  have h2:=u64_or_nat (256*rfix (l.take k)) l[k].toNat (by omega) (by omega)
  rw[show 256*(rfix (l.take k):Int)=((256*rfix (l.take k):Nat):Int) from by omega,h2,rfix_take_succ hl]
  congr 1
  exact nat_join 8 _ _ (by omega) (by omega)
def fixV (m:Nat)(l:List UInt8):Value:=if l.length<m then .tuple #[.int .u64 0,.int .i64 130] else .tuple #[.int .u64 (rfix (l.take m):Int),.int .i64 0]
theorem refReadFixed_gives (w:World)(B:Nat)(A:Option Addr)(c:Nat)(l:List UInt8)(m:Nat)(hm:m<=8)(h:InB w B A c l) :
    Calls Tryz.prog 119 #[.slice A l.length c,.int .i64 m] w fun e w'=>e = .returned (fixV m l)/\w=w':=by
  have hle:=h.le
  have hmax:=h.max
  unfold fixV
  by_cases hs:l.length<m
  · rw[if_pos hs]
    go_enter Tryz.func119,Tryz.ntmps119
    go_wp2_with fail
    go_ret2
    exact⟨rfl,rfl⟩
  · rw[if_neg hs]
    go_enter Tryz.func119,Tryz.ntmps119
    go_wp2_with fail
    go_loop [6,7] (fun s i=>∃k:Nat,k<=m/\i = .int .i64 k/\s = .int .u64 (rfix (l.take k):Int)) (fun _ i=>m - (intOf i).toNat)
    case atStart=>exact⟨0,by omega,rfl,rfl⟩
    case round =>
      obtain⟨k,hk,rfl,rfl⟩:=hrel
      by_cases hlt:k<m
      · have hkl:k<l.length:=by omega
        obtain⟨g,o,rfl,_,hc⟩:=h.lies (by omega)
        have hck:=hc k hkl
        clear hc
        have hbd:=(l[k]).toNat_lt
        have h1:=rfix_mul (l:=l) hlt hm
        have h2:=rfix_add hkl hlt hm
        go_wp2_with fail
        refine⟨⟨k+1,by omega,by go_num,rfl⟩,by simp[intOf];omega⟩
      · obtain rfl:k=m:=by omega
        go_wp2_with fail
        go_ret2
        exact⟨rfl,rfl⟩
theorem rnumber_gives (w:World)(g B:Nat)(A:Option Addr)(c:Nat)(l:List UInt8)(m:Nat)(hm:m<=8)(hB:B<=g)(h:InB w B A c l)(hc:w.cell? ⟨g,0,none⟩=some (.slice A l.length c))(hf:w.frozen? ⟨g,0,none⟩=false) :
    Calls Tryz.prog 179 #[.pointer (some ⟨g,0,none⟩),.int .i64 m] w fun e w'=>e = .returned (fixV m l)/\Below g w w':=by
  have hle:=h.le
  have hmax:=h.max
  unfold fixV
  by_cases hs:l.length<m
  · rw[if_pos hs]
    have hd:decide (m<=l.length)=false:=by simp;omega
    go_enter Tryz.func179,Tryz.ntmps179
    go_wp2_with (first|(go_at_call 199;refine(has_gives _ g 0 A l.length c m (by omega) hc).mono ?_;rintro e w' ⟨rfl,rfl⟩))
    go_ret2
    exact⟨rfl,Below.refl _ _⟩
  · rw[if_neg hs]
    have hd:decide (m<=l.length)=true:=by simp;omega
    have hin:InB (w.setCell ⟨g,0,none⟩ (.slice (cutA A c m) (l.length - m) (c - m))) B A c l:=h.keep fun p hp=>World.cell?_setCell_other w _ p _ (fun e=>by subst e;simp at hp;omega)
    go_enter Tryz.func179,Tryz.ntmps179
    go_wp2_with (first|(go_at_call 199;refine(has_gives _ g 0 A l.length c m (by omega) hc).mono ?_;rintro e w' ⟨rfl,rfl⟩)|(go_at_call 200;refine(take_gives _ g 0 A l.length c m (by omega) (by omega) (by omega) hc hf).mono ?_;rintro e w' ⟨rfl,rfl⟩))
    clear hc
    have hb:Below g w (w.setCell ⟨g,0,none⟩ (.slice (cutA A c m) (l.length - m) (c - m))):=(Below.refl g w).setCell (p:=⟨g,0,none⟩) (Nat.le_refl g) _
    generalize w.setCell ⟨g,0,none⟩ (.slice (cutA A c m) (l.length - m) (c - m))=W at *
    go_loop [4,21] (fun s i=>∃k:Nat,k<=m/\i = .int .i64 k/\s = .int .u64 (rfix (l.take k):Int)) (fun _ i=>m - (intOf i).toNat)
    case atStart=>exact⟨0,by omega,rfl,rfl⟩
    case round =>
      obtain⟨k,hk,rfl,rfl⟩:=hrel
      by_cases hlt:k<m
      · have hkl:k<l.length:=by omega
        obtain⟨g',o,rfl,_,hc⟩:=hin.lies (by omega)
        have hck:=hc k hkl
        clear hc
        have hbd:=(l[k]).toNat_lt
        have h1:=rfix_or hkl hlt hm
        go_wp2_with fail
        refine⟨⟨k+1,by omega,by go_num,rfl⟩,by simp[intOf];omega⟩
      · obtain rfl:k=m:=by omega
        go_wp2_with fail
        go_ret2
        exact⟨rfl,hb⟩
def fixV32 (l:List UInt8):Value:=if l.length<4 then .tuple #[.int .u32 0,.int .i64 130] else .tuple #[.int .u32 (rfix (l.take 4):Int),.int .i64 0]
theorem fixV_lt {m:Nat}{l:List UInt8}(h:l.length<m):fixV m l = .tuple #[.int .u64 0,.int .i64 130]:=by unfold fixV;rw[if_pos h]
theorem fixV_ge {m:Nat}{l:List UInt8}(h:¬ l.length<m):fixV m l = .tuple #[.int .u64 (rfix (l.take m):Int),.int .i64 0]:=by unfold fixV;rw[if_neg h]
theorem fixV32_lt {l:List UInt8}(h:l.length<4):fixV32 l = .tuple #[.int .u32 0,.int .i64 130]:=by unfold fixV32;rw[if_pos h]
theorem fixV32_ge {l:List UInt8}(h:¬ l.length<4):fixV32 l = .tuple #[.int .u32 (rfix (l.take 4):Int),.int .i64 0]:=by unfold fixV32;rw[if_neg h]
theorem readEight_gives (w:World)(A:Option Addr)(c:Nat)(l:List UInt8)(h:InB w w.heap.size A c l) :
    Calls Tryz.prog 146 #[.slice A l.length c] w fun e w'=>e = .returned (fixV 8 l)/\Below w.heap.size w w':=by
  have hb:Below w.heap.size w (w.alloc (Obj.cells #[Value.slice A l.length c] 272)):=(Below.refl _ _).alloc (Nat.le_refl _) _
  have H:=rnumber_gives (w.alloc (Obj.cells #[Value.slice A l.length c] 272)) w.heap.size w.heap.size A c l 8 (by omega) (Nat.le_refl _) (h.below hb) (new_cell _ _ _) (new_free _ _ _ _)
  by_cases hs:l.length<8
  · rw[fixV_lt hs] at H ⊢
    go_enter Tryz.func146,Tryz.ntmps146
    go_wp2_with (go_at_call 179;refine H.mono ?_;rintro e w' ⟨rfl,hb2⟩)
    go_ret2
    exact⟨rfl,hb.trans hb2⟩
  · rw[fixV_ge hs] at H ⊢
    go_enter Tryz.func146,Tryz.ntmps146
    go_wp2_with (go_at_call 179;refine H.mono ?_;rintro e w' ⟨rfl,hb2⟩)
    go_ret2
    exact⟨rfl,hb.trans hb2⟩
theorem readFour_gives (w:World)(A:Option Addr)(c:Nat)(l:List UInt8)(h:InB w w.heap.size A c l) :
    Calls Tryz.prog 148 #[.slice A l.length c] w fun e w'=>e = .returned (fixV32 l)/\Below w.heap.size w w':=by
  have hb:Below w.heap.size w (w.alloc (Obj.cells #[Value.slice A l.length c] 272)):=(Below.refl _ _).alloc (Nat.le_refl _) _
  have H:=rnumber_gives (w.alloc (Obj.cells #[Value.slice A l.length c] 272)) w.heap.size w.heap.size A c l 4 (by omega) (Nat.le_refl _) (h.below hb) (new_cell _ _ _) (new_free _ _ _ _)
  by_cases hs:l.length<4
  · rw[fixV_lt hs] at H
    rw[fixV32_lt hs]
    go_enter Tryz.func148,Tryz.ntmps148
    go_wp2_with (go_at_call 179;refine H.mono ?_;rintro e w' ⟨rfl,hb2⟩)
    go_ret2
    exact⟨rfl,hb.trans hb2⟩
  · rw[fixV_ge hs] at H
    rw[fixV32_ge hs]
    have h4:rfix (l.take 4)<4294967296:=by
      have h1:=rfix_lt (l.take 4)
      have h2:256 ^ (l.take 4).length<=256 ^ 4:=Nat.pow_le_pow_right (by omega) (by simp;omega)
      have h3:(256:Nat) ^ 4=4294967296:=by decide
      omega
    go_enter Tryz.func148,Tryz.ntmps148
    go_wp2_with (go_at_call 179;refine H.mono ?_;rintro e w' ⟨rfl,hb2⟩)
    go_ret2
    exact⟨rfl,hb.trans hb2⟩
theorem OwnB.below {w0 w w':World}{v:Value}{l:List UInt8}(h:OwnB w w0.heap.size v l)(hb:Below w0.heap.size w0 w)(hg:w.grownBy w' v.ownBlock):Below w0.heap.size w0 w' :=
  hb.grown hg hb.size (fun k hk=>(World.ownsRow.lt h k hk).1)
structure InN (w:World)(A:Option Addr)(xs:List Int):Prop where
  lies:0<xs.length->∃g o,A=some ⟨g,o,none⟩/\∀j (h:j<xs.length),w.cell? ⟨g,o+j,none⟩=some (.int .i64 xs[j])
theorem wrap_i64_fr (n:Int)(h0 : -9223372036854775808<=n)(h1:n<9223372036854775808):IntKind.i64.wrap n=n:=by
  simp[IntKind.wrap,IntKind.bits,IntKind.signed]
  split<;>omega
theorem indexFunc_gives (w:World)(A:Option Addr)(c:Nat)(xs:List Int)(h:InN w A xs)(hmax:xs.length<=9223372036854775807)(p:Int->Bool)(f:FuncId)(lb:Array Value)(ef:∀args w,(callFunc f args).run Tryz.prog w = .ok (.enter f args) w)
    (hf:∀x,Calls Tryz.prog f (#[.int .i64 x] ++ lb) w fun e w'=>e = .returned (.bool (p x))/\w=w') :
    Calls Tryz.prog 125 #[.slice A xs.length c,.func (.func f) #[] lb] w fun e w'=>(∃k:Int,e = .returned (.int .i64 k)/\decide (0<=k)=xs.any p)/\w=w':=by
  go_enter Tryz.func125,Tryz.ntmps125
  go_wp2_with fail
  go_loop [8] (fun i=>∃k:Nat,k<=xs.length/\i = .int .i64 k/\Hid ((xs.take k).any p=false)) (fun i=>xs.length - (intOf i).toNat)
  case atStart=>exact⟨0,Nat.zero_le _,rfl,Lib.hid (by simp)⟩
  case round =>
    obtain⟨k,hk,rfl,hno⟩:=hrel
    by_cases hlt:k<xs.length
    · obtain⟨g,o,rfl,hc⟩:=h.lies (by omega)
      have hck:=hc k hlt
      have H:=hf xs[k]
      clear hc hf
      have hk1:IntKind.i64.wrap ((k:Int)+1)=(k:Int)+1:=wrap_i64_fr _ (by omega) (by omega)
      have hnext:p xs[k]=false->(xs.take (k+1)).any p=false:=by
        intro hp
        rw[List.take_succ_eq_append_getElem hlt,List.any_append,hno.out]
        simp[hp]
      have hyes:p xs[k]=true->xs.any p=true:=fun hp=>List.any_eq_true.2 ⟨xs[k],List.getElem_mem hlt,hp⟩
      cases hp:p xs[k] with
      | true =>
        have hy:=hyes hp
        rw[hp] at H
        go_wp2_with fail
        refine H.mono ?_
        clear H
        rintro e w' ⟨rfl,rfl⟩
        go_wp2
        go_ret
        exact⟨⟨(k:Int),rfl,by rw[hy];simp⟩,rfl⟩
      | false =>
        have hn:=Lib.hid (hnext hp)
        rw[hp] at H
        clear hnext hyes
        go_wp2_with fail
        refine H.mono ?_
        clear H
        rintro e w' ⟨rfl,rfl⟩
        go_wp2
        refine⟨⟨k+1,by omega,by go_num,hn⟩,by simp[intOf];omega⟩
    · obtain rfl:k=xs.length:=by omega
      have hn:=hno.out
      rw[List.take_length] at hn
      have hN:=Lib.hid hn
      clear hn hno hf
      go_wp2
      go_ret
      exact⟨⟨-1,rfl,by rw[hN.out];simp⟩,rfl⟩
theorem within1_gives (w:World)(a b:Addr)(lo hi x:Int)(ha:w.cell? a=some (.int .i64 lo))(hb:w.cell? b=some (.int .i64 hi)) :
    Calls Tryz.prog 188 (#[.int .i64 x] ++ #[.pointer (some a),.pointer (some b)]) w fun e w'=>e = .returned (.bool (decide (x<lo) || decide (hi<x)))/\w=w':=by
  by_cases h1:x<lo
  · go_enter Tryz.func188,Tryz.ntmps188
    go_wp2
    go_ret
    exact⟨by simp[h1],rfl⟩
  · go_enter Tryz.func188,Tryz.ntmps188
    go_wp2
    go_ret
    have h2:decide (x<lo)=false:=decide_eq_false (by omega)
    exact⟨by rw[h2,Bool.false_or];rfl,rfl⟩
def isIn (lo hi:Int)(xs:List Int):Bool:=!xs.any (fun x=>decide (x<lo) || decide (hi<x))
theorem isIn_one (lo hi x:Int):isIn lo hi [x]=decide (lo<=x/\x<=hi):=by
  simp only[isIn,List.any_cons,List.any_nil,Bool.or_false]
  by_cases h1:x<lo<;>by_cases h2:hi<x<;>simp[h1,h2]<;>omega
theorem isIn_two (lo hi x y:Int):isIn lo hi [x,y]=(isIn lo hi [x] && isIn lo hi [y]):=by
  simp[isIn,Bool.not_or]
theorem within_gives (w:World)(A:Option Addr)(c:Nat)(xs:List Int)(h:InN w A xs)(hA:∀g o,A=some ⟨g,o,none⟩->g<w.heap.size)(hmax:xs.length<=9223372036854775807)(lo hi:Int) :
    Calls Tryz.prog 164 #[.int .i64 lo,.int .i64 hi,.slice A xs.length c] w fun e w'=>e = .returned (.bool (isIn lo hi xs))/\Below w.heap.size w w':=by
  have hb:Below w.heap.size w ((w.alloc (.cells #[.int .i64 lo] 3)).alloc (.cells #[.int .i64 hi] 3)):=((Below.refl _ _).alloc (Nat.le_refl _) _).alloc (by simp) _
  have b0:=(BlkIs.new w 3 #[.int .i64 lo]).alloc (.cells #[.int .i64 hi] 3)
  have b1:=BlkIs.new (w.alloc (.cells #[.int .i64 lo] 3)) 3 #[.int .i64 hi]
  rw[World.size_alloc] at b1
  have hin:InN ((w.alloc (.cells #[.int .i64 lo] 3)).alloc (.cells #[.int .i64 hi] 3)) A xs:=⟨fun hl=>by
    obtain⟨g,o,e,hc⟩:=h.lies hl
    exact⟨g,o,e,fun j hj=>(hb.cell (p:=⟨g,o+j,none⟩) (hA g o e)).trans (hc j hj)⟩⟩
  have H:=indexFunc_gives _ A c xs hin hmax (fun x=>decide (x<lo) || decide (hi<x)) 188 #[.pointer (some ⟨w.heap.size,0,none⟩),.pointer (some ⟨w.heap.size+1,0,none⟩)] (enters_of Tryz.func188 (by kernel_rfl) rfl)
    (fun x=>within1_gives _ _ _ lo hi x b0.boxed b1.boxed)
  have H2:Calls Tryz.prog 187 #[.slice A xs.length c,.func (.func 188) #[] #[.pointer (some ⟨w.heap.size,0,none⟩),.pointer (some ⟨w.heap.size+1,0,none⟩)]] ((w.alloc (.cells #[.int .i64 lo] 3)).alloc (.cells #[.int .i64 hi] 3))
      fun e w'=>e = .returned (.bool (xs.any (fun x=>decide (x<lo) || decide (hi<x))))/\((w.alloc (.cells #[.int .i64 lo] 3)).alloc (.cells #[.int .i64 hi] 3))=w':=by
    go_enter Tryz.func187,Tryz.ntmps187
    go_wp2_with fail
    refine H.mono ?_
    rintro e w' ⟨⟨k,rfl,hk⟩,rfl⟩
    have hK:=Lib.hid hk
    clear hk
    go_wp2
    go_ret
    exact⟨congrArg (fun b=>Ending.returned (.bool b)) hK.out,rfl⟩
  clear H
  go_enter Tryz.func164,Tryz.ntmps164
  go_wp2_with fail
  refine H2.mono ?_
  rintro e w' ⟨rfl,rfl⟩
  go_wp2
  go_ret
  exact⟨rfl,hb⟩
end Go.Proofs.YtmllnpjldmdaeaaGreat
