/- Texts that the proof of PagerNone leans on, part 2. -/
import Derived.ScopeJumps
import Derived.Lib.SlBytesConst
import Derived.LoopN
import Derived.Stop.BytesEq
import Derived.Test.YtnlimngkagmjpaaGreatPagerNoneB1
open List renaming take_succ_eq_append_getElem → qC, getElem_cons_zero → zB, getElem_mem → qJ, all_eq_true → qG, replicate → zR, take_of_length_le → qA, nil_append → zQ, setIfInBounds_toArray → zA, set_cons_succ → zE, set_cons_zero → zF, length_append → zY, length_cons → zN, getElem?_eq_getElem → zI
open Nat renaming lt_of_lt_of_le → zO, le_refl → zG, zero_add → qK
open Array renaming getElem?_eq_some_iff → zH, getD_eq_getD_getElem? → zT, getElem?_setIfInBounds → zM
set_option linter.unusedVariables false
set_option maxRecDepth 100000
set_option maxHeartbeats 8000000

namespace Go.Proofs.YtnlimngkagmjpaaGreat
open Go Go.RowKit Lou
def Lists (ls:List (List UInt8))(v:Value)(w:World):Prop :=
 ∃b,v = .slice (some ⟨b,0,none⟩) ls.length ls.length/\b<w.heap.size/\∀j (h:j<ls.length),∃A c,w.cell? ⟨b,j,none⟩=some (.slice A ls[j].length c)/\InB w w.heap.size A c ls[j]
theorem lists_stable (ls:List (List UInt8)):∀v w w',Lists ls v w->Grow w w'->Lists ls v w':=by
 rintro v w w' ⟨b,hv,hb,h⟩ hg
 refine⟨b,hv,zO hb hg.size,fun j hj => ?_⟩
 obtain⟨A,c,h1,h2⟩:=h j hj
 exact⟨A,c,(hg.cell (p:=⟨b,j,none⟩) hb).trans h1,(h2.below hg).more hg.size⟩
theorem Lists.pieces {ls:List (List UInt8)}{v:Value}{w:World}(h:Lists ls v w)(hm:ls.length<=1000):∃b,∃zs:List (Piece w w.heap.size),v = .slice (some ⟨b,0,none⟩) zs.length zs.length/\zs.map Piece.l=ls/\InLL w w.heap.size (some ⟨b,0,none⟩) zs.length zs:=by
 obtain⟨b,rfl,hb,h⟩:=h
 have key:∀n,n<=ls.length->∃zs:List (Piece w w.heap.size),zs.length=n/\zs.map Piece.l=ls.take n/\∀j (hj:j<zs.length),w.cell? ⟨b,j,none⟩=some zs[j].val:=by
  intro n
  induction n with
  | zero=>exact fun _=>⟨[],rfl,by simp,fun j hj=>by simp at hj⟩
  | succ n ih =>
   intro hn
   obtain⟨zs,h1,h2,h3⟩:=ih (by omega)
   obtain⟨A,c,h4,h5⟩:=h n (by omega)
   refine⟨zs++[⟨((A,c),ls[n]),h5⟩],by simp[h1],?_,fun j hj => ?_⟩
   ·rw[List.map_append,h2,qC (by omega)]
    rfl
   ·by_cases e:j<zs.length
    ·rw[List.getElem_append_left e]
     exact h3 j e
    ·have:j=n:=by simp at hj;omega
     subst this
     rw[List.getElem_append_right (by omega)]
     simp only[h1,Nat.sub_self,zB]
     exact h4
 obtain⟨zs,h1,h2,h3⟩:=key ls.length (zG _)
 refine⟨b,zs,by rw[h1],by rw[h2,List.take_length],⟨zG _,by omega,fun _=>⟨b,0,rfl,hb,fun j hj=>by rw[qK];exact h3 j hj⟩⟩⟩
theorem concatL_gives {ls:List (List UInt8)}{v:Value}{w:World}(h:Lists ls v w)(hm:ls.length<=1000)(hf:ls.flatten.length<=1000000000):Calls Tryz.prog 79 #[v] w (GivesB w ls.flatten):=by
 obtain⟨b,zs,rfl,hz,hI⟩:=h.pieces hm
 have:=concat_gives w (some ⟨b,0,none⟩) zs.length zs hI (by rw[hz];exact hf)
 rw[hz] at this
 exact this
theorem Lists.new {w:World}(xs:List ((Option Addr×Nat)×List UInt8))(h:∀x∈xs,InB w w.heap.size x.1.1 x.1.2 x.2) :
  Lists (xs.map (·.2)) (.slice (some ⟨w.heap.size,0,none⟩) xs.length xs.length) (w.alloc (.cells (xs.map fun x=>Value.slice x.1.1 x.2.length x.1.2).toArray 22)):=by
 refine⟨w.heap.size,by simp,by simp,fun j hj => ?_⟩
 have hj':j<xs.length:=by simpa using hj
 refine⟨xs[j].1.1,xs[j].1.2,?_,?_⟩
 ·rw[(BlkIs.new w 22 _).cell]
  simp[hj']
 ·have:=h xs[j] (qJ hj')
  rw[List.getElem_map]
  exact(this.below ((Below.refl _ w).alloc (zG _) _)).more (by simp)
theorem OwnB.base {w:World}{b b':Nat}{v:Value}{l:List UInt8}(h:OwnB w b v l)(hb:b'<=b):OwnB w b' v l:=by
 refine⟨h.1,?_⟩
 rcases h.2 with h|⟨g,cap,cur,h1,h2,h3⟩
 ·exact .inl h
 ·exact .inr ⟨g,cap,cur,h1,by omega,h3⟩
theorem GivesB.from {w w1:World}{l:List UInt8}{e:Ending}{w':World}(h:GivesB w1 l e w')(hb:Below w.heap.size w w1):GivesB w l e w':=by
 obtain⟨v,he,hown,hB⟩:=h
 exact⟨v,he,hown.base hb.size,hb.trans (hB.mono hb.size)⟩
theorem concat2_gives (W:World)(A A2:Option Addr)(c c2:Nat)(l l2:List UInt8)(hin:InB W W.heap.size A c l)(hin2:InB W W.heap.size A2 c2 l2)(hf:l.length+l2.length<=1000000000) :
  Calls Tryz.prog 79 #[.slice (some ⟨W.heap.size,0,none⟩) 2 2] (W.alloc (.cells #[.slice A l.length c,.slice A2 l2.length c2] 22)) (GivesB W (l++l2)):=by
 have hN:=Lists.new (w:=W) [((A,c),l),((A2,c2),l2)] (by
  intro x hx
  simp only[List.mem_cons,List.not_mem_nil,or_false] at hx
  rcases hx with rfl|rfl
  ·exact hin
  ·exact hin2)
 have h:=concatL_gives hN (by simp) (by simpa using hf)
 refine h.mono fun e w' hg => ?_
 have:=hg.from ((Below.refl _ W).alloc (zG _) _)
 simpa using this
namespace Reg
variable {L:List (Nat×Fact)}{ops:Array Oper}{w0:World}{o:Oper}
theorem l_build4 (t1 t2 t3 t4:Tmp)(l1 l2 l3 l4:List UInt8)(ho:o.op = .buildSlice 141 4 #[(0,.tmp t1),(1,.tmp t2),(2,.tmp t3),(3,.tmp t4)])
  (c1:(o.looksAt ops).contains t1=true) (c2:(o.looksAt ops).contains t2=true) (c3:(o.looksAt ops).contains t3=true) (c4:(o.looksAt ops).contains t4=true)
  (f1:factOf L t1 = .res l1) (f2:factOf L t2 = .res l2) (f3:factOf L t3 = .res l3) (f4:factOf L t4 = .res l4) (hd:FD L o.dst = .pred (Lists [l1,l2,l3,l4]) (lists_stable _)):RunOk Tryz.prog ops (FSof L) w0 o:=by
 intro a w K Q hG hl hK
 have g1:(factOf L t1).holds (a.eval (.tmp t1)) w:=hl t1 c1
 have g2:(factOf L t2).holds (a.eval (.tmp t2)) w:=hl t2 c2
 have g3:(factOf L t3).holds (a.eval (.tmp t3)) w:=hl t3 c3
 have g4:(factOf L t4).holds (a.eval (.tmp t4)) w:=hl t4 c4
 rw[f1] at g1
 rw[f2] at g2
 rw[f3] at g3
 rw[f4] at g4
 obtain⟨A1,k1,e1,h1⟩:=g1
 obtain⟨A2,k2,e2,h2⟩:=g2
 obtain⟨A3,k3,e3,h3⟩:=g3
 obtain⟨A4,k4,e4,h4⟩:=g4
 have hN:=Lists.new (w:=w) [((A1,k1),l1),((A2,k2),l2),((A3,k3),l3),((A4,k4),l4)] (by
  intro x hx
  simp only[List.mem_cons,List.not_mem_nil,or_false] at hx
  rcases hx with rfl|rfl|rfl|rfl
  ·exact h1
  ·exact h2
  ·exact h3
  ·exact h4)
 have key:∀ρ:Operand->Value,ρ (.tmp t1) = .slice A1 l1.length k1->ρ (.tmp t2) = .slice A2 l2.length k2->ρ (.tmp t3) = .slice A3 l3.length k3->ρ (.tmp t4) = .slice A4 l4.length k4 ->
   (execOp ρ o).run Tryz.prog w = .ok (.value (.slice (some ⟨w.heap.size,0,none⟩) 4 4)) (w.alloc (.cells #[.slice A1 l1.length k1,.slice A2 l2.length k2,.slice A3 l3.length k3,.slice A4 l4.length k4] 22)) :=
  fun ρ h1 h2 h3 h4=>by simp[execOp,ho,h1,h2,h3,h4,go_sem,Result.andThen]
 unfold Oper.wp
 rw[key _ e1 e2 e3 e4]
 exact hK _ _ (Grow.alloc _ _) (fsd hd hN)
end Reg
def planOk (fr pg:Int):Bool:=isIn 1 2000 [fr] && isIn 1 2000 [pg]
theorem planOk_iff (fr pg:Int):planOk fr pg=true↔(1<=fr/\fr<=2000)/\(1<=pg/\pg<=2000):=by
 simp[planOk,isIn_one]
theorem InN.one (W:World)(x:Int):InN (W.alloc (.cells #[.int .i64 x] 3)) (some ⟨W.heap.size,0,none⟩) [x]:=⟨fun _=>⟨_,_,rfl,fun j hj=>by
 obtain rfl:j=0:=by simpa using hj
 exact(BlkIs.new W 3 #[.int .i64 x]).boxed⟩⟩
theorem withinOne_gives (W:World)(lo hi x:Int) :
  Calls Tryz.prog 176 #[.int .i64 lo,.int .i64 hi,.slice (some ⟨W.heap.size,0,none⟩) 1 1] (W.alloc (.cells #[.int .i64 x] 3)) fun e w'=>e = .returned (.bool (isIn lo hi [x]))/\Below W.heap.size W w' :=
 (within_gives (W.alloc (.cells #[.int .i64 x] 3)) (some ⟨W.heap.size,0,none⟩) 1 [x] (InN.one W x) (fun g o e=>by injection e with e;injection e with e1;subst e1;simp) (by simp) lo hi).mono fun e w' ⟨he,hB⟩ =>
  ⟨he,((Below.refl _ W).alloc (zG _) _).trans (hB.mono (by simp))⟩
theorem check_gives (fr pg:Int)(w:World) :
  Calls Tryz.prog 133 #[.agg #[.int .i64 fr,.int .i64 pg]] w fun e w'=>e = .returned (.int .i64 (if planOk fr pg then 0 else 2))/\Below w.heap.size w w':=by
 have hb:=BlkIs.new w 25 #[.int .i64 fr,.int .i64 pg]
 have hB0:Below w.heap.size w (w.alloc (.cells #[.int .i64 fr,.int .i64 pg] 25)):=(Below.refl _ w).alloc (zG _) _
 obtain⟨v,hv⟩:∃v:Int,v=if planOk fr pg then 0 else 2:=⟨_,rfl⟩
 rw[<-hv]
 have hV:=Lib.hid hv
 clear hv
 go_enter Tryz.func133,Tryz.ntmps133
 have H:=withinOne_gives (w.alloc (.cells #[.int .i64 fr,.int .i64 pg] 25)) 1 2000 fr
 rw[World.size_alloc] at H
 cases h1:isIn 1 2000 [fr] with
 | false =>
  rw[h1] at H
  have e2:v=2:=by rw[hV.out];simp[planOk,h1]
  subst e2
  go_wp2_with (go_at_call 176;refine H.mono ?_;rintro e w1 ⟨rfl,hB⟩)
  go_ret
  exact⟨rfl,hB0.trans (hB.mono (by simp))⟩
 | true =>
  rw[h1] at H
  go_wp2_with fail
  refine H.mono ?_
  clear H
  rintro e w1 ⟨rfl,hB⟩
  have hb1:=hb.below hB (by simp)
  have hc1:w1.cell? ⟨w.heap.size,1,none⟩=some (.int .i64 pg):=by rw[hb1.cell];rfl
  have hB1:=hB0.trans (hB.mono (by simp))
  have H:=withinOne_gives w1 1 2000 pg
  go_wp2_with fail
  refine H.mono ?_
  clear H
  rintro e w2 ⟨rfl,hB2⟩
  cases h2:isIn 1 2000 [pg] with
  | false =>
   have e2:v=2:=by rw[hV.out];simp[planOk,h2]
   subst e2
   go_wp2
   go_ret
   exact⟨rfl,hB1.trans (hB2.mono hB1.size)⟩
  | true =>
   have e2:v=0:=by rw[hV.out];simp[planOk,h1,h2]
   subst e2
   go_wp2
   go_ret
   exact⟨rfl,hB1.trans (hB2.mono hB1.size)⟩
def plE (ok:Bool)(i many:Int):Int:=if ok then (if 0<=i/\i<many then 0 else 4) else 2
def PlNone (e:Int)(a:Act):Prop:=∃u0 u1 u2 u3 u4 u5 u6 u7 u8 u10 u11 u12 u13 u14 u15 u16 u17 u18 u19 u20 u21 u22 u23,a = { tmps:=#[u0,u1,u2,u3,u4,u5,u6,u7,u8,.int .i64 e,u10,u11,u12,u13,u14,u15,u16,u17,u18,u19,u20,u21,u22,u23],defers:=[] }
theorem place_gives (fr pg i many r:Int)(g:FuncId)(lb:Array Value)(eg:∀args w,(callFunc g args).run Tryz.prog w = .ok (.enter g args) w)(w:World)
  (hof:planOk fr pg=true->0<=i->i<many->∀W,Below w.heap.size w W->Calls Tryz.prog g lb W fun e w'=>e = .returned (.int .i64 r)/\W=w') :
  Calls Tryz.prog 88 #[.agg #[.int .i64 fr,.int .i64 pg],.int .i64 i,.int .i64 many,.func (.func g) #[] lb] w fun e w' =>
   e = .returned (.tuple #[.int .i64 (if plE (planOk fr pg) i many=0 then r else 0),.int .i64 (plE (planOk fr pg) i many)])/\Below w.heap.size w w':=by
 have hB0:Below w.heap.size w (w.alloc (.cells #[.int .i64 fr,.int .i64 pg] 25)):=(Below.refl _ w).alloc (zG _) _
 obtain⟨v,hv⟩:∃v:Int,v=plE (planOk fr pg) i many:=⟨_,rfl⟩
 obtain⟨u,hu⟩:∃u:Int,u=if v=0 then r else 0:=⟨_,rfl⟩
 rw[<-hv,<-hu]
 have hV:=Lib.hid hv
 have hU:=Lib.hid hu
 clear hv hu
 go_enter Tryz.func88,Tryz.ntmps88
 go_wp2_with fail
 refine wp_scope_jumps (rest:=?rest) 0 (fun a w'=>Hid (u=0)/\PlNone v a/\Below w.heap.size w w') (fun _ _=>0) ?hf ?first ?pass
 case hf=>exact rfl
 case pass =>
  rintro a w' ⟨hn,⟨u0,u1,u2,u3,u4,u5,u6,u7,u8,u10,u11,u12,u13,u14,u15,u16,u17,u18,u19,u20,u21,u22,u23,rfl⟩,hB⟩
  go_wp2
  simp only[Exit.jump]
  go_wp2
  refine bodyPost_ret (results_tmp2 rfl _ _ _) rfl ?_
  have e:=hn.out
  subst e
  exact⟨rfl,hB⟩
 case first =>
  have H:=check_gives fr pg (w.alloc (.cells #[.int .i64 fr,.int .i64 pg] 25))
  cases hp:planOk fr pg with
  | false =>
   rw[hp] at H
   have e2:v=2:=by rw[hV.out,hp];rfl
   have eu:Hid (u=0):=Lib.hid (by rw[hU.out,e2];rfl)
   subst e2
   go_wp2_with (go_at_call 133;refine H.mono ?_;rintro e w1 ⟨rfl,hB⟩)
   go_step3
   exact⟨rfl,eu,by repeat (first|exact rfl|apply Exists.intro),hB0.trans (hB.mono (by simp))⟩
  | true =>
   rw[hp] at H
   by_cases h1:0<=i/\i<many
   ·have e2:v=0:=by rw[hV.out,hp];simp[plE,h1]
    have eu:u=r:=by rw[hU.out,e2];rfl
    subst e2 eu
    have hof:=hof hp h1.1 h1.2
    obtain⟨h1,h2⟩:=h1
    go_wp2_with (go_at_call 133;refine H.mono ?_;rintro e w1 ⟨rfl,hB⟩)
    refine(hof _ (hB0.trans (hB.mono (by simp)))).mono ?_
    rintro e w2 ⟨rfl,rfl⟩
    go_wp2
    simp only[Exit.jump]
    refine bodyPost_ret (results_tmp2 rfl _ _ _) rfl ?_
    exact⟨rfl,hB0.trans (hB.mono (by simp))⟩
   ·have e2:v=4:=by rw[hV.out,hp];simp[plE,h1]
    have eu:Hid (u=0):=Lib.hid (by rw[hU.out,e2];rfl)
    subst e2
    have h2:i<0∨(0<=i/\many<=i):=by omega
    clear h1
    rcases h2 with h2|⟨h2,h3⟩
    ·go_wp2_with (go_at_call 133;refine H.mono ?_;rintro e w1 ⟨rfl,hB⟩)
     go_step3
     exact⟨rfl,eu,by repeat (first|exact rfl|apply Exists.intro),hB0.trans (hB.mono (by simp))⟩
    ·go_wp2_with (go_at_call 133;refine H.mono ?_;rintro e w1 ⟨rfl,hB⟩)
     go_step3
     exact⟨rfl,eu,by repeat (first|exact rfl|apply Exists.intro),hB0.trans (hB.mono (by simp))⟩
def headOk (z c:Int):Bool:=isIn 0 2000 [z] && isIn 0 2000 [c]
theorem headOk_iff (z c:Int):headOk z c=true↔(0<=z/\z<=2000)/\(0<=c/\c<=2000):=by
 simp[headOk,isIn_one]
theorem fits_gives (s e:Nat)(z c:Int)(w:World) :
  Calls Tryz.prog 137 #[.agg #[.int .u64 (s:Int),.int .u64 (e:Int),.int .i64 z,.int .i64 c]] w fun x w'=>x = .returned (.bool (headOk z c))/\Below w.heap.size w w':=by
 have hb:=BlkIs.new w 106 #[.int .u64 (s:Int),.int .u64 (e:Int),.int .i64 z,.int .i64 c]
 have hB0:Below w.heap.size w (w.alloc (.cells #[.int .u64 (s:Int),.int .u64 (e:Int),.int .i64 z,.int .i64 c] 106)):=(Below.refl _ w).alloc (zG _) _
 have H:=withinOne_gives (w.alloc (.cells #[.int .u64 (s:Int),.int .u64 (e:Int),.int .i64 z,.int .i64 c] 106)) 0 2000 z
 rw[World.size_alloc] at H
 obtain⟨v,hv⟩:∃v:Bool,v=headOk z c:=⟨_,rfl⟩
 rw[<-hv]
 have hV:=Lib.hid hv
 clear hv
 go_enter Tryz.func137,Tryz.ntmps137
 cases h1:isIn 0 2000 [z] with
 | false =>
  rw[h1] at H
  have e2:v=false:=by rw[hV.out];simp[headOk,h1]
  subst e2
  go_wp2_with (go_at_call 176;refine H.mono ?_;rintro e w1 ⟨rfl,hB⟩)
  go_ret
  exact⟨rfl,hB0.trans (hB.mono (by simp))⟩
 | true =>
  rw[h1] at H
  go_wp2_with fail
  refine H.mono ?_
  clear H
  rintro e w1 ⟨rfl,hB⟩
  have hb1:=hb.below hB (by simp)
  have hc1:w1.cell? ⟨w.heap.size,3,none⟩=some (.int .i64 c):=by rw[hb1.cell];rfl
  have hB1:=hB0.trans (hB.mono (by simp))
  have H:=withinOne_gives w1 0 2000 c
  have e2:v=isIn 0 2000 [c]:=by rw[hV.out];simp[headOk,h1]
  generalize isIn 0 2000 [c]=b at *
  subst e2
  go_wp2_with fail
  refine H.mono ?_
  clear H
  rintro e w2 ⟨rfl,hB2⟩
  go_wp2
  go_ret
  exact⟨rfl,hB1.trans (hB2.mono hB1.size)⟩
theorem and_mask (x:Nat)(h:x<4294967296):bits .and .u64 (x:Int) 4294967295=(x:Int):=by
 have h2:=u64_and_nat x 4294967295 (by omega) (by omega)
 have e:x &&& 4294967295=x % 4294967296:=Nat.and_two_pow_sub_one_eq_mod x 32
 rw[e,Nat.mod_eq_of_lt h] at h2
 exact h2
theorem mul64_gives (x y:Nat)(hx:x<65536)(hy:y<65536)(w:World):Calls Tryz.prog 237 #[.int .u64 x,.int .u64 y] w fun e w'=>e = .returned (.tuple #[.int .u64 0,.int .u64 ((x*y:Nat):Int)])/\w=w':=by
 have hxy:x*y<4294967296:=Nat.mul_lt_mul'' hx hy
 have e1:=and_mask x (by omega)
 have e2:=and_mask y (by omega)
 have e3:=and_mask (x*y) hxy
 have h0:(x:Int) / 4294967296=0:=by omega
 have h1:(y:Int) / 4294967296=0:=by omega
 have h2:((x*y:Nat):Int) / 4294967296=0:=by omega
 have h3:IntKind.u64.wrap ((x*y:Nat):Int)=((x*y:Nat):Int):=by
  show ((x*y:Nat):Int) % 18446744073709551616=_
  omega
 have h4:IntKind.u64.wrap 0=0:=by decide
 have hm:((x*y:Nat):Int)=(x:Int)*(y:Int):=by simp
 rw[hm] at e3 h2 h3 ⊢
 have h5:bits .and .u64 0 4294967295=0:=and_mask 0 (by omega)
 clear hm hxy hx hy
 go_enter Tryz.func237,Tryz.ntmps237
 go_wp2
 refine bodyPost_ret (results_tmp2 rfl _ _ _) rfl ?_
 exact⟨rfl,rfl⟩
theorem mul_gives (x y:Nat)(hx:x<65536)(hy:y<65536)(w:World):Calls Tryz.prog 212 #[.int .u64 x,.int .u64 y] w fun e w'=>e = .returned (.tuple #[.int .u64 0,.int .u64 ((x*y:Nat):Int)])/\w=w':=by
 have H:=mul64_gives x y hx hy w
 generalize x*y=z at *
 go_enter Tryz.func212,Tryz.ntmps212
 go_wp2_with fail
 refine H.mono ?_
 rintro e w' ⟨rfl,rfl⟩
 go_wp2
 refine bodyPost_ret (results_tmp2 rfl _ _ _) rfl ?_
 exact⟨rfl,rfl⟩
end Go.Proofs.YtnlimngkagmjpaaGreat
namespace Go.Proofs.YtnlimngkagmjpaaGreat
open Go Go.RowKit
namespace Reg
variable {P:Program}{ops:Array Oper}
def backs (ops:Array Oper):Bool:=ops.toList.zipIdx.all fun (o,i)=>o.after.toList.all fun e => !Region.binds .any e || decide (e.on<i)
def ahead (ops:Array Oper)(o:Oper)(t:Nat):Bool:=ops.toList.zipIdx.all fun (p,j)=>p.dst != some t || (o.after.toList.any fun e=>Region.binds .any e && e.on == j)
def waits (ops:Array Oper)(i:Nat)(t:Nat):Bool:=ops.toList.zipIdx.all fun (p,_)=>p.dst != some t || (p.after.toList.any fun e=>Region.binds .any e && e.on == i)
theorem backs_spec (h:backs ops=true){i:Nat}{o:Oper}(ho:ops[i]? = some o):∀e∈o.after.toList,Region.binds .any e=true->e.on<i:=by
 unfold backs at h
 rw[qG] at h
 have hm:(o,i)∈ops.toList.zipIdx:=by
  rw[List.mem_zipIdx_iff_getElem?]
  simpa using ho
 have:=h _ hm
 simp only[qG] at this
 intro e he hb
 have:=this e he
 simpa[hb] using this
theorem ahead_spec {o:Oper}{t:Nat}(h:ahead ops o t=true){j:Nat}{p:Oper}(hp:ops[j]? = some p)(hd:p.dst=some t):∃e∈o.after.toList,Region.binds .any e=true/\e.on=j:=by
 unfold ahead at h
 rw[qG] at h
 have hm:(p,j)∈ops.toList.zipIdx:=by
  rw[List.mem_zipIdx_iff_getElem?]
  simpa using hp
 have:=h _ hm
 simp only[hd,bne_self_eq_false,Bool.false_or,List.any_eq_true,Bool.and_eq_true,beq_iff_eq] at this
 obtain⟨e,he,hb,hj⟩:=this
 exact⟨e,he,hb,hj⟩
theorem waits_spec {i t:Nat}(h:waits ops i t=true){j:Nat}{p:Oper}(hp:ops[j]? = some p)(hd:p.dst=some t):∃e∈p.after.toList,Region.binds .any e=true/\e.on=i:=by
 unfold waits at h
 rw[qG] at h
 have hm:(p,j)∈ops.toList.zipIdx:=by
  rw[List.mem_zipIdx_iff_getElem?]
  simpa using hp
 have:=h _ hm
 simp only[hd,bne_self_eq_false,Bool.false_or,List.any_eq_true,Bool.and_eq_true,beq_iff_eq] at this
 obtain⟨e,he,hb,hj⟩:=this
 exact⟨e,he,hb,hj⟩
def StepOk (P:Program)(ops:Array Oper)(Inv:Array Bool->Act->World->Prop)(i:Nat)(o:Oper):Prop :=
 ∀(listed:Array Bool) (a:Act) (w:World) (K:Act->World->Prop) (Q:Exit->Act->World->Prop),listed.size=ops.size->listed.getD i true=false->(∀e∈o.after.toList,Region.binds .any e=true->listed.getD e.on false=true) ->
  Inv listed a w->(∀v w',Inv (listed.setIfInBounds i true) (a.put o.dst v) w'->K (a.put o.dst v) w') ->
  (if Region.wanted o (yielded ops a.tmps) then o.wp P a w K Q∨(o.asks P a w/\LetsOut Q) else K (a.put o.dst undef) w)
theorem region_inv (hm:P.follows .mixedOrders=true)(hcov:backs ops=true){id:Nat}{a0:Act}{w0:World}{Q:Exit->Act->World->Prop}(Inv:Array Bool->Act->World->Prop)
  (h0:Inv (Array.replicate ops.size false) a0 w0.drew) (hstep:∀i o,ops[i]? = some o->StepOk P ops Inv i o)
  (hend:∀listed a w,listed.size=ops.size->(∀i,i<ops.size->listed.getD i true=true)->Inv listed a w->Q .normal a w) :
  (Code.region id ops true).wp P Q a0 w0:=by
 refine wp_region_any hm ?_
 have key:∀(fuel:Nat) (listed:Array Bool) (a:Act) (w:World),listed.size=ops.size->left listed<=fuel->Inv listed a w->wpAny P .any ops Q fuel listed a w:=by
  intro fuel
  have hdone:∀(listed:Array Bool) (a:Act) (w:World),listed.size=ops.size->Inv listed a w->Region.ready .any ops listed=[]->Q .normal a w:=by
   intro listed a w hs hJ hr
   refine hend listed a w hs ?_ hJ
   intro i
   induction i using Nat.strongRecOn with
   | _ i ih =>
    intro hi
    cases hl:listed.getD i true with
    | true=>rfl
    | false =>
     exfalso
     have:i∈Region.ready .any ops listed:=by
      unfold Region.ready
      simp only[List.mem_filter,List.mem_range,Bool.and_eq_true,Bool.not_eq_true']
      refine⟨hi,hl,?_⟩
      have ho:ops[i]? = some ops[i]:=Array.getElem?_eq_getElem hi
      simp only[ho,Option.map_some,Option.getD_some]
      rw[Array.all_eq_true_iff_forall_mem]
      intro e he
      have hc:=backs_spec hcov ho e (Array.mem_toList_iff.2 he)
      cases hb:Region.binds .any e with
      | false=>simp
      | true =>
       have hlt:=hc hb
       have h1:=ih e.on hlt (by omega)
       have h2:e.on<listed.size:=by omega
       simp only[Array.getD,h2,dif_pos] at h1 ⊢
       simpa using h1
     rw[hr] at this
     cases this
  induction fuel with
  | zero =>
   intro listed a w hs hf hJ
   have hr:Region.ready .any ops listed=[]:=by
    rcases hr:Region.ready .any ops listed with _|⟨i,r⟩
    ·rfl
    ·exfalso
     obtain⟨o,ho,hl,_⟩:=ready_mem (ops:=ops) (listed:=listed) (i:=i) (by rw[hr];simp)
     have hi:i<listed.size:=by rw[hs];exact(zH.1 ho).1
     have hmem:listed[i]∈listed.toList.filter (! ·):=by
      rw[List.mem_filter]
      refine⟨by simp,?_⟩
      have hl':listed[i]=false:=by simpa[Array.getD,hi] using hl
      simp[hl']
     have:0<left listed:=List.length_pos_of_mem hmem
     omega
   exact⟨hr,hdone listed a w hs hJ hr⟩
  | succ fuel ih =>
   intro listed a w hs hf hJ
   refine⟨hdone listed a w hs hJ,fun i hi => ?_⟩
   obtain⟨o,ho,hl,hedges⟩:=ready_mem hi
   have hisz:i<listed.size:=by rw[hs];exact(zH.1 ho).1
   have hnext:∀v w',Inv (listed.setIfInBounds i true) (a.put o.dst v) w'->wpAny P .any ops Q fuel (listed.setIfInBounds i true) (a.put o.dst v) w':=by
    intro v w' hv
    refine ih _ _ _ (by simpa using hs) ?_ hv
    have hl':listed[i]=false:=by simpa[Array.getD,hisz] using hl
    have:left (listed.setIfInBounds i true)<left listed:=by
     unfold left
     rw[Array.toList_setIfInBounds]
     have e1:listed.toList=listed.toList.take i++false::listed.toList.drop (i+1):=by
      have h3:listed.toList[i]'(by simpa using hisz)=false:=by simpa using hl'
      conv=>lhs;rw[<-List.take_append_drop i listed.toList,List.drop_eq_getElem_cons (by simpa using hisz),h3]
     rw[List.set_eq_take_append_cons_drop,if_pos (by simpa using hisz)]
     conv=>rhs;rw[e1]
     simp
    omega
   have:=hstep i o ho listed a w (fun a' w'=>wpAny P .any ops Q fuel (listed.setIfInBounds i true) a' w') Q hs hl hedges hJ hnext
   unfold wpOp
   simp only[ho]
   exact this
 refine key ops.size _ a0 _ (by simp) ?_ h0
 unfold left
 simp
end Reg
end Go.Proofs.YtnlimngkagmjpaaGreat
namespace Go.Proofs.YtnlimngkagmjpaaGreat
open Go Go.RowKit Lou
namespace Reg
variable {P:Program}{ops:Array Oper}
abbrev WInv:=Array Bool->Act->World->Prop
structure J2 (ops:Array Oper)(FS:Tmp->Value->World->Prop)(a0:Act)(D:List Nat)(WI:WInv)(listed:Array Bool)(a:Act)(w:World):Prop where
 size:a.tmps.size=a0.tmps.size
 defers:a.defers=a0.defers
 facts:∀t,Known ops listed t->FS t (a.eval (.tmp t)) w
 wi:WI listed a w
 rest:∀t,D.contains t=false->a.eval (.tmp t)=a0.eval (.tmp t)
 old:∀t,(∀(j:Nat) (p:Oper),ops[j]? = some p->p.dst=some t->listed.getD j true=false)->a.eval (.tmp t)=a0.eval (.tmp t)
 closed:∀(j:Nat) (p:Oper),ops[j]? = some p->listed.getD j true=true->∀e∈p.after.toList,Region.binds .any e=true->listed.getD e.on false=true
def Op2 (P:Program)(ops:Array Oper)(a0:Act)(FS:Tmp->Value->World->Prop)(WI:WInv)(i:Nat)(o:Oper):Prop :=
 ∀(listed:Array Bool) (a:Act) (w:World) (K:Act->World->Prop) (Q:Exit->Act->World->Prop),listed.size=ops.size->listed.getD i true=false->(∀e∈o.after.toList,Region.binds .any e=true->listed.getD e.on false=true) ->
  WI listed a w->(∀t,(o.looksAt ops).contains t=true->ahead ops o t=true->FS t (a.eval (.tmp t)) w)->(∀t,waits ops i t=true->a.eval (.tmp t)=a0.eval (.tmp t)) ->
  (∀v w',(∀t u,FS t u w->FS t u w')->FSd FS o.dst v w'->WI (listed.setIfInBounds i true) (a.put o.dst v) w'->K (a.put o.dst v) w') ->
  (if Region.wanted o (yielded ops a.tmps) then o.wp P a w K Q∨(o.asks P a w/\LetsOut Q) else K (a.put o.dst undef) w)
def AllOp2 (P:Program)(ops:Array Oper)(a0:Act)(FS:Tmp->Value->World->Prop)(WI:WInv):Nat->List Oper->Prop
 | _,[]=>True
 | k,o::r=>Op2 P ops a0 FS WI k o/\AllOp2 P ops a0 FS WI (k+1) r
theorem AllOp2.get {a0:Act}{FS:Tmp->Value->World->Prop}{WI:WInv}:∀{l:List Oper} {k:Nat},AllOp2 P ops a0 FS WI k l->∀i o,l[i]? = some o->Op2 P ops a0 FS WI (k+i) o
 | [],_,_,i,o,h=>by simp at h
 | x::r,k,h,0,o,ho=>by
  simp at ho
  subst ho
  exact h.1
 | x::r,k,h,i+1,o,ho=>by
  have:=AllOp2.get h.2 i o (by simpa using ho)
  rw[show k+(i+1)=k+1+i from by omega]
  exact this
theorem op2_of {a0:Act}{FS:Tmp->Value->World->Prop}{WI:WInv}{i:Nat}{o:Oper}(hst:∀t v w w',FS t v w->Grow w w'->FS t v w')(h:∀w0,OpOk P ops FS w0 o)(hah:((o.looksAt ops).all (ahead ops o))=true)
  (hWI:∀listed a v w w',WI listed a w->Grow w w'->WI (listed.setIfInBounds i true) (a.put o.dst v) w'):Op2 P ops a0 FS WI i o:=by
 intro listed a w K Q hs hl he hw hlook _ hK
 exact h w a w K Q (Grow.refl w) (fun t ht=>hlook t ht (by
  rw[qG] at hah
  exact hah t (by simpa using ht))) (fun v w' hg hf=>hK v w' (fun t u hu=>hst t u w w' hu hg) hf (hWI _ _ _ _ _ hw hg))
theorem region2 (hm:P.follows .mixedOrders=true)(hcov:backs ops=true){id:Nat}{a0:Act}{w0:World}{Q:Exit->Act->World->Prop}(n:Nat)(hn:a0.tmps.size=n)(hdst:dstsIn ops n=true)(D:List Nat)(hD:dstsAre ops D=true)
  (FS:Tmp->Value->World->Prop) (WI:WInv) (hstart:∀t,(∀o∈ops.toList,o.dst≠some t)->FS t (a0.eval (.tmp t)) w0.drew) (h0:WI (Array.replicate ops.size false) a0 w0.drew)
  (hok:AllOp2 P ops a0 FS WI 0 ops.toList)
  (hend:∀listed a w,(∀i,i<ops.size->listed.getD i true=true)->J2 ops FS a0 D WI listed a w->(∀t,FS t (a.eval (.tmp t)) w)->Q .normal a w) :
  (Code.region id ops true).wp P Q a0 w0:=by
 have hD':∀o∈ops.toList,∀d,o.dst=some d->D.contains d=true:=by
  intro o ho d hd
  unfold dstsAre at hD
  rw[qG] at hD
  have:=hD o ho
  simpa[hd] using this
 have hdst':∀o∈ops.toList,∀d,o.dst=some d->d<n:=by
  intro o ho d hd
  unfold dstsIn at hdst
  rw[qG] at hdst
  have:=hdst o ho
  simpa[hd] using this
 refine region_inv hm hcov (J2 ops FS a0 D WI) ⟨rfl,rfl,?_,h0,fun _ _=>rfl,fun _ _=>rfl,fun j p hp h=>by
  have hj:=(zH.1 hp).1
  simp[Array.getD,hj] at h⟩ ?_ ?_
 ·intro t ht
  refine hstart t ?_
  intro o ho hd
  obtain⟨i,hi,rfl⟩:=List.getElem_of_mem ho
  have hi':i<ops.size:=by simpa using hi
  have:=ht i ops[i] (Array.getElem?_eq_getElem hi') (by simpa using hd)
  simp[Array.getD,hi'] at this
 ·intro i o ho listed a w K Q' hs hl hedges hJ hK
  have hom:o∈ops.toList:=by
   obtain⟨h1,h2⟩:=zH.1 ho
   subst h2
   simp
  have hisz:i<listed.size:=by rw[hs];exact(zH.1 ho).1
  have hold:∀t,waits ops i t=true->a.eval (.tmp t)=a0.eval (.tmp t):=by
   intro t ht
   refine hJ.old t ?_
   intro j p hp hd
   obtain⟨e,he,hb,rfl⟩:=waits_spec ht hp hd
   cases hl2:listed.getD j true with
   | false=>rfl
   | true =>
    have:=hJ.closed j p hp hl2 e he hb
    simp only[Array.getD,hisz,dif_pos] at this hl
    rw[hl] at this
    cases this
  have hlook:∀t,(o.looksAt ops).contains t=true->ahead ops o t=true->FS t (a.eval (.tmp t)) w:=by
   intro t _ ht
   refine hJ.facts t ?_
   intro j p hp hd
   obtain⟨e,he,hb,rfl⟩:=ahead_spec ht hp hd
   have:=hedges e he hb
   have hlt:e.on<listed.size:=by rw[hs];exact(zH.1 hp).1
   simp only[Array.getD,hlt,dif_pos] at this ⊢
   exact this
  have hop:=hok.get i o (by simpa using ho)
  rw[qK] at hop
  refine hop listed a w K Q' hs hl hedges hJ.wi hlook hold ?_
  intro v w' hst hv hwi
  refine hK v w' ⟨?_,?_,?_,hwi,?_,?_,?_⟩
  ·cases hd:o.dst with
   | none=>simpa[Act.put] using hJ.size
   | some d=>simpa[Act.put] using hJ.size
  ·cases hd:o.dst with
   | none=>simpa[Act.put] using hJ.defers
   | some d=>simpa[Act.put] using hJ.defers
  ·intro t ht
   by_cases hdt:o.dst=some t
   ·rw[hdt] at hv ⊢
    rw[eval_put_same (by rw[hJ.size,hn];exact hdst' o hom t hdt)]
    exact hv
   ·have hk:Known ops listed t:=by
     intro j p hp hd
     have:=ht j p hp hd
     by_cases e:i=j
     ·subst e
      rw[ho] at hp
      injection hp with hp
      subst hp
      exact absurd hd hdt
     ·simpa[zT,zM,e] using this
    have:=hst t _ (hJ.facts t hk)
    cases hd:o.dst with
    | none=>simpa[Act.put] using this
    | some d =>
     rw[eval_put_other (by intro e;subst e;exact hdt hd)]
     exact this
  ·intro t ht
   cases hd:o.dst with
   | none=>simpa[Act.put] using hJ.rest t ht
   | some d =>
    rw[eval_put_other (by intro e;subst e;rw[hD' o hom t hd] at ht;cases ht)]
    exact hJ.rest t ht
  ·intro t ht
   have hdt:o.dst≠some t:=by
    intro hd
    have:=ht i o ho hd
    simp[zT,hisz] at this
   have:=hJ.old t (fun j p hp hd=>by
    have h2:=ht j p hp hd
    have hij:i≠j:=by
     intro e
     subst e
     rw[ho] at hp
     injection hp with hp
     subst hp
     exact hdt hd
    simpa[zT,zM,hij] using h2)
   cases hd:o.dst with
   | none=>simpa[Act.put] using this
   | some d =>
    rw[eval_put_other (by intro e;subst e;exact hdt hd)]
    exact this
  ·intro j p hp hlj e he hb
   have hup:∀k,listed.getD k false=true->(listed.setIfInBounds i true).getD k false=true:=by
    intro k hk
    by_cases e:i=k
    ·subst e
     simp[zT,hisz]
    ·simpa[zT,zM,e] using hk
   by_cases e2:i=j
   ·subst e2
    rw[ho] at hp
    injection hp with hp
    subst hp
    exact hup _ (hedges e he hb)
   ·refine hup _ (hJ.closed j p hp ?_ e he hb)
    simpa[zT,zM,e2] using hlj
 ·intro listed a w hs hall hJ
  refine hend listed a w hall hJ (fun t=>hJ.facts t ?_)
  intro j p hp _
  exact hall j (zH.1 hp).1
theorem region2_facts {P:Program}{ops:Array Oper}(hm:P.follows .mixedOrders=true)(hcov:backs ops=true){id:Nat}{a0:Act}{w0:World}{Q:Exit->Act->World->Prop}(n:Nat)(hn:a0.tmps.size=n)(hdst:dstsIn ops n=true)(D:List Nat)(hD:dstsAre ops D=true)
  (V W:List (Nat×Fact)) (hV:StartOk a0 w0.drew V) (hW:(W.all fun p=>written ops p.1)=true) (WI:WInv) (h0:WI (Array.replicate ops.size false) a0 w0.drew)
  (hok:AllOp2 P ops a0 (FSof (V++W)) WI 0 ops.toList)
  (hend:∀listed a w,(∀i,i<ops.size->listed.getD i true=true)->J2 ops (FSof (V++W)) a0 D WI listed a w->(∀t,FSof (V++W) t (a.eval (.tmp t)) w)->Q .normal a w) :
  (Code.region id ops true).wp P Q a0 w0 :=
 region2 hm hcov n hn hdst D hD (FSof (V++W)) WI (fun t ht=>start_fact V W hV hW t ht) h0 hok hend
theorem op2_mv_old {a0:Act}{FS:Tmp->Value->World->Prop}{WI:WInv}{i:Nat}{o:Oper}(t:Tmp)(hg:o.guard=none)(ho:o.op = .move (.tmp t)∨o.op = .assign (.tmp t))(hw:waits ops i t=true)(hd:∀w,FSd FS o.dst (a0.eval (.tmp t)) w)
  (hWI:∀listed a v w w',WI listed a w->Grow w w'->WI (listed.setIfInBounds i true) (a.put o.dst v) w'):Op2 P ops a0 FS WI i o:=by
 intro listed a w K Q hs hl he hwi _ hold hK
 have e:=hold t hw
 rw[if_pos (by simp[Region.wanted,hg])]
 left
 unfold Oper.wp execOp
 rcases ho with ho|ho<;>simp only[ho,Sem.run_pure,Oper.upon_value,e]<;>exact hK _ w (fun _ _ h=>h) (hd w) (hWI _ _ _ _ _ hwi (Grow.refl w))
def allVal:List (Nat×Fact)->Bool
 | []=>true
 | (_,.val _)::r=>allVal r
 | (_,.any)::r=>allVal r
 | _=>false
theorem factOf_val:∀{L:List (Nat×Fact)},allVal L=true->∀t v w w',(factOf L t).holds v w->(factOf L t).holds v w'
 | [],_,t,v,w,w',h=>h
 | (k,.val x)::r,hv,t,v,w,w',h=>by
  simp only[factOf] at h ⊢
  split
  ·rename_i e
   rw[if_pos e] at h
   exact h
  ·rename_i e
   rw[if_neg e] at h
   exact factOf_val (L:=r) hv t v w w' h
 | (k,.any)::r,hv,t,v,w,w',h=>by
  simp only[factOf] at h ⊢
  split
  ·trivial
  ·rename_i e
   rw[if_neg e] at h
   exact factOf_val (L:=r) hv t v w w' h
 | (k,.res l)::r,hv,_,_,_,_,_=>by cases hv
 | (k,.pred p q)::r,hv,_,_,_,_,_=>by cases hv
end Reg
theorem four1_gives (n b:Nat)(hb:b<=31)(w:World):Calls Tryz.prog 128 #[.int .u32 n,.int .i64 b] w fun e w'=>e = .returned (.int .u8 ((n / 2 ^ b % 256:Nat):Int))/\w=w':=by
 go_enter Tryz.func128,Tryz.ntmps128
 go_wp2
 go_ret
 exact⟨by simp,rfl⟩
theorem eight1_gives (n b:Nat)(hb:b<=63)(w:World):Calls Tryz.prog 209 #[.int .u64 n,.int .i64 b] w fun e w'=>e = .returned (.int .u8 ((n / 2 ^ b % 256:Nat):Int))/\w=w':=by
 go_enter Tryz.func209,Tryz.ntmps209
 go_wp2
 go_ret
 exact⟨by simp,rfl⟩
def FixAt (m n k:Nat)(pre:List UInt8):Prop:=pre++fixL k n=fixL m n/\pre.length+k=m
theorem FixAt.start (m n:Nat):FixAt m n m []:=⟨rfl,by simp⟩
theorem FixAt.next {m n k:Nat}{pre:List UInt8}(h:FixAt m n (k+1) pre):FixAt m n k (pre++[UInt8.ofNat (n / 2 ^ (8*k) % 256)]):=by
 refine⟨?_,by have:=h.2;simp;omega⟩
 rw[<-h.1,fixL_succ,List.append_assoc,List.singleton_append]
 congr 2
 apply UInt8.toNat_inj.1
 rw[show (256:Nat) ^ k=2 ^ (8*k) from by rw[Nat.pow_mul]]
 simp[UInt8.toNat_ofNat']
theorem FixAt.last {m n:Nat}{pre:List UInt8}(h:FixAt m n 0 pre):pre=fixL m n:=by
 have:=h.1
 simpa[fixL] using this
theorem fixed32_gives (m n:Nat)(hm:m<=4)(w:World):Calls Tryz.prog 127 #[.int .u32 n,.int .i64 m,.func (.func 128) #[] #[]] w (GivesB w (fixL m n)):=by
 obtain⟨i0,hi,hz0,hz1,hz2⟩:=info_parts inf_u8
 go_enter Tryz.func127,Tryz.ntmps127
 go_wp2_with fail
 go_loopw [6,7] (fun v i wr=>∃(k:Nat) (pre:List UInt8),Hid (FixAt m n k pre)/\pre.length<=m/\k<=m/\i = .int .i64 ((k:Int) - 1)/\OwnB wr w.heap.size v pre/\Below w.heap.size w wr)
  (fun _ i _=>(intOf i+1).toNat)
 case atStart=>exact⟨m,[],Lib.hid (FixAt.start m n),by simp,by omega,rfl,OwnB.nil _ _,Below.refl _ _⟩
 case round =>
  obtain⟨k,pre,hF,hl,hk,rfl,hown,hB⟩:=hrel
  have hBs:=hB.size
  rcases k with _|k
  ·have hi0:((0:Nat):Int) - 1<0:=by omega
   go_wp2_with fail
   go_ret
   have e:=hF.out.last
   subst e
   exact⟨_,rfl,hown,hB⟩
  ·have e1:(((k+1:Nat):Int) - 1)=(k:Int):=by omega
   rw[e1]
   clear e1
   go_wp2_with fail
   rw[show (8*(k:Int))=((8*k:Nat):Int) from by omega]
   refine(four1_gives n (8*k) (by omega) _).mono ?_
   rintro e w' ⟨rfl,rfl⟩
   have hb8:n / 2 ^ (8*k) % 256<256:=by omega
   generalize hx:n / 2 ^ (8*k) % 256=x at *
   have hX:=Lib.hid hx
   clear hx
   go_wp2_with (at_builtin;refine wpList_append_own _ rfl _ _ 22 rfl w.heap.size 5 i0 (.int .u8 0) 1 1 Tryz.underlying22 hi hz0 hz1 hz2 rfl (by decide) _ _ _ rfl (World.ownsRow.alloc hown _) ⟨wr.heap.size,0,none⟩ 1 1 _ rfl rfl (cell_one_new _ _ _) (by simp[Value.oneCell']) (by unfold maxLen;omega) (by omega) (by simp;omega) ?_;intro v' w1 hown' hgrow _)
   have hNx:=hF.out.next
   rw[hX.out] at hNx
   rw[map_snoc_b8 pre x hb8] at hown'
   refine⟨⟨k,pre++[UInt8.ofNat x],Lib.hid hNx,?_,by omega,rfl,?_,(hB.alloc hBs _).grown hgrow (by simp;omega) (fun k hk=>(World.ownsRow.lt hown k hk).1)⟩,by simp[intOf]⟩
   ·have:=hNx.2;omega
   ·unfold OwnB
    simpa using hown'
theorem fixed64_gives (m n:Nat)(hm:m<=8)(w:World):Calls Tryz.prog 208 #[.int .u64 n,.int .i64 m,.func (.func 209) #[] #[]] w (GivesB w (fixL m n)):=by
 obtain⟨i0,hi,hz0,hz1,hz2⟩:=info_parts inf_u8
 go_enter Tryz.func208,Tryz.ntmps208
 go_wp2_with fail
 go_loopw [6,7] (fun v i wr=>∃(k:Nat) (pre:List UInt8),Hid (FixAt m n k pre)/\pre.length<=m/\k<=m/\i = .int .i64 ((k:Int) - 1)/\OwnB wr w.heap.size v pre/\Below w.heap.size w wr)
  (fun _ i _=>(intOf i+1).toNat)
 case atStart=>exact⟨m,[],Lib.hid (FixAt.start m n),by simp,by omega,rfl,OwnB.nil _ _,Below.refl _ _⟩
 case round =>
  obtain⟨k,pre,hF,hl,hk,rfl,hown,hB⟩:=hrel
  have hBs:=hB.size
  rcases k with _|k
  ·have hi0:((0:Nat):Int) - 1<0:=by omega
   go_wp2_with fail
   go_ret
   have e:=hF.out.last
   subst e
   exact⟨_,rfl,hown,hB⟩
  ·have e1:(((k+1:Nat):Int) - 1)=(k:Int):=by omega
   rw[e1]
   clear e1
   go_wp2_with fail
   rw[show (8*(k:Int))=((8*k:Nat):Int) from by omega]
   refine(eight1_gives n (8*k) (by omega) _).mono ?_
   rintro e w' ⟨rfl,rfl⟩
   have hb8:n / 2 ^ (8*k) % 256<256:=by omega
   generalize hx:n / 2 ^ (8*k) % 256=x at *
   have hX:=Lib.hid hx
   clear hx
   go_wp2_with (at_builtin;refine wpList_append_own _ rfl _ _ 22 rfl w.heap.size 5 i0 (.int .u8 0) 1 1 Tryz.underlying22 hi hz0 hz1 hz2 rfl (by decide) _ _ _ rfl (World.ownsRow.alloc hown _) ⟨wr.heap.size,0,none⟩ 1 1 _ rfl rfl (cell_one_new _ _ _) (by simp[Value.oneCell']) (by unfold maxLen;omega) (by omega) (by simp;omega) ?_;intro v' w1 hown' hgrow _)
   have hNx:=hF.out.next
   rw[hX.out] at hNx
   rw[map_snoc_b8 pre x hb8] at hown'
   refine⟨⟨k,pre++[UInt8.ofNat x],Lib.hid hNx,?_,by omega,rfl,?_,(hB.alloc hBs _).grown hgrow (by simp;omega) (fun k hk=>(World.ownsRow.lt hown k hk).1)⟩,by simp[intOf]⟩
   ·have:=hNx.2;omega
   ·unfold OwnB
    simpa using hown'
theorem four_gives (n:Nat)(w:World):Calls Tryz.prog 80 #[.int .u32 n] w (GivesB w (fixL 4 n)):=by
 go_enter Tryz.func80,Tryz.ntmps80
 go_wp2_with fail
 refine(fixed32_gives 4 n (by omega) _).mono ?_
 rintro e w' ⟨v,rfl,h1,h2⟩
 go_wp2
 go_ret
 exact⟨v,rfl,h1,h2⟩
theorem eight_gives (n:Nat)(w:World):Calls Tryz.prog 177 #[.int .u64 n] w (GivesB w (fixL 8 n)):=by
 go_enter Tryz.func177,Tryz.ntmps177
 go_wp2_with fail
 refine(fixed64_gives 8 n (by omega) _).mono ?_
 rintro e w' ⟨v,rfl,h1,h2⟩
 go_wp2
 go_ret
 exact⟨v,rfl,h1,h2⟩

def FxAt (m n0 n k:Nat)(l:List UInt8):Prop:=n=n0 / 256 ^ (m - k)/\l=zR k 0++(fixL m n0).drop k
theorem FxAt.length {m n0 n k:Nat}{l:List UInt8}(h:FxAt m n0 n k l)(hk:k<=m):l.length=m:=by
 rw[h.2];simp[fixL_length];omega


theorem BlkIs.own' {w:World}{g base:Nat}{l:List UInt8}(h:BlkIs w g 5 (l.map b8).toArray)(hb:base<=g)(hm:l.length<=9223372036854775807):OwnB w base (.slice (some ⟨g,0,none⟩) l.length l.length) l :=
 ⟨by simp,.inr ⟨g,l.length,(l.map b8).toArray,rfl,hb,h,zG _,by unfold maxLen;omega,by simp,by simp[qA]⟩⟩
theorem cut_from {ρ:Operand->Value}{w:World}{o:Oper}{x y:Operand}{g n m:Nat}(ho:o.op = .slice 22 x (some y) none none)(h1:ρ x = .slice (some ⟨g,0,none⟩) n n)(h2:ρ y = .int .i64 (m:Int))(hm:m<n) :
  (execOp ρ o).run Tryz.prog w = .ok (.value (.slice (some ⟨g,m,none⟩) (n - m) (n - m))) w:=by
 have ht:Tryz.prog.underlying 22=some (.slice (Tryz.prog.elem 22)):=by kernel_rfl
 have e:¬ n=m:=by omega
 have e2:m<=n:=by omega
 have ea:(⟨g,0,none⟩:Addr).add m=⟨g,m,none⟩:=by cases m<;>simp[Addr.add]
 simp[execOp,ho,h1,h2,go_sem,run_sliceAt_slice _ _ _ _ _ _ ht,Result.andThen,e,e2,ea]
theorem cut_to {ρ:Operand->Value}{w:World}{o:Oper}{x y:Operand}{g n m:Nat}(ho:o.op = .slice 22 x none (some y) none)(h1:ρ x = .slice (some ⟨g,0,none⟩) n n)(h2:ρ y = .int .i64 (m:Int))(hm:m<n) :
  (execOp ρ o).run Tryz.prog w = .ok (.value (.slice (some ⟨g,0,none⟩) m n)) w:=by
 have ht:Tryz.prog.underlying 22=some (.slice (Tryz.prog.elem 22)):=by kernel_rfl
 have e2:m<=n:=by omega
 simp[execOp,ho,h1,h2,go_sem,run_sliceAt_slice _ _ _ _ _ _ ht,Result.andThen,e2]
theorem repeat2_gives (w:World)(A:Option Addr)(c:Nat)(l:List UInt8)(h:InB w w.heap.size A c l)(hl:0<l.length)(hm:l.length<30000) :
  Calls Tryz.prog 179 #[.slice A l.length c,.int .i64 2] w (GivesB w (l++l)):=by
 have H:=mul_gives l.length 2 (by omega) (by omega) w
 have e1:IntKind.u64.wrap (l.length:Int)=(l.length:Int):=by
  show (l.length:Int) % 18446744073709551616=_
  omega
 have e2:IntKind.i64.wrap ((l.length*2:Nat):Int)=((l.length*2:Nat):Int):=wrap_i64_fr _ (by omega) (by omega)
 obtain⟨n,hn⟩:∃n,n=l.length*2:=⟨_,rfl⟩
 rw[<-hn] at H e2
 have hN:=Lib.hid hn
 have hnb:n<60000:=by omega
 clear hn
 go_enter Tryz.func179,Tryz.ntmps179
 go_wp2_with fail
 refine H.mono ?_
 rintro e w' ⟨rfl,rfl⟩
 go_wp2_with (first
  | (at_make;refine wp_makeB rfl (.tmp 29) (.tmp 29) rfl w.heap.size .i64 .i64 n rfl rfl (by omega) (zG _) ?_;intro w1 hown hg1;have hB1:Below w.heap.size w w1:=(Below.refl _ w).grown hg1 (zG _) (fun k hk=>by cases hk);obtain⟨hb1,_⟩:=OwnB.blk (l:=zR n 0) (by rw[List.length_replicate];exact hown))
  | (refine wp_copyB rfl (.tmp 31) (.tmp 32) rfl w.heap.size 0 (zR n 0) l A c _ n n rfl rfl hb1 (h.below hB1) (by simp) ?_))
 have hmn:min l.length n=l.length:=by have:=hN.out;omega
 have hs1:spliceB (zR n 0) 0 n l=l++zR l.length 0:=by
  have:=hN.out
  subst this
  simp only[spliceB,List.take_zero,zQ,qK,List.drop_replicate]
  rw[qA (by omega),Nat.min_eq_left (by omega)]
  congr 2
  omega
 rw[hs1]
 have hb2:=hb1.setRow ((l++zR l.length 0).map b8).toArray
 have hB2:=below_setRow hB1 (zG _) (g:=w.heap.size) ((l++zR l.length 0).map b8).toArray
 generalize w1.setRow w.heap.size ((l++zR l.length 0).map b8).toArray=w2 at *
 rw[hmn]
 clear hB1 hb1 hown hg1 hmn hs1
 have hlt:(l.length:Int)<(n:Int):=by have:=hN.out;omega
 refine wp_loop_rounds 2 ?_
 rw[rounds_succ]
 go_wp2_with fail
 have hin2:InB w2 (w.heap.size+1) (some ⟨w.heap.size,0,none⟩) n l:=⟨by have:=hN.out;omega,by omega,(fun e=>by cases e),fun _=>⟨_,0,rfl,by omega,fun j hj=>by
  rw[hb2.cell]
  simp[b8,List.getElem?_append_left,hj]⟩⟩
 have hfit:l.length+(n - l.length)<=(l++zR l.length (0:UInt8)).length:=by have:=hN.out;simp;omega
 have hln:l.length<n:=by omega
 have hadd:IntKind.i64.wrap ((l.length:Int)+(l.length:Int))=(n:Int):=by have:=hN.out;rw[wrap_i64_fr _ (by omega) (by omega)];omega
 let WI:Reg.WInv:=fun listed _ W=>BlkIs W w.heap.size 5 ((if listed.getD 7 false then l++l else l++zR l.length 0).map b8).toArray/\Below w.heap.size w W
 have hkeep:∀i,i≠7->∀(listed:Array Bool) (a a':Act) (W W':World),WI listed a W->Grow W W'->WI (listed.setIfInBounds i true) a' W':=by
  intro i hi listed a a' W W' h hg
  have e:(listed.setIfInBounds i true).getD 7 false=listed.getD 7 false:=by simp[zT,hi]
  refine⟨?_,h.2.trans (hg.mono h.2.size)⟩
  rw[e]
  exact h.1.below hg h.1.lt
 have hwi0:∀(m:Nat) (a:Act),WI (Array.replicate m false) a w2.drew:=by
  intro m a
  have e:(Array.replicate m false).getD 7 false=false:=by simp[Array.getD]
  refine⟨?_,hB2.drew⟩
  rw[e]
  exact hb2.drew
 have hsp:spliceB (l++zR l.length 0) l.length (n - l.length) l=l++l:=by
  have e:n - l.length=l.length:=by have:=hN.out;omega
  rw[e]
  simp[spliceB]
 have hcopy:∀(ops:Array Oper) (a0:Act) (L:List (Nat×Fact)) (o:Oper),o.guard=none->o.op = .call { callee:=.builtin .copy,args:=#[.tmp 41,.tmp 44],argTypes:=#[22,22] }->o.dst=some 45->7<ops.size ->
   (o.looksAt ops).contains 41=true->(o.looksAt ops).contains 44=true->Reg.ahead ops o 41=true->Reg.ahead ops o 44=true->factOf L 41 = .val (.slice (some ⟨w.heap.size,l.length,none⟩) (n - l.length) (n - l.length))->factOf L 44 = .val (.slice (some ⟨w.heap.size,0,none⟩) l.length n) ->
   factOf L 45 = .val (.int .i64 (l.length:Int))->Reg.allVal L=true->Reg.Op2 Tryz.prog ops a0 (FSof L) WI 7 o:=by
  intro ops a0 L o hg ho hd hsz c1 c2 h1 h2 f1 f2 f3 hv listed a W K Q hs hl _ hwi hlook _ hK
  rw[if_pos (by simp[Region.wanted,hg])]
  left
  have g1:(factOf L 41).holds (a.eval (.tmp 41)) W:=hlook 41 c1 h1
  have g2:(factOf L 44).holds (a.eval (.tmp 44)) W:=hlook 44 c2 h2
  rw[f1] at g1
  rw[f2] at g2
  have e7:listed.getD 7 false=false:=by
   have h7:7<listed.size:=by omega
   simpa[Array.getD,h7] using hl
  obtain⟨hb,hB⟩:=hwi
  rw[e7] at hb
  have hin:InB W (w.heap.size+1) (some ⟨w.heap.size,0,none⟩) n l:=⟨by omega,by omega,(fun e=>by cases e),fun _=>⟨_,0,rfl,by omega,fun j hj=>by
   rw[hb.cell]
   simp[b8,List.getElem?_append_left,hj]⟩⟩
  refine oper_copyB (.tmp 41) (.tmp 44) ho w.heap.size l.length (l++zR l.length 0) l (some ⟨w.heap.size,0,none⟩) n (w.heap.size+1) (n - l.length) (n - l.length) g1 g2 hb hin hfit ?_
  rw[hsp,show min l.length (n - l.length)=l.length from by have:=hN.out;omega]
  refine hK _ _ (fun t u h=>Reg.factOf_val hv t u _ _ h) ?_ ?_
  ·rw[hd]
   show (factOf L 45).holds _ _
   rw[f3]
   rfl
  ·refine⟨?_,below_setRow hB (zG _) _⟩
   have e8:(listed.setIfInBounds 7 true).getD 7 false=true:=by
    have h7:7<listed.size:=by omega
    simp[zT,h7]
   rw[e8]
   exact hb.setRow _
 open Reg in
 refine region2_facts (by kernel_rfl) (by kernel_rfl) 48 rfl (by kernel_rfl) [38,39,40,41,42,43,44,45,46,8] (by kernel_rfl)
  [(7,.val (.slice (some ⟨w.heap.size,0,none⟩) n n))]
  [(38,.val (.int .i64 (l.length:Int))),(39,.val (.slice (some ⟨w.heap.size,0,none⟩) n n)),(40,.val (.int .i64 (l.length:Int))),(41,.val (.slice (some ⟨w.heap.size,l.length,none⟩) (n - l.length) (n - l.length))),(42,.val (.slice (some ⟨w.heap.size,0,none⟩) n n)),(43,.val (.int .i64 (l.length:Int))),(44,.val (.slice (some ⟨w.heap.size,0,none⟩) l.length n)),(45,.val (.int .i64 (l.length:Int))),(46,.val (.int .i64 (n:Int))),(8,.val (.int .i64 (n:Int)))]
  ⟨rfl,trivial⟩ (by kernel_rfl) (WI) (hwi0 _ { tmps:=#[],defers:=[] })
  (⟨op2_mv_old 8 rfl (.inl rfl) (by kernel_rfl) (fun w=>fsd (f:=.val (.int .i64 (l.length:Int))) (by kernel_rfl) rfl) (fun listed a v w w1 h hg=>hkeep 0 (by decide) listed a a w w1 h hg),
  ⟨op2_of (FSof.stable _) (fun _=>ok_none rfl (l_mvF 7 (.val (.slice (some ⟨w.heap.size,0,none⟩) n n)) (.inl rfl) (by kernel_rfl) (by kernel_rfl) (by kernel_rfl))) (by kernel_rfl) (fun listed a v w w1 h hg=>hkeep 1 (by decide) listed a a w w1 h hg),
  ⟨op2_mv_old 8 rfl (.inl rfl) (by kernel_rfl) (fun w=>fsd (f:=.val (.int .i64 (l.length:Int))) (by kernel_rfl) rfl) (fun listed a v w w1 h hg=>hkeep 2 (by decide) listed a a w w1 h hg),
  ⟨op2_of (FSof.stable _) (fun _=>ok_none rfl (l_run2W (.tmp 39) (.tmp 40) (.val (.slice (some ⟨w.heap.size,l.length,none⟩) (n - l.length) (n - l.length))) (.slice (some ⟨w.heap.size,0,none⟩) n n) (.int .i64 (l.length:Int)) (hs 39 _ (by kernel_rfl) (by kernel_rfl)) (hs 40 _ (by kernel_rfl) (by kernel_rfl)) (fun ρ w hg h1 h2=>⟨_,w,cut_from rfl h1 h2 hln,Grow.refl _,rfl⟩) (by kernel_rfl))) (by kernel_rfl) (fun listed a v w w1 h hg=>hkeep 3 (by decide) listed a a w w1 h hg),
  ⟨op2_of (FSof.stable _) (fun _=>ok_none rfl (l_mvF 7 (.val (.slice (some ⟨w.heap.size,0,none⟩) n n)) (.inl rfl) (by kernel_rfl) (by kernel_rfl) (by kernel_rfl))) (by kernel_rfl) (fun listed a v w w1 h hg=>hkeep 4 (by decide) listed a a w w1 h hg),
  ⟨op2_mv_old 8 rfl (.inl rfl) (by kernel_rfl) (fun w=>fsd (f:=.val (.int .i64 (l.length:Int))) (by kernel_rfl) rfl) (fun listed a v w w1 h hg=>hkeep 5 (by decide) listed a a w w1 h hg),
  ⟨op2_of (FSof.stable _) (fun _=>ok_none rfl (l_run2W (.tmp 42) (.tmp 43) (.val (.slice (some ⟨w.heap.size,0,none⟩) l.length n)) (.slice (some ⟨w.heap.size,0,none⟩) n n) (.int .i64 (l.length:Int)) (hs 42 _ (by kernel_rfl) (by kernel_rfl)) (hs 43 _ (by kernel_rfl) (by kernel_rfl)) (fun ρ w hg h1 h2=>⟨_,w,cut_to rfl h1 h2 hln,Grow.refl _,rfl⟩) (by kernel_rfl))) (by kernel_rfl) (fun listed a v w w1 h hg=>hkeep 6 (by decide) listed a a w w1 h hg),
  ⟨hcopy _ _ _ _ rfl rfl rfl (by decide) (by kernel_rfl) (by kernel_rfl) (by kernel_rfl) (by kernel_rfl) (by kernel_rfl) (by kernel_rfl) (by kernel_rfl) (by kernel_rfl),
  ⟨op2_of (FSof.stable _) (fun _=>ok_none rfl (run2 (.tmp 38) (.tmp 45) (hs 38 (.int .i64 (l.length:Int)) (by kernel_rfl) (by kernel_rfl)) (hs 45 (.int .i64 (l.length:Int)) (by kernel_rfl) (by kernel_rfl)) (fun ρ w h1 h2=>by simp[execOp,h1,h2,go_sem,hadd]) (fun _=>fsd (f:=.val (.int .i64 (n:Int))) (by kernel_rfl) rfl))) (by kernel_rfl) (fun listed a v w w1 h hg=>hkeep 8 (by decide) listed a a w w1 h hg),
  ⟨op2_of (FSof.stable _) (fun _=>ok_none rfl (l_mvF 46 (.val (.int .i64 (n:Int))) (.inr rfl) (by kernel_rfl) (by kernel_rfl) (by kernel_rfl))) (by kernel_rfl) (fun listed a v w w1 h hg=>hkeep 9 (by decide) listed a a w w1 h hg),
  trivial⟩⟩⟩⟩⟩⟩⟩⟩⟩⟩) ?_
 intro listed a w3 hall hJ hF
 have e8:a.eval (.tmp 8) = .int .i64 (n:Int):=hF 8
 have ha:=Reg.acts_eq [38,39,40,41,42,43,44,45,46,8] hJ.size hJ.defers hJ.rest
 obtain⟨hb3,hB3⟩:BlkIs w3 w.heap.size 5 ((l++l).map b8).toArray/\Below w.heap.size w w3:=by
  have h7:=hall 7 (by decide)
  have hs:listed.getD 7 false=true:=by
   cases h8:listed[7]? with
   | none =>
    exfalso
    have h9:=hJ.closed 9 _ rfl (hall 9 (by decide)) ⟨7,.chain⟩ (by simp) (by decide)
    simp[zT,h8] at h9
   | some b=>simpa[zT,h8] using h7
  have hw:=hJ.wi
  refine⟨?_,hw.2⟩
  have:=hw.1
  rw[hs] at this
  exact this
 clear hF hJ hall
 simp only[List.foldl_cons,List.foldl_nil,e8] at ha
 clear e8
 generalize a.eval (.tmp 38)=v38 at ha
 generalize a.eval (.tmp 39)=v39 at ha
 generalize a.eval (.tmp 40)=v40 at ha
 generalize a.eval (.tmp 41)=v41 at ha
 generalize a.eval (.tmp 42)=v42 at ha
 generalize a.eval (.tmp 43)=v43 at ha
 generalize a.eval (.tmp 44)=v44 at ha
 generalize a.eval (.tmp 45)=v45 at ha
 generalize a.eval (.tmp 46)=v46 at ha
 simp only[Act.put,zA,zE,zF] at ha
 subst ha
 simp only[Exit.inBlock,Exit.then]
 rw[rounds_succ]
 go_wp2
 go_ret
 refine⟨_,rfl,?_,hB3⟩
 have hlen:(l++l).length=n:=by have:=hN.out;simp;omega
 rw[<-hlen]
 exact hb3.own' (zG _) (by rw[hlen];omega)
end Go.Proofs.YtnlimngkagmjpaaGreat
namespace Go.Proofs.YtnlimngkagmjpaaGreat
open Lou
def headB (s e z c:Nat):List UInt8:=[fixL 8 s,fixL 8 e,fixL 4 z,fixL 4 c].flatten
theorem headB_eq (s e z c:Nat):headB s e z c=fixL 8 s++(fixL 8 e++(fixL 4 z++fixL 4 c)):=by simp[headB]
theorem headB_length (s e z c:Nat):(headB s e z c).length=24:=by
 rw[headB_eq];simp only[zY,fixL_length]
def onceB (b:List UInt8):List UInt8:=b++fixL 4 (sumL b)
theorem onceB_length (b:List UInt8):(onceB b).length=b.length+4:=by simp[onceB,fixL_length]
def twiceB (b:List UInt8):List UInt8:=onceB b++onceB b++zR 8 0
theorem twiceB_length (b:List UInt8):(twiceB b).length=2*b.length+16:=by simp[twiceB,onceB_length];omega
def headW (s e z c:Nat):List UInt8:=twiceB (headB s e z c)
theorem headW_length (s e z c:Nat):(headW s e z c).length=64:=by simp[headW,twiceB_length,headB_length]
theorem twiceB_mid (b:List UInt8):((twiceB b).drop (b.length+4)).take b.length=b:=by
 have:twiceB b=onceB b++(b++(fixL 4 (sumL b)++zR 8 0)):=by simp[twiceB,onceB,List.append_assoc]
 rw[this,List.drop_append_of_le_length (by rw[onceB_length];omega),<-onceB_length,List.drop_length,zQ]
 simp
theorem rfix_fixL_lt {k n:Nat}(h:n<256 ^ k):rfix (fixL k n)=n:=by rw[rfix_fixL,Nat.mod_eq_of_lt h]
theorem headB_read {s e z c:Nat}(hs:s<2 ^ 64)(he:e<2 ^ 64)(hz:z<2 ^ 32)(hc:c<2 ^ 32)(r:List UInt8) :
  rfix ((headB s e z c++r).take 8)=s/\rfix (((headB s e z c++r).drop 8).take 8)=e/\rfix (((headB s e z c++r).drop 16).take 4)=z/\rfix (((headB s e z c++r).drop 20).take 4)=c:=by
 have l8:∀n,(fixL 8 n).length=8:=fixL_length 8
 have l4:∀n,(fixL 4 n).length=4:=fixL_length 4
 have e8:(256:Nat) ^ 8=2 ^ 64:=by decide
 have e4:(256:Nat) ^ 4=2 ^ 32:=by decide
 have t8:∀n (r:List UInt8),(fixL 8 n++r).take 8=fixL 8 n:=fun n r=>by rw[List.take_append_of_le_length (by rw[l8];omega)];rw[qA (by rw[l8];omega)]
 have t4:∀n (r:List UInt8),(fixL 4 n++r).take 4=fixL 4 n:=fun n r=>by rw[List.take_append_of_le_length (by rw[l4];omega)];rw[qA (by rw[l4];omega)]
 have d8:∀n (r:List UInt8),(fixL 8 n++r).drop 8=r:=fun n r=>by have:=List.drop_left (l₁:=fixL 8 n) (l₂:=r);rw[l8] at this;exact this
 have d4:∀n (r:List UInt8),(fixL 4 n++r).drop 4=r:=fun n r=>by have:=List.drop_left (l₁:=fixL 4 n) (l₂:=r);rw[l4] at this;exact this
 have h16:∀(l:List UInt8),l.drop 16=(l.drop 8).drop 8:=fun l=>by rw[List.drop_drop]
 have h20:∀(l:List UInt8),l.drop 20=((l.drop 8).drop 8).drop 4:=fun l=>by rw[List.drop_drop,List.drop_drop]
 rw[headB_eq]
 simp only[List.append_assoc]
 rw[h20,h16,t8,d8,t8,d8,t4,d4,t4]
 exact⟨rfix_fixL_lt (by omega),rfix_fixL_lt (by omega),rfix_fixL_lt (by omega),rfix_fixL_lt (by omega)⟩
def hdS (b:List UInt8):Nat:=rfix (b.take 8)
def hdE (b:List UInt8):Nat:=rfix ((b.drop 8).take 8)
def hdZ (b:List UInt8):Nat:=rfix ((b.drop 16).take 4)
def hdC (b:List UInt8):Nat:=rfix ((b.drop 20).take 4)
def isHead (b:List UInt8):Bool:=decide (b.length=64) && decide (hdZ b<=2000) && decide (hdC b<=2000) && decide (headW (hdS b) (hdE b) (hdZ b) (hdC b)=b)
theorem isHead_iff (b:List UInt8):isHead b=true↔b.length=64/\hdZ b<=2000/\hdC b<=2000/\headW (hdS b) (hdE b) (hdZ b) (hdC b)=b:=by
 simp[isHead,and_assoc]
theorem headW_split (s e z c:Nat):∃r,headW s e z c=headB s e z c++r:=⟨_,by unfold headW twiceB onceB;simp only[List.append_assoc];rfl⟩
theorem headW_read {s e z c:Nat}(hs:s<2 ^ 64)(he:e<2 ^ 64)(hz:z<=2000)(hc:c<=2000):hdS (headW s e z c)=s/\hdE (headW s e z c)=e/\hdZ (headW s e z c)=z/\hdC (headW s e z c)=c:=by
 obtain⟨r,hr⟩:=headW_split s e z c
 unfold hdS hdE hdZ hdC
 rw[hr]
 exact headB_read hs he (by omega) (by omega) r
theorem isHead_headW {s e z c:Nat}(hs:s<2 ^ 64)(he:e<2 ^ 64)(hz:z<=2000)(hc:c<=2000):isHead (headW s e z c)=true:=by
 obtain⟨h1,h2,h3,h4⟩:=headW_read hs he hz hc
 rw[isHead_iff,h1,h2,h3,h4]
 exact⟨headW_length _ _ _ _,hz,hc,rfl⟩
def partB (e i p:Nat)(f:Bool)(z l:Nat):List UInt8:=[fixL 8 e,fixL 4 i,fixL 4 p,[if f then 1 else 0],fixL 4 z,fixL 4 l].flatten
theorem partB_eq (e i p:Nat)(f:Bool)(z l:Nat):partB e i p f z l=fixL 8 e++(fixL 4 i++(fixL 4 p++((if f then 1 else 0)::(fixL 4 z++fixL 4 l)))):=by simp[partB]
theorem partB_length (e i p:Nat)(f:Bool)(z l:Nat):(partB e i p f z l).length=25:=by
 rw[partB_eq];simp only[zY,zN,fixL_length]
def sectB (p y:List UInt8):List UInt8:=p++fixL 4 (sumL (p++y))++zR 35 0
theorem sectB_length (p y:List UInt8):(sectB p y).length=p.length+39:=by simp[sectB,fixL_length]
def frameB (p y:List UInt8):List UInt8:=sectB p y++y
end Go.Proofs.YtnlimngkagmjpaaGreat
namespace Go.Proofs.YtnlimngkagmjpaaGreat
open Go Go.RowKit Lou
theorem conv_3_45 (r:Nat)(h:r<4294967296)(w:World):(convert 3 133 (.int .i64 r)).run Tryz.prog w = .ok (.int .u32 r) w:=by
 have e:IntKind.u32.wrap (r:Int)=r:=by
  show (r:Int) % 4294967296=r
  omega
 have k:Tryz.prog.intKind 133 = .u32:=by kernel_rfl
 have h:=run_convert_int (P:=Tryz.prog) (w:=w) 3 133 .i64 r (by kernel_rfl) (by kernel_rfl)
 rw[k,e] at h
 exact h
theorem head_gives (s e z c:Nat)(hz:z<=2000)(hc:c<=2000)(w:World) :
  Calls Tryz.prog 138 #[.agg #[.int .u64 (s:Int),.int .u64 (e:Int),.int .i64 (z:Int),.int .i64 (c:Int)]] w fun x w'=>x = .returned (.agg ((headW s e z c).map b8).toArray)/\Below w.heap.size w w':=by
 have hz32:=conv_3_45 z (by omega)
 have hc32:=conv_3_45 c (by omega)
 have hcat:∀w u,Lists [fixL 8 s,fixL 8 e,fixL 4 z,fixL 4 c] u w->Calls Tryz.prog 79 #[u] w fun e' w'=>∃v,e' = .returned v/\Grow w w'/\(Fact.res (headB s e z c)).holds v w':=fun w u hu =>
  Reg.gives_res (concatL_gives hu (by simp) (by have:=headB_length s e z c;unfold headB at this;omega))
 have hBw:Below w.heap.size w ((w.alloc (.cells #[.int .u64 (s:Int),.int .u64 (e:Int),.int .i64 (z:Int),.int .i64 (c:Int)] 106)).alloc (.cells #[.int .u8 0,.int .u8 0,.int .u8 0,.int .u8 0,.int .u8 0,.int .u8 0,.int .u8 0,.int .u8 0,.int .u8 0,.int .u8 0,.int .u8 0,.int .u8 0,.int .u8 0,.int .u8 0,.int .u8 0,.int .u8 0,.int .u8 0,.int .u8 0,.int .u8 0,.int .u8 0,.int .u8 0,.int .u8 0,.int .u8 0,.int .u8 0,.int .u8 0,.int .u8 0,.int .u8 0,.int .u8 0,.int .u8 0,.int .u8 0,.int .u8 0,.int .u8 0,.int .u8 0,.int .u8 0,.int .u8 0,.int .u8 0,.int .u8 0,.int .u8 0,.int .u8 0,.int .u8 0,.int .u8 0,.int .u8 0,.int .u8 0,.int .u8 0,.int .u8 0,.int .u8 0,.int .u8 0,.int .u8 0,.int .u8 0,.int .u8 0,.int .u8 0,.int .u8 0,.int .u8 0,.int .u8 0,.int .u8 0,.int .u8 0,.int .u8 0,.int .u8 0,.int .u8 0,.int .u8 0,.int .u8 0,.int .u8 0,.int .u8 0,.int .u8 0] 203)):=((Below.refl _ w).alloc (zG _) _).alloc (by simp) _
 have hbh:BlkIs ((w.alloc (.cells #[.int .u64 (s:Int),.int .u64 (e:Int),.int .i64 (z:Int),.int .i64 (c:Int)] 106)).alloc (.cells #[.int .u8 0,.int .u8 0,.int .u8 0,.int .u8 0,.int .u8 0,.int .u8 0,.int .u8 0,.int .u8 0,.int .u8 0,.int .u8 0,.int .u8 0,.int .u8 0,.int .u8 0,.int .u8 0,.int .u8 0,.int .u8 0,.int .u8 0,.int .u8 0,.int .u8 0,.int .u8 0,.int .u8 0,.int .u8 0,.int .u8 0,.int .u8 0,.int .u8 0,.int .u8 0,.int .u8 0,.int .u8 0,.int .u8 0,.int .u8 0,.int .u8 0,.int .u8 0,.int .u8 0,.int .u8 0,.int .u8 0,.int .u8 0,.int .u8 0,.int .u8 0,.int .u8 0,.int .u8 0,.int .u8 0,.int .u8 0,.int .u8 0,.int .u8 0,.int .u8 0,.int .u8 0,.int .u8 0,.int .u8 0,.int .u8 0,.int .u8 0,.int .u8 0,.int .u8 0,.int .u8 0,.int .u8 0,.int .u8 0,.int .u8 0,.int .u8 0,.int .u8 0,.int .u8 0,.int .u8 0,.int .u8 0,.int .u8 0,.int .u8 0,.int .u8 0] 203)) w.heap.size 106 #[.int .u64 (s:Int),.int .u64 (e:Int),.int .i64 (z:Int),.int .i64 (c:Int)]:=(BlkIs.new w 106 _).alloc _
 have hbs:BlkIs ((w.alloc (.cells #[.int .u64 (s:Int),.int .u64 (e:Int),.int .i64 (z:Int),.int .i64 (c:Int)] 106)).alloc (.cells #[.int .u8 0,.int .u8 0,.int .u8 0,.int .u8 0,.int .u8 0,.int .u8 0,.int .u8 0,.int .u8 0,.int .u8 0,.int .u8 0,.int .u8 0,.int .u8 0,.int .u8 0,.int .u8 0,.int .u8 0,.int .u8 0,.int .u8 0,.int .u8 0,.int .u8 0,.int .u8 0,.int .u8 0,.int .u8 0,.int .u8 0,.int .u8 0,.int .u8 0,.int .u8 0,.int .u8 0,.int .u8 0,.int .u8 0,.int .u8 0,.int .u8 0,.int .u8 0,.int .u8 0,.int .u8 0,.int .u8 0,.int .u8 0,.int .u8 0,.int .u8 0,.int .u8 0,.int .u8 0,.int .u8 0,.int .u8 0,.int .u8 0,.int .u8 0,.int .u8 0,.int .u8 0,.int .u8 0,.int .u8 0,.int .u8 0,.int .u8 0,.int .u8 0,.int .u8 0,.int .u8 0,.int .u8 0,.int .u8 0,.int .u8 0,.int .u8 0,.int .u8 0,.int .u8 0,.int .u8 0,.int .u8 0,.int .u8 0,.int .u8 0,.int .u8 0] 203)) (w.heap.size+1) 203 ((zR 64 (0:UInt8)).map b8).toArray:=by
  have h:=BlkIs.new (w.alloc (.cells #[.int .u64 (s:Int),.int .u64 (e:Int),.int .i64 (z:Int),.int .i64 (c:Int)] 106)) 203 #[.int .u8 0,.int .u8 0,.int .u8 0,.int .u8 0,.int .u8 0,.int .u8 0,.int .u8 0,.int .u8 0,.int .u8 0,.int .u8 0,.int .u8 0,.int .u8 0,.int .u8 0,.int .u8 0,.int .u8 0,.int .u8 0,.int .u8 0,.int .u8 0,.int .u8 0,.int .u8 0,.int .u8 0,.int .u8 0,.int .u8 0,.int .u8 0,.int .u8 0,.int .u8 0,.int .u8 0,.int .u8 0,.int .u8 0,.int .u8 0,.int .u8 0,.int .u8 0,.int .u8 0,.int .u8 0,.int .u8 0,.int .u8 0,.int .u8 0,.int .u8 0,.int .u8 0,.int .u8 0,.int .u8 0,.int .u8 0,.int .u8 0,.int .u8 0,.int .u8 0,.int .u8 0,.int .u8 0,.int .u8 0,.int .u8 0,.int .u8 0,.int .u8 0,.int .u8 0,.int .u8 0,.int .u8 0,.int .u8 0,.int .u8 0,.int .u8 0,.int .u8 0,.int .u8 0,.int .u8 0,.int .u8 0,.int .u8 0,.int .u8 0,.int .u8 0]
  rw[World.size_alloc] at h
  exact h
 go_enter Tryz.func138,Tryz.ntmps138
 go_wp2_with fail
 generalize (w.alloc (.cells #[.int .u64 (s:Int),.int .u64 (e:Int),.int .i64 (z:Int),.int .i64 (c:Int)] 106)).alloc (.cells #[.int .u8 0,.int .u8 0,.int .u8 0,.int .u8 0,.int .u8 0,.int .u8 0,.int .u8 0,.int .u8 0,.int .u8 0,.int .u8 0,.int .u8 0,.int .u8 0,.int .u8 0,.int .u8 0,.int .u8 0,.int .u8 0,.int .u8 0,.int .u8 0,.int .u8 0,.int .u8 0,.int .u8 0,.int .u8 0,.int .u8 0,.int .u8 0,.int .u8 0,.int .u8 0,.int .u8 0,.int .u8 0,.int .u8 0,.int .u8 0,.int .u8 0,.int .u8 0,.int .u8 0,.int .u8 0,.int .u8 0,.int .u8 0,.int .u8 0,.int .u8 0,.int .u8 0,.int .u8 0,.int .u8 0,.int .u8 0,.int .u8 0,.int .u8 0,.int .u8 0,.int .u8 0,.int .u8 0,.int .u8 0,.int .u8 0,.int .u8 0,.int .u8 0,.int .u8 0,.int .u8 0,.int .u8 0,.int .u8 0,.int .u8 0,.int .u8 0,.int .u8 0,.int .u8 0,.int .u8 0,.int .u8 0,.int .u8 0,.int .u8 0,.int .u8 0] 203)=w1 at *
 have hc0:∀w',Grow w1 w'->w'.cell? ⟨w.heap.size,0,none⟩=some (.int .u64 s):=fun w' hg=>(hg.cell (p:=⟨w.heap.size,0,none⟩) hbh.lt).trans (by rw[hbh.cell];rfl)
 have hc1:∀w',Grow w1 w'->w'.cell? ⟨w.heap.size,1,none⟩=some (.int .u64 e):=fun w' hg=>(hg.cell (p:=⟨w.heap.size,1,none⟩) hbh.lt).trans (by rw[hbh.cell];rfl)
 have hc2:∀w',Grow w1 w'->w'.cell? ⟨w.heap.size,2,none⟩=some (.int .i64 z):=fun w' hg=>(hg.cell (p:=⟨w.heap.size,2,none⟩) hbh.lt).trans (by rw[hbh.cell];rfl)
 have hc3:∀w',Grow w1 w'->w'.cell? ⟨w.heap.size,3,none⟩=some (.int .i64 c):=fun w' hg=>(hg.cell (p:=⟨w.heap.size,3,none⟩) hbh.lt).trans (by rw[hbh.cell];rfl)
 open Reg in
 refine region_acts (by kernel_rfl) (by kernel_rfl) 33 rfl (by kernel_rfl) [5,6,7,8,9,10,11,12,13,14,15,16,17,18,19,20,3] (by kernel_rfl)
  [(1,.val (.pointer (some ⟨w.heap.size,0,none⟩)))]
  [(5,.val (.pointer (some ⟨w.heap.size,0,none⟩))),(6,.val (.int .u64 (s:Int))),(7,.res (fixL 8 s)),(8,.val (.pointer (some ⟨w.heap.size,1,none⟩))),(9,.val (.int .u64 (e:Int))),(10,.res (fixL 8 e)),(11,.val (.pointer (some ⟨w.heap.size,2,none⟩))),(12,.val (.int .i64 (z:Int))),(13,.val (.int .u32 (z:Int))),(14,.res (fixL 4 z)),(15,.val (.pointer (some ⟨w.heap.size,3,none⟩))),(16,.val (.int .i64 (c:Int))),(17,.val (.int .u32 (c:Int))),(18,.res (fixL 4 c)),(19,.pred (Lists [fixL 8 s,fixL 8 e,fixL 4 z,fixL 4 c]) (lists_stable _)),(20,.res (headB s e z c)),(3,.res (headB s e z c))]
  ⟨rfl,trivial⟩ (by kernel_rfl)
  (allOk_cons (ok_none rfl (l_run1 (.tmp 1) (.pointer (some ⟨w.heap.size,0,none⟩)) (.pointer (some ⟨w.heap.size,0,none⟩)) (hs 1 _ (by kernel_rfl) (by kernel_rfl)) (fun ρ w h=>by simp[execOp,h,go_sem,Result.andThen]) (by kernel_rfl)))
  <| allOk_cons (ok_none rfl (l_load (.tmp 5) (⟨w.heap.size,0,none⟩) _ (.int .u64 (s:Int)) (by intro w;simp[go_sem]) rfl (hs 5 (.pointer (some ⟨w.heap.size,0,none⟩)) (by kernel_rfl) (by kernel_rfl)) (fun w hg=>hc0 w hg) (by kernel_rfl)))
  <| allOk_cons (ok_none rfl (l_call 177 _ _ rfl (enters_of Tryz.func177 (by kernel_rfl) rfl) #[.int .u64 (s:Int)] (.res (fixL 8 s)) (args1 (hs 6 (.int .u64 (s:Int)) (by kernel_rfl) (by kernel_rfl))) (fun w hg=>gives_res (eight_gives s w)) (by kernel_rfl)))
  <| allOk_cons (ok_none rfl (l_run1 (.tmp 1) (.pointer (some ⟨w.heap.size,0,none⟩)) (.pointer (some ⟨w.heap.size,1,none⟩)) (hs 1 _ (by kernel_rfl) (by kernel_rfl)) (fun ρ w h=>by simp[execOp,h,go_sem,Result.andThen]) (by kernel_rfl)))
  <| allOk_cons (ok_none rfl (l_load (.tmp 8) (⟨w.heap.size,1,none⟩) _ (.int .u64 (e:Int)) (by intro w;simp[go_sem]) rfl (hs 8 (.pointer (some ⟨w.heap.size,1,none⟩)) (by kernel_rfl) (by kernel_rfl)) (fun w hg=>hc1 w hg) (by kernel_rfl)))
  <| allOk_cons (ok_none rfl (l_call 177 _ _ rfl (enters_of Tryz.func177 (by kernel_rfl) rfl) #[.int .u64 (e:Int)] (.res (fixL 8 e)) (args1 (hs 9 (.int .u64 (e:Int)) (by kernel_rfl) (by kernel_rfl))) (fun w hg=>gives_res (eight_gives e w)) (by kernel_rfl)))
  <| allOk_cons (ok_none rfl (l_run1 (.tmp 1) (.pointer (some ⟨w.heap.size,0,none⟩)) (.pointer (some ⟨w.heap.size,2,none⟩)) (hs 1 _ (by kernel_rfl) (by kernel_rfl)) (fun ρ w h=>by simp[execOp,h,go_sem,Result.andThen]) (by kernel_rfl)))
  <| allOk_cons (ok_none rfl (l_load (.tmp 11) (⟨w.heap.size,2,none⟩) _ (.int .i64 (z:Int)) (by intro w;simp[go_sem]) rfl (hs 11 (.pointer (some ⟨w.heap.size,2,none⟩)) (by kernel_rfl) (by kernel_rfl)) (fun w hg=>hc2 w hg) (by kernel_rfl)))
  <| allOk_cons (ok_none rfl (l_convS (.tmp 12) _ _ (.int .i64 (z:Int)) (.int .u32 (z:Int)) rfl (hs 12 (.int .i64 (z:Int)) (by kernel_rfl) (by kernel_rfl)) (fun w hg=>hz32 w) (by kernel_rfl)))
  <| allOk_cons (ok_none rfl (l_call 80 _ _ rfl (enters_of Tryz.func80 (by kernel_rfl) rfl) #[.int .u32 (z:Int)] (.res (fixL 4 z)) (args1 (hs 13 (.int .u32 (z:Int)) (by kernel_rfl) (by kernel_rfl))) (fun w hg=>gives_res (four_gives z w)) (by kernel_rfl)))
  <| allOk_cons (ok_none rfl (l_run1 (.tmp 1) (.pointer (some ⟨w.heap.size,0,none⟩)) (.pointer (some ⟨w.heap.size,3,none⟩)) (hs 1 _ (by kernel_rfl) (by kernel_rfl)) (fun ρ w h=>by simp[execOp,h,go_sem,Result.andThen]) (by kernel_rfl)))
  <| allOk_cons (ok_none rfl (l_load (.tmp 15) (⟨w.heap.size,3,none⟩) _ (.int .i64 (c:Int)) (by intro w;simp[go_sem]) rfl (hs 15 (.pointer (some ⟨w.heap.size,3,none⟩)) (by kernel_rfl) (by kernel_rfl)) (fun w hg=>hc3 w hg) (by kernel_rfl)))
  <| allOk_cons (ok_none rfl (l_convS (.tmp 16) _ _ (.int .i64 (c:Int)) (.int .u32 (c:Int)) rfl (hs 16 (.int .i64 (c:Int)) (by kernel_rfl) (by kernel_rfl)) (fun w hg=>hc32 w) (by kernel_rfl)))
  <| allOk_cons (ok_none rfl (l_call 80 _ _ rfl (enters_of Tryz.func80 (by kernel_rfl) rfl) #[.int .u32 (c:Int)] (.res (fixL 4 c)) (args1 (hs 17 (.int .u32 (c:Int)) (by kernel_rfl) (by kernel_rfl))) (fun w hg=>gives_res (four_gives c w)) (by kernel_rfl)))
  <| allOk_cons (ok_none rfl (l_build4 7 10 14 18 (fixL 8 s) (fixL 8 e) (fixL 4 z) (fixL 4 c) rfl (by kernel_rfl) (by kernel_rfl) (by kernel_rfl) (by kernel_rfl) (by kernel_rfl) (by kernel_rfl) (by kernel_rfl) (by kernel_rfl) (by kernel_rfl)))
  <| allOk_cons (ok_none rfl (l_callP 79 19 (Lists [fixL 8 s,fixL 8 e,fixL 4 z,fixL 4 c]) (lists_stable _) _ rfl (enters_of Tryz.func79 (by kernel_rfl) rfl) (.res (headB s e z c)) (by kernel_rfl) (by kernel_rfl) (fun w u hg hu=>hcat w u hu) (by kernel_rfl)))
  <| allOk_cons (ok_none rfl (l_mvF 20 (.res (headB s e z c)) (.inr rfl) (by kernel_rfl) (by kernel_rfl) (by kernel_rfl)))
  <| allOk_nil) ?_
 intro a w3 hsz hdef hGw3 hF hU
 obtain⟨A3,c3,e3,hin3⟩:=hF 3
 have ha:=Reg.acts_eq [5,6,7,8,9,10,11,12,13,14,15,16,17,18,19,20,3] hsz hdef hU
 clear hF hU hdef
 simp only[List.foldl_cons,List.foldl_nil,e3] at ha
 clear e3 hsz
 generalize a.eval (.tmp 5)=v5 at *
 generalize a.eval (.tmp 6)=v6 at *
 generalize a.eval (.tmp 7)=v7 at *
 generalize a.eval (.tmp 8)=v8 at *
 generalize a.eval (.tmp 9)=v9 at *
 generalize a.eval (.tmp 10)=v10 at *
 generalize a.eval (.tmp 11)=v11 at *
 generalize a.eval (.tmp 12)=v12 at *
 generalize a.eval (.tmp 13)=v13 at *
 generalize a.eval (.tmp 14)=v14 at *
 generalize a.eval (.tmp 15)=v15 at *
 generalize a.eval (.tmp 16)=v16 at *
 generalize a.eval (.tmp 17)=v17 at *
 generalize a.eval (.tmp 18)=v18 at *
 generalize a.eval (.tmp 19)=v19 at *
 generalize a.eval (.tmp 20)=v20 at *
 simp only[Act.put,zA,zE,zF] at ha
 subst ha
 simp only[Exit.then]
 refine ‹∀(a:Act) (w:World),Code.wp Tryz.prog _ _ a w->_› _ w3 ?_
 have hs3:=hbs.below hGw3 hbs.lt
 have hB3:Below w.heap.size w w3:=hBw.trans (hGw3.mono hBw.size)
 have hl24:=headB_length s e z c
 generalize hbd:headB s e z c=b at *
 have HB:=Lib.hid hbd
 clear hbd
 have HL:=Lib.hid hl24
 clear hl24 hcat hz32 hc32 hc0 hc1 hc2 hc3 hbh hbs
 go_wp2_with fail
 refine(sum1_gives w3 A3 c3 b hin3).mono ?_
 rintro e4 w4 ⟨rfl,hB4⟩
 have hin4:=(hin3.below hB4).more hB4.size
 have hs4:=hs3.below hB4 hs3.lt
 go_wp2_with fail
 refine(four_gives _ _).mono ?_
 rintro e5 w5 ⟨v,rfl,hown5,hB5⟩
 obtain⟨A5,k5,rfl,hin5⟩:=hown5.inB
 have hc2:=concat2_gives w5 A3 A5 c3 k5 b _ ((hin4.below hB5).more hB5.size) hin5 (by have:=HL.out;simp[fixL_length];omega)
 rw[fixL_length] at hc2
 have hs5:=hs4.below hB5 hs4.lt
 have hB45:Below w.heap.size w w5:=(hB3.trans (hB4.mono hB3.size)).trans (hB5.mono (hB3.trans (hB4.mono hB3.size)).size)
 rw[fixL_length]
 go_wp2_with fail
 refine hc2.mono ?_
 rintro e6 w6 ⟨v6,rfl,hown6,hB6⟩
 obtain⟨A6,k6,rfl,hin6⟩:=hown6.inB
 have hs6:=hs5.below hB6 hs5.lt
 have hB06:Below w.heap.size w w6:=hB45.trans (hB6.mono hB45.size)
 have honce:b++fixL 4 (sumL b)=onceB b:=rfl
 rw[honce] at hin6 ⊢
 have hol:(onceB b).length=28:=by rw[onceB_length,HL.out]
 have HO:=Lib.hid hol
 clear hol honce hs3 hs4 hs5 hB3 hB4 hB5 hB45 hin3 hin4 hin5 hown5 hown6 hc2 hB6
 go_wp2_with fail
 have HR:=repeat2_gives w6.drew A6 k6 (onceB b) hin6.drew (by have:=HO.out;omega) (by have:=HO.out;omega)
 obtain⟨d,hd⟩:∃d,onceB b++onceB b=d:=⟨_,rfl⟩
 rw[hd] at HR
 have HD:=Lib.hid hd
 clear hd
 go_region_held3 (fun _=>True) (trivial) (first
  | (go_at_call 179;refine HR.mono ?_;rintro e7 w7 ⟨v7,rfl,hown7,hB7⟩;obtain⟨A7,k7,rfl,hin7⟩:=hown7.inB;have hs7:=hs6.drew.below hB7 hs6.lt)
  | (refine step_copyB (by rfl) (.tmp 28) (.tmp 30) (by rfl) (w.heap.size+1) 0 (zR 64 0) d A7 k7 _ 64 64 (by rfl) (by rfl) hs7 hin7 (by simp) ?_))
 have hsp:spliceB (zR 64 0) 0 64 d=twiceB b:=by
  have:=HO.out
  rw[<-HD.out]
  simp only[spliceB,twiceB,List.take_zero,zQ,qK,List.drop_replicate,zY]
  rw[qA (by simp;omega),Nat.min_eq_left (by omega),this]
 rw[hsp]
 have hs8:=hs7.setRow ((twiceB b).map b8).toArray
 have hB8:Below w.heap.size w (w7.setRow (w.heap.size+1) ((twiceB b).map b8).toArray):=below_setRow (hB06.drew.trans (hB7.mono hB06.size)) (by omega) _
 generalize w7.setRow (w.heap.size+1) ((twiceB b).map b8).toArray=w8 at *
 clear hs7 hB7 hin7 hown7 HR hsp
 have h64:((twiceB b).map b8).toArray.size=64:=by
  have:=HL.out
  simp[twiceB_length];omega
 have hRow:RowTy Tryz.prog 203 ((twiceB b).map b8).toArray.size:=by rw[h64];exact rowSector
 clear h64
 go_wp2_with (first
  | (refine wp_loadW rfl 203 (.tmp 2) rfl (w.heap.size+1) rfl hRow hs8 rfl ?_)
  | (refine wp_storeW rfl 203 (.tmp 2) (.tmp 32) rfl (w.heap.size+1) rfl rfl hRow hs8 rfl rfl (b8_one _) ?_))
 have hself:w8.setRow (w.heap.size+1) ((twiceB b).map b8).toArray=w8:=setRow_self w8 _ _ _ _ hs8
 rw[hself]
 refine bodyPost_ret_by (results_cellW 2 rfl rfl hRow hs8 rfl) rfl ⟨?_,hB8⟩
 unfold headW
 rw[HB.out]
def GivesBE (w0:World)(l:List UInt8)(n:Int)(e:Ending)(w':World):Prop :=
 ∃A c,e = .returned (.tuple #[.slice A l.length c,.int .i64 n])/\InB w' w'.heap.size A c l/\Below w0.heap.size w0 w'
def hEnc (s e:Nat)(z c:Int):List UInt8:=if headOk z c then headW s e z.toNat c.toNat else []
def hErr (z c:Int):Int:=if headOk z c then 0 else 2
theorem InB.mt (w:World)(B:Nat):InB w B none 0 []:=⟨by simp,by omega,fun _=>rfl,fun h=>by simp at h⟩
theorem BlkIs.inBT {w:World}{g:Nat}{T:TypeId}{l:List UInt8}(h:BlkIs w g T (l.map b8).toArray)(hm:l.length<=9223372036854775807):InB w w.heap.size (some ⟨g,0,none⟩) l.length l :=
 ⟨zG _,hm,(fun e=>by cases e),fun _=>⟨g,0,rfl,h.lt,fun j hj=>by
  rw[h.cell]
  simp[hj,b8]⟩⟩
theorem encodeHead_gives (s e:Nat)(z c:Int)(w:World) :
  Calls Tryz.prog 99 #[.agg #[.int .u64 (s:Int),.int .u64 (e:Int),.int .i64 z,.int .i64 c]] w (GivesBE w (hEnc s e z c) (hErr z c)):=by
 have hBw:Below w.heap.size w (w.alloc (.cells #[.int .u64 (s:Int),.int .u64 (e:Int),.int .i64 z,.int .i64 c] 106)):=(Below.refl _ w).alloc (zG _) _
 have hbh:=BlkIs.new w 106 #[.int .u64 (s:Int),.int .u64 (e:Int),.int .i64 z,.int .i64 c]
 cases hk:headOk z c with
 | false =>
  have H:=fits_gives s e z c (w.alloc (.cells #[.int .u64 (s:Int),.int .u64 (e:Int),.int .i64 z,.int .i64 c] 106))
  rw[hk] at H
  have h1:hEnc s e z c=[]:=by simp[hEnc,hk]
  have h2:hErr z c=2:=by simp[hErr,hk]
  rw[h1,h2]
  clear h1 h2 hk
  go_enter Tryz.func99,Tryz.ntmps99
  go_wp2_with (first
   | (go_at_call 137;refine H.mono ?_;rintro x w2 ⟨rfl,hB2⟩)
   | (refine wp_loadW rfl 106 (.tmp 1) rfl w.heap.size rfl rowHead hbh (by rfl) ?_))
  refine bodyPost_ret (results_tmp2 rfl _ _ _) rfl ?_
  exact⟨none,0,rfl,InB.mt _ _,hBw.trans (hB2.mono hBw.size)⟩
 | true =>
  obtain⟨⟨hz0,hz1⟩,hc0,hc1⟩:=(headOk_iff z c).1 hk
  obtain⟨zn,rfl⟩:∃zn:Nat,z=zn:=⟨z.toNat,by omega⟩
  obtain⟨cn,rfl⟩:∃cn:Nat,c=cn:=⟨c.toNat,by omega⟩
  have H:=fits_gives s e zn cn (w.alloc (.cells #[.int .u64 (s:Int),.int .u64 (e:Int),.int .i64 zn,.int .i64 cn] 106))
  rw[hk] at H
  have h1:hEnc s e zn cn=headW s e zn cn:=by simp[hEnc,hk]
  have h2:hErr zn cn=0:=by simp[hErr,hk]
  rw[h1,h2]
  clear h1 h2 hk
  have hlen:=headW_length s e zn cn
  have HH:=fun W=>head_gives s e zn cn (by omega) (by omega) W
  generalize headW s e zn cn=L at *
  have HL:=Lib.hid hlen
  have hRow:RowTy Tryz.prog 203 (L.map b8).toArray.size:=by
   have:(L.map b8).toArray.size=64:=by simp[hlen]
   rw[this]
   exact rowSector
  clear hlen
  go_enter Tryz.func99,Tryz.ntmps99
  go_wp2_with (first
   | (go_at_call 137;refine H.mono ?_;rintro x w2 ⟨rfl,hB2⟩;have hbh2:=hbh.below hB2 hbh.lt;have hB02:=hBw.trans (hB2.mono hBw.size);clear H hbh)
   | (go_at_call 138;refine(HH _).mono ?_;rintro x w3 ⟨rfl,hB3⟩;have hB03:=hB02.trans (hB3.mono hB02.size))
   | (refine wp_loadW rfl 106 (.tmp 1) rfl w.heap.size rfl rowHead (by assumption) (by rfl) ?_)
   | (refine wp_storeW rfl 203 (.tmp 4) (.tmp 9) rfl w3.heap.size rfl rfl rowSector (BlkIs.new w3 203 #[.int .u8 0,.int .u8 0,.int .u8 0,.int .u8 0,.int .u8 0,.int .u8 0,.int .u8 0,.int .u8 0,.int .u8 0,.int .u8 0,.int .u8 0,.int .u8 0,.int .u8 0,.int .u8 0,.int .u8 0,.int .u8 0,.int .u8 0,.int .u8 0,.int .u8 0,.int .u8 0,.int .u8 0,.int .u8 0,.int .u8 0,.int .u8 0,.int .u8 0,.int .u8 0,.int .u8 0,.int .u8 0,.int .u8 0,.int .u8 0,.int .u8 0,.int .u8 0,.int .u8 0,.int .u8 0,.int .u8 0,.int .u8 0,.int .u8 0,.int .u8 0,.int .u8 0,.int .u8 0,.int .u8 0,.int .u8 0,.int .u8 0,.int .u8 0,.int .u8 0,.int .u8 0,.int .u8 0,.int .u8 0,.int .u8 0,.int .u8 0,.int .u8 0,.int .u8 0,.int .u8 0,.int .u8 0,.int .u8 0,.int .u8 0,.int .u8 0,.int .u8 0,.int .u8 0,.int .u8 0,.int .u8 0,.int .u8 0,.int .u8 0,.int .u8 0]) (by rfl) (by have:=HL.out;simp;omega) (b8_one _) ?_))
  have hb4:=(BlkIs.new w3 203 #[.int .u8 0,.int .u8 0,.int .u8 0,.int .u8 0,.int .u8 0,.int .u8 0,.int .u8 0,.int .u8 0,.int .u8 0,.int .u8 0,.int .u8 0,.int .u8 0,.int .u8 0,.int .u8 0,.int .u8 0,.int .u8 0,.int .u8 0,.int .u8 0,.int .u8 0,.int .u8 0,.int .u8 0,.int .u8 0,.int .u8 0,.int .u8 0,.int .u8 0,.int .u8 0,.int .u8 0,.int .u8 0,.int .u8 0,.int .u8 0,.int .u8 0,.int .u8 0,.int .u8 0,.int .u8 0,.int .u8 0,.int .u8 0,.int .u8 0,.int .u8 0,.int .u8 0,.int .u8 0,.int .u8 0,.int .u8 0,.int .u8 0,.int .u8 0,.int .u8 0,.int .u8 0,.int .u8 0,.int .u8 0,.int .u8 0,.int .u8 0,.int .u8 0,.int .u8 0,.int .u8 0,.int .u8 0,.int .u8 0,.int .u8 0,.int .u8 0,.int .u8 0,.int .u8 0,.int .u8 0,.int .u8 0,.int .u8 0,.int .u8 0,.int .u8 0]).setRow (L.map b8).toArray
  have hB4:Below w.heap.size w ((w3.alloc (.cells #[.int .u8 0,.int .u8 0,.int .u8 0,.int .u8 0,.int .u8 0,.int .u8 0,.int .u8 0,.int .u8 0,.int .u8 0,.int .u8 0,.int .u8 0,.int .u8 0,.int .u8 0,.int .u8 0,.int .u8 0,.int .u8 0,.int .u8 0,.int .u8 0,.int .u8 0,.int .u8 0,.int .u8 0,.int .u8 0,.int .u8 0,.int .u8 0,.int .u8 0,.int .u8 0,.int .u8 0,.int .u8 0,.int .u8 0,.int .u8 0,.int .u8 0,.int .u8 0,.int .u8 0,.int .u8 0,.int .u8 0,.int .u8 0,.int .u8 0,.int .u8 0,.int .u8 0,.int .u8 0,.int .u8 0,.int .u8 0,.int .u8 0,.int .u8 0,.int .u8 0,.int .u8 0,.int .u8 0,.int .u8 0,.int .u8 0,.int .u8 0,.int .u8 0,.int .u8 0,.int .u8 0,.int .u8 0,.int .u8 0,.int .u8 0,.int .u8 0,.int .u8 0,.int .u8 0,.int .u8 0,.int .u8 0,.int .u8 0,.int .u8 0,.int .u8 0] 203)).setRow w3.heap.size (L.map b8).toArray):=below_setRow (hB03.alloc hB03.size _) hB03.size _
  have hin4:=hb4.inBT (by rw[HL.out];omega)
  rw[HL.out] at hin4
  refine bodyPost_ret (results_tmp2 rfl _ _ _) rfl ?_
  exact⟨_,64,by rw[HL.out];rfl,hin4,hB4⟩
theorem InB.grown {w w':World}{B:Nat}{A:Option Addr}{c:Nat}{l:List UInt8}{row:Option Nat}(h:InB w B A c l)(hB:B<=w.heap.size)(hg:w.grownBy w' row)(hr:∀r,row=some r->B<=r):InB w' B A c l :=
 h.keep fun p hp=>World.cell?_of_block (hg.block p.block (by omega) (fun e=>by have:=hr _ e.symm;omega))
theorem laid_gives (w:World)(A:Option Addr)(k:Nat)(y:List UInt8)(ls:List (List UInt8))(u:Value)(hin:InB w w.heap.size A k y)(hu:Lists ls u w)(hm:ls.length<=1000)(hp:ls.flatten.length=25)(hy:y.length<=100000) :
  Calls Tryz.prog 187 #[.slice A y.length k,u] w fun x w'=>x = .returned (.agg ((sectB ls.flatten y).map b8).toArray)/\Below w.heap.size w w':=by
 have hB1:Below w.heap.size w (w.alloc (.cells #[.int .u8 0,.int .u8 0,.int .u8 0,.int .u8 0,.int .u8 0,.int .u8 0,.int .u8 0,.int .u8 0,.int .u8 0,.int .u8 0,.int .u8 0,.int .u8 0,.int .u8 0,.int .u8 0,.int .u8 0,.int .u8 0,.int .u8 0,.int .u8 0,.int .u8 0,.int .u8 0,.int .u8 0,.int .u8 0,.int .u8 0,.int .u8 0,.int .u8 0,.int .u8 0,.int .u8 0,.int .u8 0,.int .u8 0,.int .u8 0,.int .u8 0,.int .u8 0,.int .u8 0,.int .u8 0,.int .u8 0,.int .u8 0,.int .u8 0,.int .u8 0,.int .u8 0,.int .u8 0,.int .u8 0,.int .u8 0,.int .u8 0,.int .u8 0,.int .u8 0,.int .u8 0,.int .u8 0,.int .u8 0,.int .u8 0,.int .u8 0,.int .u8 0,.int .u8 0,.int .u8 0,.int .u8 0,.int .u8 0,.int .u8 0,.int .u8 0,.int .u8 0,.int .u8 0,.int .u8 0,.int .u8 0,.int .u8 0,.int .u8 0,.int .u8 0] 203)):=(Below.refl _ w).alloc (zG _) _
 have hb1:BlkIs (w.alloc (.cells #[.int .u8 0,.int .u8 0,.int .u8 0,.int .u8 0,.int .u8 0,.int .u8 0,.int .u8 0,.int .u8 0,.int .u8 0,.int .u8 0,.int .u8 0,.int .u8 0,.int .u8 0,.int .u8 0,.int .u8 0,.int .u8 0,.int .u8 0,.int .u8 0,.int .u8 0,.int .u8 0,.int .u8 0,.int .u8 0,.int .u8 0,.int .u8 0,.int .u8 0,.int .u8 0,.int .u8 0,.int .u8 0,.int .u8 0,.int .u8 0,.int .u8 0,.int .u8 0,.int .u8 0,.int .u8 0,.int .u8 0,.int .u8 0,.int .u8 0,.int .u8 0,.int .u8 0,.int .u8 0,.int .u8 0,.int .u8 0,.int .u8 0,.int .u8 0,.int .u8 0,.int .u8 0,.int .u8 0,.int .u8 0,.int .u8 0,.int .u8 0,.int .u8 0,.int .u8 0,.int .u8 0,.int .u8 0,.int .u8 0,.int .u8 0,.int .u8 0,.int .u8 0,.int .u8 0,.int .u8 0,.int .u8 0,.int .u8 0,.int .u8 0,.int .u8 0] 203)) w.heap.size 203 ((zR 64 (0:UInt8)).map b8).toArray:=BlkIs.new w 203 #[.int .u8 0,.int .u8 0,.int .u8 0,.int .u8 0,.int .u8 0,.int .u8 0,.int .u8 0,.int .u8 0,.int .u8 0,.int .u8 0,.int .u8 0,.int .u8 0,.int .u8 0,.int .u8 0,.int .u8 0,.int .u8 0,.int .u8 0,.int .u8 0,.int .u8 0,.int .u8 0,.int .u8 0,.int .u8 0,.int .u8 0,.int .u8 0,.int .u8 0,.int .u8 0,.int .u8 0,.int .u8 0,.int .u8 0,.int .u8 0,.int .u8 0,.int .u8 0,.int .u8 0,.int .u8 0,.int .u8 0,.int .u8 0,.int .u8 0,.int .u8 0,.int .u8 0,.int .u8 0,.int .u8 0,.int .u8 0,.int .u8 0,.int .u8 0,.int .u8 0,.int .u8 0,.int .u8 0,.int .u8 0,.int .u8 0,.int .u8 0,.int .u8 0,.int .u8 0,.int .u8 0,.int .u8 0,.int .u8 0,.int .u8 0,.int .u8 0,.int .u8 0,.int .u8 0,.int .u8 0,.int .u8 0,.int .u8 0,.int .u8 0,.int .u8 0]
 have hC:=concatL_gives (lists_stable ls u w _ hu hB1) hm (by rw[hp];omega)
 have hin1:=(hin.below hB1).more hB1.size
 generalize ls.flatten=p at *
 have HP:=Lib.hid hp
 clear hp hu hm hin
 go_enter Tryz.func187,Tryz.ntmps187
 go_wp2_with fail
 refine hC.mono ?_
 rintro x W2 ⟨v2,rfl,own2,hB⟩
 obtain⟨A2,c2,rfl,hin2⟩:=own2.inB
 have hB2:=hB1.trans (hB.mono hB1.size)
 have hb2:=hb1.below hB hb1.lt
 have hy2:=(hin1.below hB).more hB.size
 clear hB hB1 hb1 hin1 hC own2
 go_wp2_with fail
 have S2:=sum2_gives W2.drew A2 A c2 k p y hin2.drew hy2.drew
 have s2:=hB2.size
 obtain⟨S,hS⟩:∃S,sumL (p++y)=S:=⟨_,rfl⟩
 rw[hS] at S2
 have HS:=Lib.hid hS
 clear hS
 obtain⟨d,hd⟩:∃d,p++fixL 4 S=d:=⟨_,rfl⟩
 have HD:=Lib.hid hd
 clear hd
 go_region_held3 (fun _=>True) (trivial) (first
  | (go_at_call 178;refine S2.mono ?_;rintro x W3 ⟨rfl,hB3⟩;have hb3:=hb2.drew.below hB3 hb2.lt;have hp3:=(hin2.drew.below hB3).more hB3.size)
  | (go_at_call 80;refine(four_gives _ _).mono ?_;rintro x W4 ⟨v4,rfl,own4,hB4⟩;have hb4:=hb3.below hB4 hb3.lt;have hp4:=(hp3.below hB4).more hB4.size;obtain⟨A4,c4,rfl,hin4⟩:=own4.inB;have C5:=concat2_gives W4 A2 A4 c2 c4 p (fixL 4 S) hp4 hin4 (by rw[HP.out,fixL_length];omega);rw[HD.out] at C5)
  | (go_at_call 79;refine C5.mono ?_;rintro x W5 ⟨v5,rfl,own5,hB5⟩;have hb5:=hb4.below hB5 hb4.lt;obtain⟨A5,c5,rfl,hin5⟩:=own5.inB)
  | (revert hb5;intro hb5;refine step_copyB (by rfl) (.tmp 8) (.tmp 16) (by rfl) w.heap.size 0 (zR 64 0) d A5 c5 _ 64 64 (by rfl) (by rfl) hb5 hin5 (by simp) ?_))
 have hsp:spliceB (zR 64 0) 0 64 d=sectB p y:=by
  have:=HP.out
  rw[<-HD.out]
  simp only[spliceB,sectB,HS.out,List.take_zero,zQ,qK,List.drop_replicate,zY,fixL_length]
  rw[qA (by simp[fixL_length];omega),Nat.min_eq_left (by omega),this]
 rw[hsp]
 have hb6:=hb5.setRow ((sectB p y).map b8).toArray
 have hB5':Below w.heap.size w W5:=hB2.drew.trans ((hB3.trans ((hB4.trans (hB5.mono hB4.size)).mono hB3.size)).mono s2)
 have hB6:Below w.heap.size w (W5.setRow w.heap.size ((sectB p y).map b8).toArray):=below_setRow hB5' (zG _) _
 generalize W5.setRow w.heap.size ((sectB p y).map b8).toArray=W6 at *
 clear hb5 hB5 hin5 own5 hsp C5 hB5' hb4 hB4 hp4 own4 hin4 hb3 hB3 hp3
 have h64:((sectB p y).map b8).toArray.size=64:=by
  have:=HP.out
  simp[sectB_length];omega
 have hRow:RowTy Tryz.prog 203 ((sectB p y).map b8).toArray.size:=by rw[h64];exact rowSector
 clear h64
 go_wp2_with (first
  | (refine wp_loadW rfl 203 (.tmp 4) rfl w.heap.size rfl hRow hb6 rfl ?_)
  | (refine wp_storeW rfl 203 (.tmp 4) (.tmp 18) rfl w.heap.size rfl rfl hRow hb6 rfl rfl (b8_one _) ?_))
 have hself:W6.setRow w.heap.size ((sectB p y).map b8).toArray=W6:=setRow_self W6 _ _ _ _ hb6
 rw[hself]
 exact bodyPost_ret_by (results_cellW 4 rfl rfl hRow hb6 rfl) rfl ⟨rfl,hB6⟩
def frCells (e:Nat)(i p:Int)(f:Bool)(z:Int)(n:Nat)(A:Option Addr)(len k:Nat):Array Value:=#[.int .u64 (e:Int),.int .i64 i,.int .i64 p,.bool f,.int .i64 z,.int .u32 (n:Int),.slice A len k]
def frOk (len:Nat)(i p:Int)(f:Bool)(z:Int):Bool:=decide (len=512) && isIn 0 2000 [i] && isIn 0 2000 [p,z] && (f || z == 0)
theorem frOk_iff (len:Nat)(i p:Int)(f:Bool)(z:Int):frOk len i p f z=true↔len=512/\(0<=i/\i<=2000)/\(0<=p/\p<=2000)/\(0<=z/\z<=2000)/\(f=true∨z=0):=by
 simp[frOk,isIn_one,isIn_two,and_assoc]
theorem rowFrame:RowTy Tryz.prog 163 7:=⟨⟨_,Tryz.underlying163,rfl⟩,by kernel_rfl⟩
theorem InN.two (W:World)(x y:Int):InN (W.alloc (.cells #[.int .i64 x,.int .i64 y] 3)) (some ⟨W.heap.size,0,none⟩) [x,y]:=⟨fun _=>⟨_,_,rfl,fun j hj=>by
 rw[(BlkIs.new W 3 #[.int .i64 x,.int .i64 y]).cell]
 rcases(show j=0∨j=1 from by simp at hj;omega) with rfl|rfl<;>rfl⟩⟩
theorem withinTwo_gives (W:World)(lo hi x y:Int) :
  Calls Tryz.prog 176 #[.int .i64 lo,.int .i64 hi,.slice (some ⟨W.heap.size,0,none⟩) 2 2] (W.alloc (.cells #[.int .i64 x,.int .i64 y] 3)) fun e w'=>e = .returned (.bool (isIn lo hi [x,y]))/\Below W.heap.size W w' :=
 (within_gives (W.alloc (.cells #[.int .i64 x,.int .i64 y] 3)) (some ⟨W.heap.size,0,none⟩) 2 [x,y] (InN.two W x y) (fun g o e=>by injection e with e;injection e with e1;subst e1;simp) (by simp) lo hi).mono fun e w' ⟨he,hB⟩ =>
  ⟨he,((Below.refl _ W).alloc (zG _) _).trans (hB.mono (by simp))⟩
theorem right_gives (e:Nat)(i p:Int)(f:Bool)(z:Int)(n:Nat)(A:Option Addr)(len k:Nat)(w:World) :
  Calls Tryz.prog 148 #[.agg (frCells e i p f z n A len k)] w fun x w'=>x = .returned (.bool (frOk len i p f z))/\Below w.heap.size w w':=by
 have hb0:=BlkIs.new w 163 (frCells e i p f z n A len k)
 have hB0:Below w.heap.size w (w.alloc (.cells (frCells e i p f z n A len k) 163)):=(Below.refl _ w).alloc (zG _) _
 have H1:=withinOne_gives (w.alloc (.cells (frCells e i p f z n A len k) 163)) 0 2000 i
 rw[World.size_alloc] at H1
 obtain⟨v,hv⟩:∃v,v=frOk len i p f z:=⟨_,rfl⟩
 rw[<-hv]
 unfold frOk at hv
 have hV:=Lib.hid hv
 clear hv
 unfold frCells at *
 by_cases hl:len=512
 ·have hq:((len:Int) == 512)=true:=by simp;omega
  generalize hq1:isIn 0 2000 [i]=b1 at *
  cases b1 with
  | false =>
   have ev:v=false:=by rw[hV.out];simp
   subst ev
   clear hV hl
   go_enter Tryz.func148,Tryz.ntmps148
   go_wp2_with (go_at_call 176;refine H1.mono ?_;rintro x w1 ⟨rfl,hB⟩)
   go_ret
   exact⟨rfl,hB0.trans (hB.mono (by simp))⟩
  | true =>
   have ev:v=(isIn 0 2000 [p,z] && (f || z == 0)):=by rw[hV.out];simp[hl]
   clear hV hl
   generalize hq2:isIn 0 2000 [p,z]=b2 at *
   have H2:=fun W=>withinTwo_gives W 0 2000 p z
   rw[hq2] at H2
   clear hq1 hq2
   have EV:=Lib.hid ev
   clear ev
   cases b2 with
   | false =>
    have ev:v=false:=by rw[EV.out];simp
    subst ev
    clear EV
    go_enter Tryz.func148,Tryz.ntmps148
    go_wp2_with fail
    refine H1.mono ?_
    rintro x w1 ⟨rfl,hB⟩
    have hb1:=hb0.below hB (by simp)
    have hB1:=hB0.trans (hB.mono (by simp))
    have hc2:w1.cell? ⟨w.heap.size,2,none⟩=some (.int .i64 p):=by rw[hb1.cell];rfl
    have hc4:w1.cell? ⟨w.heap.size,4,none⟩=some (.int .i64 z):=by rw[hb1.cell];rfl
    clear hB hb0 hb1 hB0 H1
    go_wp2_with (go_at_call 176;refine(H2 _).mono ?_;rintro x w2 ⟨rfl,hB⟩)
    go_ret
    exact⟨rfl,hB1.trans (hB.mono hB1.size)⟩
   | true =>
    have ev:v=(f || z == 0):=by rw[EV.out];simp
    clear EV
    have hz:f=false->∃q,(z == 0)=q/\v=q:=fun h=>⟨_,rfl,by rw[ev,h];rfl⟩
    cases f with
    | true =>
     replace ev:v=true:=by rw[ev];rfl
     subst ev
     clear hz
     go_enter Tryz.func148,Tryz.ntmps148
     go_wp2_with fail
     refine H1.mono ?_
     rintro x w1 ⟨rfl,hB⟩
     have hb1:=hb0.below hB (by simp)
     have hB1:=hB0.trans (hB.mono (by simp))
     have hc2:w1.cell? ⟨w.heap.size,2,none⟩=some (.int .i64 p):=by rw[hb1.cell];rfl
     have hc4:w1.cell? ⟨w.heap.size,4,none⟩=some (.int .i64 z):=by rw[hb1.cell];rfl
     clear hB hb0 hB0 H1
     go_wp2_with fail
     refine(H2 _).mono ?_
     rintro x w2 ⟨rfl,hB⟩
     have hb2:=hb1.below hB hb1.lt
     have hB2:=hB1.trans (hB.mono hB1.size)
     have hc3:w2.cell? ⟨w.heap.size,3,none⟩=some (.bool true):=by rw[hb2.cell];rfl
     clear hB hb1 hB1 hc2 hc4
     go_wp2
     go_ret
     exact⟨rfl,hB2⟩
    | false =>
     obtain⟨q,hq3,rfl⟩:=hz rfl
     clear ev hz
     go_enter Tryz.func148,Tryz.ntmps148
     go_wp2_with fail
     refine H1.mono ?_
     rintro x w1 ⟨rfl,hB⟩
     have hb1:=hb0.below hB (by simp)
     have hB1:=hB0.trans (hB.mono (by simp))
     have hc2:w1.cell? ⟨w.heap.size,2,none⟩=some (.int .i64 p):=by rw[hb1.cell];rfl
     have hc4:w1.cell? ⟨w.heap.size,4,none⟩=some (.int .i64 z):=by rw[hb1.cell];rfl
     clear hB hb0 hB0 H1
     go_wp2_with fail
     refine(H2 _).mono ?_
     rintro x w2 ⟨rfl,hB⟩
     have hb2:=hb1.below hB hb1.lt
     have hB2:=hB1.trans (hB.mono hB1.size)
     have hc3:w2.cell? ⟨w.heap.size,3,none⟩=some (.bool false):=by rw[hb2.cell];rfl
     have hc4:w2.cell? ⟨w.heap.size,4,none⟩=some (.int .i64 z):=by rw[hb2.cell];rfl
     clear hB hb1 hB1 hc2
     go_wp2
     go_ret
     exact⟨rfl,hB2⟩
 ·have hq:((len:Int) == 512)=false:=by simp;omega
  have ev:v=false:=by rw[hV.out];simp[hl]
  subst ev
  clear hV hl
  go_enter Tryz.func148,Tryz.ntmps148
  go_wp2
  go_ret
  exact⟨rfl,hB0⟩
theorem flag1_gives (w:World)(c:UInt8):Calls Tryz.prog 215 #[.int .u8 (c.toNat:Int)] w fun x w'=>x = .returned (.func (.func 216) #[] #[.pointer (some ⟨w.heap.size,0,none⟩)])/\w'=w.alloc (.cells #[.int .u8 (c.toNat:Int)] 5):=by
 go_enter Tryz.func215,Tryz.ntmps215
 go_wp2
 go_ret
 exact⟨rfl,rfl⟩
theorem flag11_gives (w:World)(g:Nat)(c:UInt8)(hb:BlkIs w g 5 #[.int .u8 (c.toNat:Int)]):Calls Tryz.prog 216 #[.pointer (some ⟨g,0,none⟩)] w (GivesB w [c]):=by
 have hc:=hb.boxed
 go_enter Tryz.func216,Tryz.ntmps216
 go_wp2
 go_ret
 refine⟨_,rfl,?_,(Below.refl _ _).alloc (zG _) _⟩
 exact World.ownsRow_lit w #[.int .u8 (c.toNat:Int)] 1 (zG _) (by unfold maxLen;omega) rfl
def FlagsAt (w:World)(v:Value):Prop:=∃r g0 g1 clock,v = .map (some r)/\MapIs w r #[⟨.bool false,.func (.func 216) #[] #[.pointer (some ⟨g0,0,none⟩)],0⟩,⟨.bool true,.func (.func 216) #[] #[.pointer (some ⟨g1,0,none⟩)],1⟩] clock /\
 BlkIs w g0 5 #[.int .u8 0]/\BlkIs w g1 5 #[.int .u8 1]
theorem FlagsAt.below {w w':World}{v:Value}(h:FlagsAt w v)(hB:Below w.heap.size w w'):FlagsAt w' v:=by
 obtain⟨r,g0,g1,clock,hv,h1,h2,h3⟩:=h
 exact⟨r,g0,g1,clock,hv,h1.below hB h1.lt,h2.below hB h2.lt,h3.below hB h3.lt⟩
theorem key_bool (b:Bool):MapKept.IsKey .bool (.bool b):=trivial
theorem flags_gives (w:World):Calls Tryz.prog 188 #[] w fun x w'=>∃v,x = .returned v/\FlagsAt w' v/\Below w.heap.size w w':=by
 have F0:∀W,Calls Tryz.prog 215 #[.int .u8 0] W fun x w'=>x = .returned (.func (.func 216) #[] #[.pointer (some ⟨W.heap.size,0,none⟩)])/\w'=W.alloc (.cells #[.int .u8 0] 5):=fun W=>flag1_gives W 0
 have F1:∀W,Calls Tryz.prog 215 #[.int .u8 1] W fun x w'=>x = .returned (.func (.func 216) #[] #[.pointer (some ⟨W.heap.size,0,none⟩)])/\w'=W.alloc (.cells #[.int .u8 1] 5):=fun W=>flag1_gives W 1
 have hu:=Tryz.underlying247
 have hk:=Tryz.underlying4
 go_enter Tryz.func188,Tryz.ntmps188
 go_wp2_with (first
  | (refine wp_makeMap rfl rfl ?_;intro hm1;have hB1:Below w.heap.size w (w.alloc (.map #[] 0)):=(Below.refl _ w).alloc (zG _) _)
  | (go_at_call 215;(with_reducible refine(F0 _).mono ?_);rintro x w2 ⟨rfl,rfl⟩;have hm2:=hm1.below ((Below.refl _ _).alloc (zG _) (.cells #[.int .u8 0] 5)) hm1.lt;have hg2:=BlkIs.new (w.alloc (.map #[] 0)) 5 #[.int .u8 0];have hB2:=hB1.alloc hB1.size (.cells #[.int .u8 0] 5))
  | (go_at_call 215;(with_reducible refine(F1 _).mono ?_);rintro x w4 ⟨rfl,rfl⟩;have hm4:=hm3.below ((Below.refl _ _).alloc (zG _) (.cells #[.int .u8 1] 5)) hm3.lt;have hg4:=hg3.alloc (.cells #[.int .u8 1] 5);have hq4:=BlkIs.new w3 5 #[.int .u8 1];have hB4:=hB3.alloc hB3.size (.cells #[.int .u8 1] 5))
  | (revert hm2;intro hm2;refine wp_put_new (by rfl) (.tmp 2) (.const (.bool false)) (.tmp 4) (.inl (by rfl)) hu hk (key_bool false) (by rfl) (by rfl) (by rfl) hm2 (by rfl) ?_;intro w3 hm3 hr3;have hg3:=hg2.grownMap hm2 hr3;have hB3:Below w.heap.size w w3:=hB2.trans (grown_below hr3 hB2.size (fun r hr=>by injection hr with hr;omega));clear hm1 hm2 hg2)
  | (revert hm4;intro hm4;refine wp_put_new (by rfl) (.tmp 2) (.const (.bool true)) (.tmp 6) (.inl (by rfl)) hu hk (key_bool true) (by rfl) (by rfl) (by rfl) hm4 (by rfl) ?_;intro w5 hm5 hr5;have hg5:=hg4.grownMap hm4 hr5;have hq5:=hq4.grownMap hm4 hr5;have hB5:Below w.heap.size w w5:=hB4.trans (grown_below hr5 hB4.size (fun r hr=>by injection hr with hr;omega))))
 go_ret
 rw[World.size_alloc] at hg5
 exact⟨_,rfl,⟨_,_,_,_,rfl,hm5,hg5,hq5⟩,hB5⟩
namespace Reg
variable {P:Program}{ops:Array Oper}
inductive Src where
 | slot (t:Tmp)
 | given (v:Value)
structure Stage where
 i:Option Nat
 s:Src
 p:Value->World->Prop
 b:Value->Option Nat
 st:∀v w w',p v w->(∀k,b v=some k->w'.heap[k]? = w.heap[k]?)->p v w'
 lt:∀v w k,p v w->b v=some k->k<w.heap.size
abbrev Ghost:=Nat->Option Nat
def upd (g:Ghost)(k:Nat)(b:Option Nat):Ghost:=fun j=>if j=k then b else g j
def Lt (g:Ghost)(w:World):Prop:=∀k b,g k=some b->b<w.heap.size
def edge (ops:Array Oper)(i j:Nat):Bool:=match ops[i]? with|some o=>o.after.toList.any fun e=>Region.binds .any e && e.on == j|none=>false
end Reg
namespace Reg
variable {P:Program}{ops:Array Oper}
section rules
variable {a0:Act}{FS:Ghost->Tmp->Value->World->Prop}{B:Nat}{w00:World}{cs:List (List Stage)}{i:Nat}{o:Oper}
def behind (ops:Array Oper)(i:Nat):Option Nat->Bool
 | none=>true
 | some j=>edge ops i j
end rules
end Reg
namespace Reg
variable {L:List (Nat×Fact)}{ops:Array Oper}{w0:World}{o:Oper}{P:Program}
theorem l_loadV (x:Operand)(p:Addr)(T:TypeId)(v:Value)(ho:o.op = .load T x)(hx:Has ops (FSof L) o x (.pointer (some p)))(hload:∀w,Grow w0 w->(loadVar T p).run P w = .ok v w)(hd:FD L o.dst = .val v):RunOk P ops (FSof L) w0 o :=
 l_run1W x (.val v) _ hx (fun ρ w hg h=>⟨v,w,by simp only[execOp,ho,h,Instr.loadAt,Instr.sureAddr,Sem.run_bind,Sem.run_pure,Result.andThen_ok,hload w hg],Grow.refl _,rfl⟩) hd
theorem l_s2a (x:Operand)(g q n c:Nat)(hn:64<=n)(ho:o.op = .sliceToArrayPointer 203 x)(hx:Has ops (FSof L) o x (.slice (some ⟨g,q,none⟩) n c))(hd:FD L o.dst = .val (.pointer (some ⟨g,q,none⟩))):RunOk Tryz.prog ops (FSof L) w0 o:=by
 refine run1 x hx (fun ρ w h => ?_) fun _=>fsd hd rfl
 have hn2:¬ n<64:=by omega
 simp[execOp,ho,h,go_sem,Instr.arrayAt,run_underlying Tryz.underlying203,Result.andThen,hn2]
theorem l_eqArr (x y:Operand)(T:TypeId)(xs ys:List UInt8)(hx1:xs.length=64)(hy1:ys.length=64)(ho:o.op = .binOp .eql 203 x y T)(hx:Has ops (FSof L) o x (.agg (xs.map b8).toArray))(hy:Has ops (FSof L) o y (.agg (ys.map b8).toArray))(hd:FD L o.dst = .val (.bool (xs == ys))):RunOk Tryz.prog ops (FSof L) w0 o:=by
 refine run2 x y hx hy (fun ρ w h1 h2 => ?_) fun _=>fsd hd rfl
 have hr:(binOp .eql 203 (.agg (xs.map b8).toArray) (.agg (ys.map b8).toArray)).run Tryz.prog w = .ok (.bool (xs == ys)) w :=
  run_eql_bytes w 203 5 64 Tryz.underlying203 Tryz.underlying5 (fun w=>by simp[go_sem]) xs ys hx1 hy1
 have hm:Tryz.prog.eqGuardType Tryz.prog.depth 203=false:=by kernel_rfl
 simp only[execOp,ho,h1,h2,Sem.run_bind,run_eqGuard_agg w .eql 203 x y _ _ hm,Result.andThen_ok,hr,Sem.run_pure]
end Reg
namespace Reg
inductive GFact where
 | val (v:Value)
 | any
 | gp (p:Ghost->Value->World->Prop) (h1:∀g v w w',p g v w->Grow w w'->p g v w') (h2:∀g k gb v w w',Lt g w->w.grownBy w' (g k)->(gb=g k∨∀b,gb=some b->w.heap.size<=b)->p g v w->p (upd g k gb) v w')
def resX (l:List UInt8)(g:Ghost)(v:Value)(w:World):Prop:=∃A c,v = .slice A l.length c/\InB w w.heap.size A c l/\∀ad,A=some ad->ad.block<w.heap.size/\∀k,g k≠some ad.block
theorem resX_grow (l:List UInt8):∀g v w w',resX l g v w->Grow w w'->resX l g v w':=by
 rintro g v w w' ⟨A,c,rfl,h,ha⟩ hg
 exact⟨A,c,rfl,(h.below hg).more hg.size,fun ad e=>⟨zO (ha ad e).1 hg.size,(ha ad e).2⟩⟩
theorem resX_stage (l:List UInt8):∀g k gb v w w',Lt g w->w.grownBy w' (g k)->(gb=g k∨∀b,gb=some b->w.heap.size<=b)->resX l g v w->resX l (upd g k gb) v w':=by
 rintro g k gb v w w' hlt hg hb ⟨A,c,rfl,h,ha⟩
 refine⟨A,c,rfl,⟨h.le,h.max,h.nil,fun h0 => ?_⟩,fun ad e=>⟨zO (ha ad e).1 hg.size,fun j => ?_⟩⟩
 ·obtain⟨b,o,hA,hb',hc⟩:=h.lies h0
  refine⟨b,o,hA,zO hb' hg.size,fun j hj => ?_⟩
  rw[<-hc j hj]
  exact World.cell?_of_block (hg.block b hb' (fun e=>(ha _ hA).2 k e.symm))
 ·unfold upd
  split
  ·rcases hb with rfl|hb
   ·exact(ha ad e).2 k
   ·intro e2
    have h3:=hb _ e2
    have:=(ha ad e).1
    omega
  ·exact(ha ad e).2 j
abbrev GFact.res (l:List UInt8):GFact:=.gp (resX l) (resX_grow l) (resX_stage l)
section rules
variable {ops:Array Oper}{a0:Act}{GL:List (Nat×GFact)}{B:Nat}{w00:World}{cs:List (List Stage)}{i:Nat}{o:Oper}{P:Program}
end rules
end Reg
namespace Reg
variable {P:Program}{ops:Array Oper}
def tailOk (ops:Array Oper)(m:Nat):Bool:=(List.range ops.size).all fun i=>decide (i<m) || (List.range i).all fun j=>edge ops i j
theorem tail_edge {m i j:Nat}(h:tailOk ops m=true)(hi:i<ops.size)(hm:m<=i)(hj:j<i):edge ops i j=true:=by
 unfold tailOk at h
 rw[qG] at h
 have:=h i (by simpa using hi)
 simp only[Bool.or_eq_true,decide_eq_true_eq,qG] at this
 rcases this with h|h
 ·omega
 ·exact h j (by simpa using hj)
theorem listed_of_edge {i j:Nat}{o:Oper}{listed:Array Bool}(he:edge ops i j=true)(ho:ops[i]? = some o)(hed:∀e∈o.after.toList,Region.binds .any e=true->listed.getD e.on false=true):listed.getD j false=true:=by
 simp only[edge,ho,List.any_eq_true,Bool.and_eq_true,beq_iff_eq] at he
 obtain⟨e,hm,hb,rfl⟩:=he
 exact hed e hm hb
def StepQ (P:Program)(ops:Array Oper)(Q:Exit->Act->World->Prop)(Inv:Array Bool->Act->World->Prop)(i:Nat)(o:Oper):Prop :=
 ∀(listed:Array Bool) (a:Act) (w:World) (K:Act->World->Prop),listed.size=ops.size->listed.getD i true=false->(∀e∈o.after.toList,Region.binds .any e=true->listed.getD e.on false=true) ->
  Inv listed a w->(∀a' w',Inv (listed.setIfInBounds i true) a' w'->K a' w') ->
  (if Region.wanted o (yielded ops a.tmps) then o.wp P a w K Q∨(o.asks P a w/\LetsOut Q) else K (a.put o.dst undef) w)
theorem region_invQ (hm:P.follows .mixedOrders=true)(hcov:backs ops=true){id:Nat}{a0:Act}{w0:World}{Q:Exit->Act->World->Prop}(Inv:Array Bool->Act->World->Prop)
  (h0:Inv (Array.replicate ops.size false) a0 w0.drew) (hstep:∀i o,ops[i]? = some o->StepQ P ops Q Inv i o)
  (hend:∀listed a w,listed.size=ops.size->(∀i,i<ops.size->listed.getD i true=true)->Inv listed a w->Q .normal a w) :
  (Code.region id ops true).wp P Q a0 w0:=by
 refine wp_region_any hm ?_
 have key:∀(fuel:Nat) (listed:Array Bool) (a:Act) (w:World),listed.size=ops.size->left listed<=fuel->Inv listed a w->wpAny P .any ops Q fuel listed a w:=by
  intro fuel
  have hdone:∀(listed:Array Bool) (a:Act) (w:World),listed.size=ops.size->Inv listed a w->Region.ready .any ops listed=[]->Q .normal a w:=by
   intro listed a w hs hJ hr
   refine hend listed a w hs ?_ hJ
   intro i
   induction i using Nat.strongRecOn with
   | _ i ih =>
    intro hi
    cases hl:listed.getD i true with
    | true=>rfl
    | false =>
     exfalso
     have:i∈Region.ready .any ops listed:=by
      unfold Region.ready
      simp only[List.mem_filter,List.mem_range,Bool.and_eq_true,Bool.not_eq_true']
      refine⟨hi,hl,?_⟩
      have ho:ops[i]? = some ops[i]:=Array.getElem?_eq_getElem hi
      simp only[ho,Option.map_some,Option.getD_some]
      rw[Array.all_eq_true_iff_forall_mem]
      intro e he
      have hc:=backs_spec hcov ho e (Array.mem_toList_iff.2 he)
      cases hb:Region.binds .any e with
      | false=>simp
      | true =>
       have hlt:=hc hb
       have h1:=ih e.on hlt (by omega)
       have h2:e.on<listed.size:=by omega
       simp only[Array.getD,h2,dif_pos] at h1 ⊢
       simpa using h1
     rw[hr] at this
     cases this
  induction fuel with
  | zero =>
   intro listed a w hs hf hJ
   have hr:Region.ready .any ops listed=[]:=by
    rcases hr:Region.ready .any ops listed with _|⟨i,r⟩
    ·rfl
    ·exfalso
     obtain⟨o,ho,hl,_⟩:=ready_mem (ops:=ops) (listed:=listed) (i:=i) (by rw[hr];simp)
     have hi:i<listed.size:=by rw[hs];exact(zH.1 ho).1
     have hmem:listed[i]∈listed.toList.filter (! ·):=by
      rw[List.mem_filter]
      refine⟨by simp,?_⟩
      have hl':listed[i]=false:=by simpa[Array.getD,hi] using hl
      simp[hl']
     have:0<left listed:=List.length_pos_of_mem hmem
     omega
   exact⟨hr,hdone listed a w hs hJ hr⟩
  | succ fuel ih =>
   intro listed a w hs hf hJ
   refine⟨hdone listed a w hs hJ,fun i hi => ?_⟩
   obtain⟨o,ho,hl,hedges⟩:=ready_mem hi
   have hisz:i<listed.size:=by rw[hs];exact(zH.1 ho).1
   have hnext:∀a' w',Inv (listed.setIfInBounds i true) a' w'->wpAny P .any ops Q fuel (listed.setIfInBounds i true) a' w':=by
    intro a' w' hv
    refine ih _ _ _ (by simpa using hs) ?_ hv
    have hl':listed[i]=false:=by simpa[Array.getD,hisz] using hl
    have:left (listed.setIfInBounds i true)<left listed:=by
     unfold left
     rw[Array.toList_setIfInBounds]
     have e1:listed.toList=listed.toList.take i++false::listed.toList.drop (i+1):=by
      have h3:listed.toList[i]'(by simpa using hisz)=false:=by simpa using hl'
      conv=>lhs;rw[<-List.take_append_drop i listed.toList,List.drop_eq_getElem_cons (by simpa using hisz),h3]
     rw[List.set_eq_take_append_cons_drop,if_pos (by simpa using hisz)]
     conv=>rhs;rw[e1]
     simp
    omega
   have:=hstep i o ho listed a w (fun a' w'=>wpAny P .any ops Q fuel (listed.setIfInBounds i true) a' w') hs hl hedges hJ hnext
   unfold wpOp
   simp only[ho]
   exact this
 refine key ops.size _ a0 _ (by simp) ?_ h0
 unfold left
 simp
def Rest (P:Program)(ops:Array Oper)(Q:Exit->Act->World->Prop)(i:Nat)(a:Act)(w:World):Prop:=wpList P ops Q (ops.toList.drop i) a w
theorem region_tail (hm:P.follows .mixedOrders=true)(hcov:backs ops=true){id:Nat}{a0:Act}{w0:World}{Q:Exit->Act->World->Prop}(n:Nat)(hn:a0.tmps.size=n)(hdst:dstsIn ops n=true)(m:Nat)(hmt:m<=ops.size)(ht:tailOk ops m=true)(hgd:((ops.toList.drop m).all fun o=>o.guard.isNone)=true)(D:List Nat)(hD:dstsAre (ops.extract 0 m) D=true)
  (FS:Tmp->Value->World->Prop) (hstab:∀t v w w',FS t v w->Grow w w'->FS t v w') (hah:(ops.toList.take m).all (fun o=>(o.looksAt ops).all (ahead ops o))=true)
  (hstart:∀t,(∀o∈ops.toList.take m,o.dst≠some t)->FS t (a0.eval (.tmp t)) w0) (hok:AllOk P ops FS w0 (ops.toList.take m))
  (hend:∀a w,a.tmps.size=n->a.defers=a0.defers->Grow w0 w->(∀t,FS t (a.eval (.tmp t)) w)->(∀t,D.contains t=false->a.eval (.tmp t)=a0.eval (.tmp t))->Rest P ops Q m a w) :
  (Code.region id ops true).wp P Q a0 w0:=by
 have hdst':∀o∈ops.toList,∀d,o.dst=some d->d<n:=by
  intro o ho d hd
  unfold dstsIn at hdst
  rw[qG] at hdst
  have:=hdst o ho
  simpa[hd] using this
 have hD':∀(i:Nat) (o:Oper),i<m->ops[i]? = some o->∀d,o.dst=some d->D.contains d=true:=by
  intro i o him ho d hd
  unfold dstsAre at hD
  rw[qG] at hD
  have hmem:o∈(ops.extract 0 m).toList:=by
   simp only[Array.toList_extract,List.extract_eq_take_drop,List.drop_zero,Nat.sub_zero]
   have:(ops.toList.take m)[i]? = some o:=by
    rw[List.getElem?_take,if_pos him]
    simpa using ho
   exact List.mem_of_getElem? this
  have:=hD o hmem
  simpa[hd] using this
 let J1:Array Bool->Act->World->Prop:=fun listed a w=>a.tmps.size=n/\a.defers=a0.defers/\Grow w0 w/\(∀t,(∀(j:Nat) (p:Oper),j<m->ops[j]? = some p->p.dst=some t->listed.getD j true=true)->FS t (a.eval (.tmp t)) w)/\(∀t,D.contains t=false->a.eval (.tmp t)=a0.eval (.tmp t))
 let Inv:Array Bool->Act->World->Prop:=fun listed a w=>((∀j,m<=j->j<ops.size->listed.getD j true=false)/\J1 listed a w)∨∃i,m<i/\i<=ops.size/\(∀j,j<i->listed.getD j true=true)/\(∀j,i<=j->j<ops.size->listed.getD j true=false)/\Rest P ops Q i a w
 have hrest:∀listed a w,(∀j,j<m->listed.getD j true=true)->J1 listed a w->Rest P ops Q m a w:=by
  rintro listed a w hall ⟨h1,h2,h3,h4,h5⟩
  exact hend a w h1 h2 h3 (fun t=>h4 t fun j p hj _ _=>hall j hj) h5
 refine region_invQ hm hcov Inv ?_ ?_ ?_
 ·left
  refine⟨fun j _ hj=>by simp[Array.getD,hj],hn,rfl,Grow.drew w0,?_,fun _ _=>rfl⟩
  intro t ht
  refine hstab t _ w0 _ (hstart t ?_) (Grow.drew w0)
  intro o ho hd
  obtain⟨i,hi,rfl⟩:=List.getElem_of_mem ho
  have hi':i<m/\i<ops.size:=by simp at hi;omega
  have:=ht i ops[i] hi'.1 (Array.getElem?_eq_getElem hi'.2) (by simpa using hd)
  simp[Array.getD,hi'.2] at this
 ·intro i o ho listed a w K hs hl hedges hInv hK
  have hisz0:i<ops.size:=(zH.1 ho).1
  have hisz:i<listed.size:=by omega
  have hom:o∈ops.toList:=List.mem_of_getElem? (by simpa using ho)
  have hff:∀j,j<ops.size->(listed.getD j true=true↔listed.getD j false=true):=by
   intro j hj
   have:j<listed.size:=by omega
   simp[Array.getD,this]
  have hset:∀j,j<ops.size->j≠i->(listed.setIfInBounds i true).getD j true=listed.getD j true:=by
   intro j _ hji
   simp[zT,Ne.symm hji]
  have hseti:(listed.setIfInBounds i true).getD i true=true:=by
   simp[zT,hisz]
  by_cases him:i<m
  ·rcases hInv with⟨hno,h1,h2,h3,h4,h5⟩|⟨q,hq,_,hall,_⟩
   ·have hlook:∀t,(o.looksAt ops).contains t=true->FS t (a.eval (.tmp t)) w:=by
     intro t htl
     refine h4 t ?_
     intro j p hj hp hd
     have hmem:o∈ops.toList.take m:=by
      have:(ops.toList.take m)[i]? = some o:=by
       rw[List.getElem?_take,if_pos him]
       simpa using ho
      exact List.mem_of_getElem? this
     rw[qG] at hah
     have h6:=hah o hmem
     rw[qG] at h6
     obtain⟨e,he,hb,rfl⟩:=ahead_spec (h6 t (by simpa using htl)) hp hd
     rw[hff _ (zH.1 hp).1]
     exact hedges e he hb
    have hmem:o∈ops.toList.take m:=by
     have:(ops.toList.take m)[i]? = some o:=by
      rw[List.getElem?_take,if_pos him]
      simpa using ho
     exact List.mem_of_getElem? this
    refine AllOk.get hok o hmem a w K Q h3 hlook ?_
    intro v w' hg hv
    refine hK _ w' (.inl ⟨?_,?_,?_,h3.trans hg,?_,?_⟩)
    ·intro j hmj hj
     rw[hset j hj (by omega)]
     exact hno j hmj hj
    ·cases hd:o.dst with
     | none=>simpa[Act.put] using h1
     | some d=>simpa[Act.put] using h1
    ·cases hd:o.dst with
     | none=>simpa[Act.put] using h2
     | some d=>simpa[Act.put] using h2
    ·intro t htk
     by_cases hdt:o.dst=some t
     ·rw[hdt] at hv ⊢
      rw[eval_put_same (by rw[h1];exact hdst' o hom t hdt)]
      exact hv
     ·have:=hstab t _ w w' (h4 t fun j p hj hp hd=>by
       have h7:=htk j p hj hp hd
       have hji:j≠i:=by
        intro e
        subst e
        rw[ho] at hp
        injection hp with hp
        subst hp
        exact hdt hd
       rw[hset j (zH.1 hp).1 hji] at h7
       exact h7) hg
      cases hd:o.dst with
      | none=>simpa[Act.put] using this
      | some d =>
       rw[eval_put_other (by intro e;subst e;exact hdt hd)]
       exact this
    ·intro t htD
     cases hd:o.dst with
     | none=>simpa[Act.put] using h5 t htD
     | some d =>
      rw[eval_put_other (by intro e;subst e;rw[hD' i o him ho t hd] at htD;cases htD)]
      exact h5 t htD
   ·exfalso
    rw[hall i (by omega)] at hl
    cases hl
  ·have hm':m<=i:=by omega
   have hbefore:∀j,j<i->listed.getD j true=true:=by
    intro j hj
    rw[hff j (by omega)]
    exact listed_of_edge (tail_edge ht hisz0 hm' hj) ho hedges
   have hR:Rest P ops Q i a w/\(∀j,i<=j->j<ops.size->listed.getD j true=false):=by
    rcases hInv with⟨hno,hJ⟩|⟨q,hq,hqs,hall,hnone,hR⟩
    ·have:i=m:=by
      rcases Nat.lt_or_ge m i with h|h
      ·have h8:=hbefore m h
       rw[hno m (zG _) (by omega)] at h8
       cases h8
      ·omega
     subst this
     exact⟨hrest listed a w hbefore hJ,hno⟩
    ·have:i=q:=by
      rcases Nat.lt_trichotomy i q with h|h|h
      ·rw[hall i h] at hl;cases hl
      ·exact h
      ·have h8:=hbefore q h
       rw[hnone q (zG _) (by omega)] at h8
       cases h8
     subst this
     exact⟨hR,hnone⟩
   obtain⟨hR,hnone⟩:=hR
   have hdrop:ops.toList.drop i=o::ops.toList.drop (i+1):=by
    have hi2:i<ops.toList.length:=by simpa using hisz0
    rw[List.drop_eq_getElem_cons hi2]
    congr 1
    have:ops.toList[i]? = some o:=by simpa using ho
    rw[zI hi2] at this
    injection this
   unfold Rest at hR
   rw[hdrop] at hR
   have hgn:o.guard=none:=by
    rw[qG] at hgd
    have hmem:o∈ops.toList.drop m:=by
     have:(ops.toList.drop m)[i - m]? = some o:=by
      rw[List.getElem?_drop,show m+(i - m)=i from by omega]
      simpa using ho
     exact List.mem_of_getElem? this
    have:=hgd o hmem
    cases hg:o.guard with
    | none=>rfl
    | some x=>rw[hg] at this;cases this
   have hw:Region.wanted o (yielded ops a.tmps)=true:=by simp[Region.wanted,hgn]
   simp only[wpList,hw,if_true] at hR
   rw[if_pos hw]
   refine Or.imp ?_ (fun x=>x) hR
   refine Oper.wp_mono ?_
   intro a' w' h9
   refine hK a' w' (.inr ⟨i+1,by omega,by omega,?_,?_,h9⟩)
   ·intro j hj
    by_cases e:j=i
    ·subst e
     exact hseti
    ·rw[hset j (by omega) e]
     exact hbefore j (by omega)
   ·intro j hj hjs
    rw[hset j hjs (by omega)]
    exact hnone j (by omega) hjs
 ·rintro listed a w hs hall (⟨hno,hJ⟩|⟨q,hq,hqs,hallq,hnone,hR⟩)
  ·have hR:=hrest listed a w (fun j hj=>hall j (by omega)) hJ
   rcases Nat.lt_or_ge m ops.size with h|h
   ·have:=hall m h
    rw[hno m (zG _) h] at this
    cases this
   ·unfold Rest at hR
    rw[List.drop_of_length_le (by simpa using h)] at hR
    exact hR
  ·rcases Nat.lt_or_ge q ops.size with h|h
   ·have:=hall q h
    rw[hnone q (zG _) h] at this
    cases this
   ·unfold Rest at hR
    rw[List.drop_of_length_le (by simpa using h)] at hR
    exact hR
theorem region_tail_facts (hm:P.follows .mixedOrders=true)(hcov:backs ops=true){id:Nat}{a0:Act}{w0:World}{Q:Exit->Act->World->Prop}(n:Nat)(hn:a0.tmps.size=n)(hdst:dstsIn ops n=true)(m:Nat)(hmt:m<=ops.size)(ht:tailOk ops m=true)(hgd:((ops.toList.drop m).all fun o=>o.guard.isNone)=true)(D:List Nat)(hD:dstsAre (ops.extract 0 m) D=true)
  (V W:List (Nat×Fact)) (hV:StartOk a0 w0 V) (hW:(W.all fun p=>written (ops.extract 0 m) p.1)=true) (hah:(ops.toList.take m).all (fun o=>(o.looksAt ops).all (ahead ops o))=true) (hok:AllOk P ops (FSof (V++W)) w0 (ops.toList.take m))
  (hend:∀a w,a.tmps.size=n->a.defers=a0.defers->Grow w0 w->(∀t,FSof (V++W) t (a.eval (.tmp t)) w)->(∀t,D.contains t=false->a.eval (.tmp t)=a0.eval (.tmp t))->Rest P ops Q m a w) :
  (Code.region id ops true).wp P Q a0 w0:=by
 refine region_tail hm hcov n hn hdst m hmt ht hgd D hD (FSof (V++W)) (FSof.stable _) hah ?_ hok hend
 intro t h
 refine start_fact (ops:=ops.extract 0 m) V W hV hW t ?_
 intro o ho
 refine h o ?_
 simpa[Array.toList_extract,List.extract_eq_take_drop] using ho
end Reg
end Go.Proofs.YtnlimngkagmjpaaGreat
