/- Texts that the proof of PagerNone leans on, part 7. -/
import Derived.BigQuiet
import Derived.Maps.RangeRun
import Derived.Lib.SliceRun
import Derived.Test.YtnlimngkagmjpaaGreatPagerNoneB6
open List renaming length_append → zY, length_map → qD, getElem_toArray → zD, getElem_cons_zero → zB, setIfInBounds_toArray → zA, set_cons_zero → zF, set_cons_succ → zE, getElem_cons_succ → zC, map_toArray → zJ, map_cons → zK, map_nil → zL, getElem?_eq_getElem → zI, replicate → zR, take_of_length_le → qA, getElem_mem → qJ, take_succ_eq_append_getElem → qC
open Nat renaming le_refl → zG, lt_of_lt_of_le → zO, le_trans → zP, zero_add → qK
open Array renaming getElem?_eq_some_iff → zH
set_option linter.unusedVariables false
set_option maxRecDepth 100000
set_option maxHeartbeats 8000000

namespace Go.Proofs.YtnlimngkagmjpaaGreat
open Go Go.RowKit Lou
def newF (ep:Nat)(z:Int)(fs:List FrP)(x:Int×List UInt8)(last:Bool):FrP:=⟨ep,(fs.length:Int),x.1,last,if last then z else 0,linkOf fs,x.2⟩
def addK (ep:Nat)(z:Int)(fs:List FrP)(n:Nat)(pw:Nat->Int×List UInt8):Nat->List FrP
 | 0=>fs
 | k+1=>addK ep z fs n pw k++[newF ep z (addK ep z fs n pw k) (pw k) (decide (k+1=n))]
theorem addK_length (ep:Nat)(z:Int)(fs:List FrP)(n:Nat)(pw:Nat->Int×List UInt8):∀k,(addK ep z fs n pw k).length=fs.length+k
 | 0=>rfl
 | k+1=>by
  unfold addK
  rw[zY,addK_length ep z fs n pw k]
  rfl
theorem addK_all (ep:Nat)(z:Int)(fs:List FrP)(n:Nat)(pw:Nat->Int×List UInt8)(T:Nat->FrP->Prop)(h0:∀k,k<n->T (fs.length+k) (newF ep z (addK ep z fs n pw k) (pw k) (decide (k+1=n)))) :
  ∀k,k<=n->∀j (h:j<(addK ep z fs n pw k).length),fs.length<=j->T j (addK ep z fs n pw k)[j]
 | 0,_,j,h,hj=>absurd h (by show ¬ j<fs.length;omega)
 | k+1,hk,j,h,hj=>by
  have hlen:=addK_length ep z fs n pw k
  by_cases hlt:j<(addK ep z fs n pw k).length
  ·have:=addK_all ep z fs n pw T h0 k (by omega) j hlt hj
   have e:(addK ep z fs n pw (k+1))[j]=(addK ep z fs n pw k)[j]:=List.getElem_append_left hlt
   rw[e]
   exact this
  ·have h':j<(addK ep z fs n pw (k+1)).length:=h
   rw[addK_length] at h'
   have hj2:j=fs.length+k:=by omega
   subst hj2
   have e:(addK ep z fs n pw (k+1))[fs.length+k]=newF ep z (addK ep z fs n pw k) (pw k) (decide (k+1=n)):=by
    have h2:(addK ep z fs n pw (k+1))[fs.length+k]? = some (newF ep z (addK ep z fs n pw k) (pw k) (decide (k+1=n))):=by
     show (addK ep z fs n pw k++[newF ep z (addK ep z fs n pw k) (pw k) (decide (k+1=n))])[fs.length+k]? = _
     rw[List.getElem?_append_right (by omega)]
     simp[hlen]
    exact(List.getElem?_eq_some_iff.1 h2).2
   rw[e]
   exact h0 k (by omega)
structure LgS where
 sr:Nat
 ep:Nat
 sz:Int
 fs:List FrP
def LogIs (w:World)(l d:Nat)(fr pg:Int)(S:LgS):Prop:=l≠d/\∃A c vs,BlkIs w l 104 (lgC (some ⟨d,0,none⟩) fr pg S.sr S.ep S.sz A vs.length c)/\FrsIs (fun k=>k=d∨k=l) w A c vs/\vs.map (·.1)=S.fs
def AppOut (fr pg:Int)(s:DS)(S:LgS)(n:Nat)(xs:Nat->Int×Option Addr×Nat)(pw:Nat->Int×List UInt8)(z:Int)(x:Int)(s':DS)(S':LgS):Prop :=
 (¬ RightC fr pg z n xs/\x=2/\s'=s/\S'=S)∨(RightC fr pg z n xs/\fr<(S.fs.length:Int)+(n:Int)/\x=160/\s'=s/\S'=S) ∨
 (RightC fr pg z n xs/\(S.fs.length:Int)+(n:Int)<=fr/\∃fs' r,fs'=addK S.ep z S.fs n pw n/\r=appD s (frsW (fs'.drop S.fs.length)) (wrL ((S.sr+1) % 2) (hEnc (S.sr+1) S.ep S.sz (fs'.length:Int)) 1)/\x=r.2/\s'=r.1/\((x=0/\S'=⟨S.sr+1,S.ep,z,fs'⟩)∨(¬ x=0/\S'=S)))
def TyB (w:World)(A:Option Addr):Prop:=∀g o,A=some ⟨g,o,none⟩->∃cs,BlkIs w g 5 cs
theorem TyB.grow {w w':World}{A:Option Addr}(h:TyB w A)(hB:Below w.heap.size w w'):TyB w' A:=fun g o e=>by
 obtain⟨cs,hb⟩:=h g o e
 exact⟨cs,hb.below hB hb.lt⟩
theorem TyB.grown {w w':World}{A:Option Addr}{row:Option Nat}(h:TyB w A)(hB:w.grownBy w' row)(hn:∀g o,A=some ⟨g,o,none⟩->row≠some g):TyB w' A:=fun g o e=>by
 obtain⟨cs,hb⟩:=h g o e
 exact⟨cs,hb.grown hB (fun e2=>hn g o e e2.symm)⟩
theorem TyB.row {w:World}{A:Option Addr}(h:TyB w A)(q:Nat)(F:Array Value)(hn:∀g o,A=some ⟨g,o,none⟩->g≠q):TyB (w.setRow q F) A:=h.grown (setRow_grown w q F) (fun g o e e2=>by injection e2 with e2;exact hn g o e e2.symm)
theorem BlkIs.ne_type {w:World}{g h:Nat}{t u:TypeId}{cs ds:Array Value}(h1:BlkIs w g t cs)(h2:BlkIs w h u ds)(hn:t≠u):g≠h:=fun e=>by
 subst e
 have h3:w.heap[g]? = some (.cells cs t (0,0)):=h1
 have h4:w.heap[g]? = some (.cells ds u (0,0)):=h2
 rw[h3] at h4
 injection h4 with h4
 injection h4 with _ h5
 exact hn h5
theorem ownG_ty {w:World}{base:Nat}{T:TypeId}{sz:Nat}{v:Value}{n:Nat}{cs:List Value}(h:w.ownsRow base T sz v n cs):∀r,v.ownBlock=some r->∃cur,BlkIs w r T cur:=by
 intro r hr
 rcases h.2 with⟨rfl,_⟩|⟨g,cap,cur,rfl,hb,hg,_⟩
 ·cases hr
 ·injection hr with hr
  exact⟨cur,by rw[<-hr];exact hg⟩
theorem keepB {Mu:Nat->Prop}{w w':World}{A:Option Addr}{c:Nat}{y:List UInt8}(G:GrowBut Mu w w')(hin:InB w w.heap.size A c y)(hty:TyB w A)(hMu:∀g cs,BlkIs w g 5 cs->¬ Mu g):InB w' w'.heap.size A c y/\TyB w' A :=
 ⟨G.inB hin (fun g o e _=>by obtain⟨cs,hb⟩:=hty g o e;exact hMu g cs hb),fun g o e=>by
  obtain⟨cs,hb⟩:=hty g o e
  exact⟨cs,G.blk hb (hMu g cs hb)⟩⟩
theorem headOk_of {z c:Int}(h1:0<=z)(h2:z<=2000)(h3:0<=c)(h4:c<=2000):headOk z c=true:=(headOk_iff _ _).2 ⟨⟨h1,h2⟩,h3,h4⟩
theorem r_eqI {ρ:Operand->Value}{w:World}{o:Oper}{x y:Operand}{m n:Int}{b:Bool}(ho:o.op = .binOp .eql 3 x y 3)(h1:ρ x = .int .i64 m)(h2:ρ y = .int .i64 n)(hb:decide (m=n)=b):(execOp ρ o).run Tryz.prog w = .ok (.value (.bool b)) w:=by
 subst hb
 have e:(m == n)=decide (m=n):=by by_cases h:m=n<;>simp[h]
 simp[execOp,ho,h1,h2,go_sem,e]
theorem append_wrong (w:World)(l d:Nat)(fr pg:Int)(sr ep:Nat)(sz:Int)(A:Option Addr)(n0 c0:Nat)(hlg:BlkIs w l 104 (lgC (some ⟨d,0,none⟩) fr pg sr ep sz A n0 c0))(A1:Option Addr)(n c:Nat)(xs:Nat->Int×Option Addr×Nat)(hn:n<=1000)(hA:1<=n->∃g o,A1=some ⟨g,o,none⟩/\PwIn w g o n xs/\g<w.heap.size)
  (s:Int) (hR:¬ RightC fr pg s n xs) :
  Calls Tryz.prog 116 #[.pointer (some ⟨l,0,none⟩),.int .i64 s,.slice A1 n c] w fun e w'=>e = .returned (.int .i64 2)/\Below w.heap.size w w':=by
 have hB:Below w.heap.size w ((w.alloc (.cells #[.pointer (some ⟨l,0,none⟩)] 71)).alloc (.cells #[.int .i64 s] 3)):=((Below.refl _ w).alloc (zG _) _).alloc (by simp) _
 have hlg0:=hlg.below hB hlg.lt
 have HN:=lnone_gives hlg0
 have HRR:=lrightG_gives _ l _ fr pg sr ep sz A n0 c0 hlg0 A1 n c xs hn (fun h=>by
  obtain⟨g,o,e,hx,hg⟩:=hA h
  exact⟨g,o,e,hx.below hB hg,by simp;omega⟩) s
 have HR:=HRR.mono (R':=fun e w'=>e = .returned (.bool false)/\Below ((w.alloc (.cells #[.pointer (some ⟨l,0,none⟩)] 71)).alloc (.cells #[.int .i64 s] 3)).heap.size ((w.alloc (.cells #[.pointer (some ⟨l,0,none⟩)] 71)).alloc (.cells #[.int .i64 s] 3)) w') (fun e w' ⟨⟨b,hb,hi⟩,hB2⟩=>by
  cases b
  ·exact⟨hb,hB2⟩
  ·exact absurd (hi.1 rfl) hR)
 clear HRR hR hA
 go_enter Tryz.func116,Tryz.ntmps116
 go_wp2_with (first
  | (go_at_call 106;refine HN.mono ?_;rintro e w' ⟨rfl,rfl⟩)
  | (go_at_call 157;refine HR.mono ?_;rintro e w2 ⟨rfl,hB2⟩))
 go_ret
 exact⟨rfl,hB.trans (hB2.mono hB.size)⟩
section
variable (w:World)(l d many:Nat)(s:DS)(fr pg:Int)(S:LgS)
theorem append_more (A0:Option Addr)(c0:Nat)(vs:List FrV)(hD:DkS w d many s)(hO:s.Ok)(hl:s.xs.length<=500000)(hlg:BlkIs w l 104 (lgC (some ⟨d,0,none⟩) fr pg S.sr S.ep S.sz A0 vs.length c0))(hF:FrsIs (fun k=>k=d∨k=l) w A0 c0 vs)(hfs:vs.map (·.1)=S.fs)(hld:l≠d)
  (g o n c:Nat) (xs:Nat->Int×Option Addr×Nat) (pw:Nat->Int×List UInt8) (hn1:1<=n) (hn:n<=1000) (hg:g<w.heap.size) (hx:PwIn w g o n xs) (hY:∀k,k<n->(pw k).1=(xs k).1/\(pw k).2.length=512/\InB w w.heap.size (xs k).2.1 (xs k).2.2 (pw k).2)
  (hpl:planOk fr pg=true) (z:Int) (hR:RightC fr pg z n xs) (hroom:(S.fs.length:Int)+(n:Int)<=fr) (hz:0<=S.sz/\S.sz<=2000) (hmany:2+9*fr<=(many:Int)) (hmax:many<=1000000) (hsr:S.sr+1<18446744073709551616) :
  Calls Tryz.prog 116 #[.pointer (some ⟨l,0,none⟩),.int .i64 z,.slice (some ⟨g,o,none⟩) n c] w fun e w'=>∃x s' S',e = .returned (.int .i64 x)/\AppOut fr pg s S n xs pw z x s' S'/\DkS w' d many s'/\LogIs w' l d fr pg S'/\GrowBut (fun k=>k=d∨k=l) w w':=by
 have hplr:=(planOk_iff fr pg).1 hpl
 obtain⟨hr1,hr2,hr3,hr4⟩:=id hR
 have hR0:=hR
 clear hR
 obtain⟨n0,hn0⟩:∃n0,n0=vs.length:=⟨_,rfl⟩
 have hn0s:n0=S.fs.length:=by rw[hn0,<-hfs,qD]
 have hcle:=hF.row.le
 have hp1:∀k,k<n->0<=(xs k).1/\(xs k).1<pg:=fun k hk=>by
  have:=hr4 k hk
  rw[hpl] at this
  simp[plE] at this
  exact this
 have hgood:∀k,k<=n->∀j (h:j<(addK S.ep z S.fs n pw k).length),S.fs.length<=j->(addK S.ep z S.fs n pw k)[j].i=(j:Int)/\frOk (addK S.ep z S.fs n pw k)[j].y.length (addK S.ep z S.fs n pw k)[j].i (addK S.ep z S.fs n pw k)[j].p (addK S.ep z S.fs n pw k)[j].f (addK S.ep z S.fs n pw k)[j].z=true :=
  addK_all S.ep z S.fs n pw (fun j x=>x.i=(j:Int)/\frOk x.y.length x.i x.p x.f x.z=true) (fun k hk=>by
   obtain⟨hy1,hy2,_⟩:=hY k hk
   have hp:=hp1 k hk
   refine⟨by simp only[newF,addK_length],(frOk_iff _ _ _ _ _).2 ?_⟩
   simp only[newF,addK_length,hy1]
   refine⟨hy2,⟨by omega,by omega⟩,⟨by omega,by omega⟩,?_,?_⟩
   ·split<;>constructor<;>omega
   ·by_cases hkn:k+1=n
    ·exact .inl (by simp[hkn])
    ·exact .inr (by simp[hkn]))
 have hB:Below w.heap.size w ((w.alloc (.cells #[.pointer (some ⟨l,0,none⟩)] 71)).alloc (.cells #[.int .i64 z] 3)):=((Below.refl _ w).alloc (zG _) _).alloc (by simp) _
 have b0:=(BlkIs.new w 71 #[.pointer (some ⟨l,0,none⟩)]).alloc (.cells #[.int .i64 z] 3)
 have b1:=BlkIs.new (w.alloc (.cells #[.pointer (some ⟨l,0,none⟩)] 71)) 3 #[.int .i64 z]
 rw[World.size_alloc] at b1
 rw[<-hn0] at hlg
 have hlg0:=hlg.below hB hlg.lt
 have HN:=lnone_gives hlg0
 have HR:=lright_ok _ l _ fr pg S.sr S.ep S.sz A0 n0 c0 hlg0 g o n c xs hn1 hn (hx.below hB hg) (by simp;omega) hr4 z hr2 hr3
 have hfr:¬ fr<(n0:Int)+(n:Int):=by omega
 have hw11:IntKind.i64.wrap ((n0:Int)+(n:Int))=(n0:Int)+(n:Int):=wrap_i64_fr _ (by omega) (by omega)
 have hDw:=hD.lt
 have hlw:=hlg.lt
 have HFS:=Lib.hid hfs
 have HN0:=Lib.hid hn0
 have HN0S:=Lib.hid hn0s
 have hnl:n0<=2000:=by omega
 clear hr1 hr4 hfs hn0 hn0s hcle
 go_enter Tryz.func116,Tryz.ntmps116
 go_wp2_with (first
  | (go_at_call 106;refine HN.mono ?_;rintro e w' ⟨rfl,rfl⟩)
  | (go_at_call 157;refine HR.mono ?_;rintro e w2 ⟨rfl,hB2⟩;have hlg2:=hlg0.below hB2 hlg0.lt;have b02:=b0.below hB2 b0.lt;have b12:=b1.below hB2 b1.lt))
 have hBw2:=hB.trans (hB2.mono hB.size)
 have hw2:w.heap.size+2<=w2.heap.size:=by have:=hB2.size;simp at this;omega
 have hS0:Below w2.heap.size w2 w2.drew:=(Below.refl _ _).drew
 have T0:∀W,Below w2.heap.size w2 W->W.cell? ⟨w.heap.size,0,none⟩=some (.pointer (some ⟨l,0,none⟩)):=fun W hW=>(b02.below hW b02.lt).boxed
 have T6:∀W,Below w2.heap.size w2 W->W.cell? ⟨l,6,none⟩=some (.slice A0 n0 c0):=fun W hW=>by rw[(hlg2.below hW hlg2.lt).cell];rfl
 have T1:∀W,Below w2.heap.size w2 W->W.cell? ⟨l,1,none⟩=some (.int .i64 fr):=fun W hW=>by rw[(hlg2.below hW hlg2.lt).cell];rfl
 clear HN HR hlg0 b0 b1 hB hB2
 refine RegF.start (fun W=>Below w2.heap.size w2 W) 99 (by kernel_rfl) ?_
 refine RegF.t0 0 (.pointer (some ⟨l,0,none⟩)) rfl hS0 (fun W hW=>by have q:=T0 W hW;go_simp) ?_
 simp only[zD,zB,Act.put,zA,zF,zE]
 refine RegF.t0 1 (.pointer (some ⟨l,0,none⟩)) rfl hS0 (fun W hW=>by go_simp) ?_
 simp only[zD,zC,zB,Act.put,zA,zF,zE]
 refine RegF.t0 2 (.pointer (some ⟨l,6,none⟩)) rfl hS0 (fun W hW=>by go_simp) ?_
 simp only[zD,zC,zB,Act.put,zA,zF,zE]
 refine RegF.t0 3 (.slice A0 n0 c0) rfl hS0 (fun W hW=>by have q:=T6 W hW;go_simp) ?_
 simp only[zD,zC,zB,Act.put,zA,zF,zE]
 refine RegF.t0 4 (.int .i64 (n0:Int)) rfl hS0 (fun W hW=>by go_simp) ?_
 simp only[zD,zC,zB,Act.put,zA,zF,zE]
 refine RegF.t0 5 (.slice (some ⟨g,o,none⟩) n c) rfl hS0 (fun W hW=>by go_simp) ?_
 simp only[zD,zC,zB,Act.put,zA,zF,zE]
 refine RegF.t0 6 (.int .i64 (n:Int)) rfl hS0 (fun W hW=>by go_simp) ?_
 simp only[zD,zC,zB,Act.put,zA,zF,zE]
 refine RegF.t0 7 (.int .i64 ((n0:Int)+(n:Int))) rfl hS0 (fun W hW=>by go_simp) ?_
 simp only[zD,zC,zB,Act.put,zA,zF,zE]
 refine RegF.t0 8 (.pointer (some ⟨l,0,none⟩)) rfl hS0 (fun W hW=>by have q:=T0 W hW;go_simp) ?_
 simp only[zD,zC,zB,Act.put,zA,zF,zE]
 refine RegF.t0 9 (.pointer (some ⟨l,0,none⟩)) rfl hS0 (fun W hW=>by go_simp) ?_
 simp only[zD,zC,zB,Act.put,zA,zF,zE]
 refine RegF.t0 10 (.pointer (some ⟨l,0,none⟩)) rfl hS0 (fun W hW=>by go_simp) ?_
 simp only[zD,zC,zB,Act.put,zA,zF,zE]
 refine RegF.t0 11 (.pointer (some ⟨l,1,none⟩)) rfl hS0 (fun W hW=>by go_simp) ?_
 simp only[zD,zC,zB,Act.put,zA,zF,zE]
 refine RegF.t0 12 (.pointer (some ⟨l,1,none⟩)) rfl hS0 (fun W hW=>by go_simp) ?_
 simp only[zD,zC,zB,Act.put,zA,zF,zE]
 refine RegF.t0 13 (.int .i64 fr) rfl hS0 (fun W hW=>by have q:=T1 W hW;go_simp) ?_
 simp only[zD,zC,zB,Act.put,zA,zF,zE]
 refine RegF.one 14 (by kernel_rfl) (RegF.opV (w':=w2.drew) (.bool false) rfl rfl (by go_simp) ⟨fun _=>hS0,?_⟩)
 simp only[zD,zC,zB,Act.put,zA,zF,zE]
 refine RegF.one 15 (by kernel_rfl) (RegF.opV (w':=w2.drew) (.bool false) rfl rfl (by go_simp) ⟨fun _=>hS0,RegF.done (by kernel_rfl) ?_⟩)
 simp only[zD,zC,zB,Act.put,zA,zF,zE]
 have t0:=T0 _ hS0
 have t6:=T6 _ hS0
 have hlg3:=hlg2.drew
 have b03:=b02.drew
 have b13:=b12.drew
 have hBw3:Below w.heap.size w w2.drew:=hBw2.drew
 have hw3:w.heap.size+2<=w2.drew.heap.size:=hw2
 clear T0 T6 T1 hlg2 b02 b12 hBw2 hw2 hS0
 generalize w2.drew=W3 at *
 have hF3:=hF.grow hBw3
 have HCF:=fclone_gives W3 A0 c0 vs hF3.row (by have:=HN0.out;omega)
 rw[<-HN0.out] at HCF
 go_wp2_with (go_at_call 158;refine HCF.mono ?_;rintro e Wc ⟨v0,rfl,own0,hB3c⟩;obtain⟨Am0,cm0,rfl,_⟩:=ownG_in own0 (vsC_one vs))
 obtain⟨W4,hW4⟩:∃W4,W4=Wc.alloc (.cells #[.slice Am0 n0 cm0] 102):=⟨_,rfl⟩
 have hBc4:Below Wc.heap.size Wc W4:=by rw[hW4];exact(Below.refl _ _).alloc (zG _) _
 have hB4:Below W3.heap.size W3 W4:=hB3c.trans (hBc4.mono hB3c.size)
 have m4:BlkIs W4 Wc.heap.size 102 #[.slice Am0 n0 cm0]:=by rw[hW4];exact BlkIs.new Wc _ _
 have own4:=ownG_grow own0 hBc4
 rw[<-hW4]
 obtain⟨mb,hmb⟩:∃mb,mb=Wc.heap.size:=⟨_,rfl⟩
 rw[<-hmb] at m4 ⊢
 have hmb3:W3.heap.size<=mb:=by rw[hmb];exact hB3c.size
 have hOld:∀v∈vs,∀g o,v.2.1=some ⟨g,o,none⟩->InB W4 W4.heap.size v.2.1 v.2.2 v.1.y->0<v.1.y.length->g<W3.heap.size:=fun v hv g o e _ h0=>by
  obtain⟨g',o',e',hg',_⟩:=((hF3.bys v hv).1).lies h0
  rw[e] at e'
  injection e' with e'
  injection e' with e1 e2
  omega
 clear hW4 hmb HCF own0 hB3c hBc4
 go_loopw [43] (fun i wr=>∃k:Nat,k<=n/\i = .int .i64 (k:Int)/\Below W3.heap.size W3 wr/\∃Am cm vk,BlkIs wr mb 102 #[.slice Am (n0+k) cm]/\wr.ownsRow W3.heap.size 163 7 (.slice Am (n0+k) cm) (n0+k) (vsC vk)/\vk.map (·.1)=addK S.ep z S.fs n pw k /\
  (∀v∈vk,InB wr wr.heap.size v.2.1 v.2.2 v.1.y/\(v∈vs∨((∀g o,v.2.1=some ⟨g,o,none⟩->W3.heap.size<=g)/\TyB wr v.2.1)))) (fun i _=>n - (intOf i).toNat)
 case atStart=>exact⟨0,by omega,rfl,hB4,Am0,cm0,vs,m4,own4,HFS.out,fun v hv=>⟨(hF3.grow hB4).bys v hv |>.1,.inl hv⟩⟩
 case round =>
  clear hB4 m4 own4 hlg
  obtain⟨k,hk,rfl,hB4,Am,cm,vk,m4,own4,hvk,hbk⟩:=hrel
  have hvl:vk.length=n0+k:=by
   have:=congrArg List.length hvk
   rw[qD,addK_length] at this
   have:=HN0S.out
   omega
  by_cases hlt:k<n
  ·have hx4:wr.rangeAt g (o+k*2) [.int .i64 (xs k).1,.slice (xs k).2.1 512 (xs k).2.2]:=(hx.below (hBw3.trans (hB4.mono hBw3.size)) hg) k hlt
   obtain⟨hy1,hy512,hyw⟩:=hY k hlt
   have hy4:=(hyw.below (hBw3.trans (hB4.mono hBw3.size))).more (hBw3.trans (hB4.mono hBw3.size)).size
   obtain⟨_,_,eAm,hin4⟩:=ownG_in own4 (vsC_one vk)
   injection eAm with eA1 _ eA2
   subst eA1 eA2
   have hNx:addK S.ep z S.fs n pw (k+1)=addK S.ep z S.fs n pw k++[newF S.ep z (addK S.ep z S.fs n pw k) (pw k) (decide (k+1=n))]:=rfl
   generalize hxk:xs k=X at hx4 hy4 hy1
   generalize pw k=Y at hy1 hy512 hy4 hNx
   obtain⟨p,Ay,ky⟩:=X
   obtain⟨p',y⟩:=Y
   simp only at hx4 hy4 hy1 hy512
   subst hy1
   clear hxk hyw
   obtain⟨nk,hnk⟩:∃nk,nk=n0+k:=⟨_,rfl⟩
   have hSM:linkOf (addK S.ep z S.fs n pw k)=linkOf (vk.map (·.1)):=by rw[hvk]
   have hsz4:=addK_length S.ep z S.fs n pw k
   have HNX:=Lib.hid hNx
   have HVK:=Lib.hid hvk
   have HVL:=Lib.hid hvl
   have HNK:=Lib.hid hnk
   rw[<-hnk] at m4 own4 hin4 hvl
   obtain⟨SM,hSM2⟩:∃SM,SM=linkOf (vk.map (·.1)):=⟨_,rfl⟩
   have HSM:=Lib.hid (hSM.trans hSM2.symm)
   have b4:=BlkIs.new wr 129 #[.int .i64 0,.slice none 0 0]
   have b5:=b4.setRow #[.int .i64 p',.slice Ay 512 ky]
   have hB5:Below W3.heap.size W3 ((wr.alloc (.cells #[.int .i64 0,.slice none 0 0] 129)).setRow wr.heap.size #[.int .i64 p',.slice Ay 512 ky]):=below_setRow (hB4.alloc hB4.size _) hB4.size _
   have hBr5:Below wr.heap.size wr ((wr.alloc (.cells #[.int .i64 0,.slice none 0 0] 129)).setRow wr.heap.size #[.int .i64 p',.slice Ay 512 ky]):=below_setRow ((Below.refl _ wr).alloc (zG _) _) (zG _) _
   have m5:=m4.below hBr5 m4.lt
   have hy5:=(hy4.below hBr5).more hBr5.size
   have hin5:=hin4.grow hBr5
   have hm4l:=m4.lt
   clear hvk hvl hnk hNx hSM hsz4 hY hx hgood
   go_wp2_with (first
    | (refine wp_exec rfl (x_loadM rowPW hx4 rfl rfl rfl) ?_)
    | (refine wp_storeW rfl 129 (.tmp 9) (.tmp 47) rfl wr.heap.size rfl rfl rowPW b4 rfl rfl (pw_one _ _ _ _) ?_))
   have hw4:=hB4.size
   clear hx4 hy4 b4 m4
   generalize hW5:(wr.alloc (.cells #[.int .i64 0,.slice none 0 0] 129)).setRow wr.heap.size #[.int .i64 p',.slice Ay 512 ky]=W5 at *
   clear hW5
   have T0:∀W,Below W5.heap.size W5 W->W.cell? ⟨w.heap.size,0,none⟩=some (.pointer (some ⟨l,0,none⟩)):=fun W hW=>((b03.below hB5 b03.lt).below hW (zO b03.lt hB5.size)).boxed
   have T4:∀W,Below W5.heap.size W5 W->W.cell? ⟨l,4,none⟩=some (.int .u64 (S.ep:Int)):=fun W hW=>by rw[((hlg3.below hB5 hlg3.lt).below hW (zO hlg3.lt hB5.size)).cell];rfl
   have TM:∀W,Below W5.heap.size W5 W->W.cell? ⟨mb,0,none⟩=some (.slice Am nk cm):=fun W hW=>(m5.below hW m5.lt).boxed
   have TP:∀W,Below W5.heap.size W5 W->W.cell? ⟨wr.heap.size,0,none⟩=some (.int .i64 p'):=fun W hW=>by rw[(b5.below hW b5.lt).cell];rfl
   have TB:∀W,Below W5.heap.size W5 W->W.cell? ⟨wr.heap.size,1,none⟩=some (.slice Ay 512 ky):=fun W hW=>by rw[(b5.below hW b5.lt).cell];rfl
   have HLK:∀W,Below W5.heap.size W5 W->Calls Tryz.prog 104 #[.slice Am nk cm] W fun e w'=>e = .returned (.int .u32 (SM:Int))/\Below W.heap.size W w':=fun W hW=>by
    have h:=link_gives W Am cm vk (by rw[HVL.out,<-HNK.out];exact hin5.grow hW) (fun v hv=>((((hbk v hv).1.below hBr5).more hBr5.size).below hW).more hW.size) (by rw[HVL.out];omega)
    rw[HVL.out,<-HNK.out,<-hSM2] at h
    exact h
   have HCL:∀W,Below W5.heap.size W5 W->Calls Tryz.prog 67 #[.slice Ay 512 ky] W fun e w'=>∃A c,e = .returned (.slice A 512 c)/\InB w' w'.heap.size A c y/\(∀g o,A=some ⟨g,o,none⟩->W5.heap.size<=g)/\TyB w' A/\Below W.heap.size W w':=fun W hW=>by
    have h:=clone_gives W Ay ky y ((hy5.below hW).more hW.size) (by omega)
    rw[hy512] at h
    refine h.mono ?_
    rintro e w' ⟨v,rfl,own,hBc⟩
    have hge:=ownG_ge own
    have hty:=ownG_ty own
    obtain⟨A,c,rfl,hin⟩:=own.inB
    exact⟨A,c,by rw[hy512],hin,fun g o e=>by subst e;exact zP hW.size (hge g rfl),fun g o e=>by subst e;exact hty g rfl,hBc⟩
   have hS0:Below W5.heap.size W5 W5.drew:=(Below.refl _ _).drew
   have HSM2:=Lib.hid hSM2
   clear hSM2
   go_wp2_with fail
   apply wp_stop3 (fun q A6 c6 w'=>BlkIs w' q 163 (frCells S.ep (nk:Int) p' false 0 SM A6 512 c6)/\W5.heap.size<=q/\InB w' w'.heap.size A6 c6 y/\(∀g o,A6=some ⟨g,o,none⟩->W5.heap.size<=g)/\TyB w' A6/\Below W5.heap.size W5 w')
   case h1 =>
    refine RegF.start (fun W=>Below W5.heap.size W5 W) 99 (by kernel_rfl) ?_
    refine RegF.t0 0 (.pointer (some ⟨l,0,none⟩)) rfl hS0 (fun W hW=>by have q:=T0 W hW;go_simp) ?_
    simp only[zD,zB,Act.put,zA,zF,zE]
    refine RegF.t0 1 (.pointer (some ⟨l,0,none⟩)) rfl hS0 (fun W hW=>by go_simp) ?_
    simp only[zD,zC,zB,Act.put,zA,zF,zE]
    refine RegF.t0 2 (.pointer (some ⟨l,4,none⟩)) rfl hS0 (fun W hW=>by go_simp) ?_
    simp only[zD,zC,zB,Act.put,zA,zF,zE]
    refine RegF.t0 3 (.int .u64 (S.ep:Int)) rfl hS0 (fun W hW=>by have q:=T4 W hW;go_simp) ?_
    simp only[zD,zC,zB,Act.put,zA,zF,zE]
    refine RegF.t0 4 (.slice Am nk cm) rfl hS0 (fun W hW=>by have q:=TM W hW;go_simp) ?_
    simp only[zD,zC,zB,Act.put,zA,zF,zE]
    refine RegF.t0 5 (.int .i64 (nk:Int)) rfl hS0 (fun W hW=>by go_simp) ?_
    simp only[zD,zC,zB,Act.put,zA,zF,zE]
    refine RegF.t0 6 (.pointer (some ⟨wr.heap.size,0,none⟩)) rfl hS0 (fun W hW=>by go_simp) ?_
    simp only[zD,zC,zB,Act.put,zA,zF,zE]
    refine RegF.t0 7 (.int .i64 p') rfl hS0 (fun W hW=>by have q:=TP W hW;go_simp) ?_
    simp only[zD,zC,zB,Act.put,zA,zF,zE]
    refine RegF.t0 8 (.slice Am nk cm) rfl hS0 (fun W hW=>by have q:=TM W hW;go_simp) ?_
    simp only[zD,zC,zB,Act.put,zA,zF,zE]
    refine RegF.t0 10 (.pointer (some ⟨wr.heap.size,1,none⟩)) rfl hS0 (fun W hW=>by go_simp) ?_
    simp only[zD,zC,zB,Act.put,zA,zF,zE]
    refine RegF.t0 11 (.slice Ay 512 ky) rfl hS0 (fun W hW=>by have q:=TB W hW;go_simp) ?_
    simp only[zD,zC,zB,Act.put,zA,zF,zE]
    refine RegF.two 9 14 (by kernel_rfl) ?_ ?_
    case' refine_1 =>
     refine RegF.opC 104 #[.tmp 56] #[102] rfl rfl rfl (enters_of Tryz.func104 (by kernel_rfl) rfl) #[.slice Am nk cm] (by simp only[zJ,zK,zL];rfl) ((HLK W5.drew hS0).mono ?_)
     rintro e Wl ⟨rfl,hBl⟩
     have hSl:Below W5.heap.size W5 Wl:=hS0.trans (hBl.mono hS0.size)
     refine⟨_,rfl,fun _=>hSl,?_⟩
     simp only[zD,zC,zB,Act.put,zA,zF,zE]
     refine RegF.two 12 14 (by kernel_rfl) ?_ ?_
     case' refine_1 =>
      refine RegF.opC 67 #[.tmp 59] #[22] rfl rfl rfl (enters_of Tryz.func67 (by kernel_rfl) rfl) #[.slice Ay 512 ky] (by simp only[zJ,zK,zL];rfl) ((HCL Wl hSl).mono ?_)
      rintro e Wc ⟨A6,c6,rfl,hin6,hA6,hty,hBc⟩
      have hS6:Below W5.heap.size W5 Wc:=hSl.trans (hBc.mono hSl.size)
      refine⟨_,rfl,fun _=>hS6,?_⟩
      simp only[zD,zC,zB,Act.put,zA,zF,zE]
      refine RegF.t0 13 (.agg (frCells S.ep (nk:Int) p' false 0 SM A6 512 c6)) rfl hS6 (fun W hW=>by go_simp;rfl) ?_
      simp only[zD,zC,zB,Act.put,zA,zF,zE]
      have bz:=BlkIs.new Wc 163 #[.int .u64 0,.int .i64 0,.int .i64 0,.bool false,.int .i64 0,.int .u32 0,.slice none 0 0]
      have hS7:Below W5.heap.size W5 (Wc.alloc (.cells #[.int .u64 0,.int .i64 0,.int .i64 0,.bool false,.int .i64 0,.int .u32 0,.slice none 0 0] 163)):=hS6.alloc hS6.size _
      have hBz:Below Wc.heap.size Wc (Wc.alloc (.cells #[.int .u64 0,.int .i64 0,.int .i64 0,.bool false,.int .i64 0,.int .u32 0,.slice none 0 0] 163)):=(Below.refl _ _).alloc (zG _) _
      refine RegF.one 14 (by kernel_rfl) ?_
      refine RegF.opV (w':=Wc.alloc (.cells #[.int .u64 0,.int .i64 0,.int .i64 0,.bool false,.int .i64 0,.int .u32 0,.slice none 0 0] 163)) (.pointer (some ⟨Wc.heap.size,0,none⟩)) rfl rfl (by go_simp) ⟨fun _=>hS7,?_⟩
      simp only[zD,zC,zB,Act.put,zA,zF,zE]
      refine RegF.one 15 (by kernel_rfl) (RegF.opS (w':=(Wc.alloc (.cells #[.int .u64 0,.int .i64 0,.int .i64 0,.bool false,.int .i64 0,.int .u32 0,.slice none 0 0] 163)).setRow Wc.heap.size (frCells S.ep (nk:Int) p' false 0 SM A6 512 c6)) rfl rfl (x_storeR 163 (.tmp 10) (.tmp 61) rfl Wc.heap.size rfl rfl rowFrame bz rfl rfl (frCells_one _ _ _ _ _ _ _ _ _)) ⟨fun _=>below_setRow hS7 hS6.size _,RegF.done (by kernel_rfl) ?_⟩)
      simp only[zD,zC,zB,Act.put]
      have hF:BlkIs ((Wc.alloc (.cells #[.int .u64 0,.int .i64 0,.int .i64 0,.bool false,.int .i64 0,.int .u32 0,.slice none 0 0] 163)).setRow Wc.heap.size (frCells S.ep (nk:Int) p' false 0 SM A6 512 c6)) Wc.heap.size 163 (frCells S.ep (nk:Int) p' false 0 SM A6 512 c6)/\W5.heap.size<=Wc.heap.size/\InB ((Wc.alloc (.cells #[.int .u64 0,.int .i64 0,.int .i64 0,.bool false,.int .i64 0,.int .u32 0,.slice none 0 0] 163)).setRow Wc.heap.size (frCells S.ep (nk:Int) p' false 0 SM A6 512 c6)) ((Wc.alloc (.cells #[.int .u64 0,.int .i64 0,.int .i64 0,.bool false,.int .i64 0,.int .u32 0,.slice none 0 0] 163)).setRow Wc.heap.size (frCells S.ep (nk:Int) p' false 0 SM A6 512 c6)).heap.size A6 c6 y/\(∀g o,A6=some ⟨g,o,none⟩->W5.heap.size<=g)/\TyB ((Wc.alloc (.cells #[.int .u64 0,.int .i64 0,.int .i64 0,.bool false,.int .i64 0,.int .u32 0,.slice none 0 0] 163)).setRow Wc.heap.size (frCells S.ep (nk:Int) p' false 0 SM A6 512 c6)) A6/\Below W5.heap.size W5 ((Wc.alloc (.cells #[.int .u64 0,.int .i64 0,.int .i64 0,.bool false,.int .i64 0,.int .u32 0,.slice none 0 0] 163)).setRow Wc.heap.size (frCells S.ep (nk:Int) p' false 0 SM A6 512 c6)):=⟨bz.setRow _,hS6.size,(hin6.below (below_setRow hBz (zG _) (frCells S.ep (nk:Int) p' false 0 SM A6 512 c6))).more (below_setRow hBz (zG _) (frCells S.ep (nk:Int) p' false 0 SM A6 512 c6)).size,hA6,hty.grow (below_setRow hBz (zG _) _),below_setRow hS7 hS6.size _⟩
      generalize (Wc.alloc (.cells #[.int .u64 0,.int .i64 0,.int .i64 0,.bool false,.int .i64 0,.int .u32 0,.slice none 0 0] 163)).setRow Wc.heap.size (frCells S.ep (nk:Int) p' false 0 SM A6 512 c6)=W7 at hF ⊢
      generalize Wc.heap.size=q at hF ⊢
      exact⟨q,A6,c6,hF,rfl⟩
     case' refine_2 =>
      have bz:=BlkIs.new Wl 163 #[.int .u64 0,.int .i64 0,.int .i64 0,.bool false,.int .i64 0,.int .u32 0,.slice none 0 0]
      have hSa:Below W5.heap.size W5 (Wl.alloc (.cells #[.int .u64 0,.int .i64 0,.int .i64 0,.bool false,.int .i64 0,.int .u32 0,.slice none 0 0] 163)):=hSl.alloc hSl.size _
      refine RegF.opV (w':=Wl.alloc (.cells #[.int .u64 0,.int .i64 0,.int .i64 0,.bool false,.int .i64 0,.int .u32 0,.slice none 0 0] 163)) (.pointer (some ⟨Wl.heap.size,0,none⟩)) rfl rfl (by go_simp) ⟨fun _=>hSa,?_⟩
      simp only[zD,zC,zB,Act.put,zA,zF,zE]
      generalize Wl.alloc (.cells #[.int .u64 0,.int .i64 0,.int .i64 0,.bool false,.int .i64 0,.int .u32 0,.slice none 0 0] 163)=Wa at bz hSa ⊢
      refine RegF.one 12 (by kernel_rfl) ?_
      refine RegF.opC 67 #[.tmp 59] #[22] rfl rfl rfl (enters_of Tryz.func67 (by kernel_rfl) rfl) #[.slice Ay 512 ky] (by simp only[zJ,zK,zL];rfl) ((HCL Wa hSa).mono ?_)
      rintro e Wc ⟨A6,c6,rfl,hin6,hA6,hty,hBc⟩
      have bc:=bz.below hBc bz.lt
      have hS6:Below W5.heap.size W5 Wc:=hSa.trans (hBc.mono hSa.size)
      refine⟨_,rfl,fun _=>hS6,?_⟩
      simp only[zD,zC,zB,Act.put,zA,zF,zE]
      refine RegF.one 13 (by kernel_rfl) (RegF.opV (w':=Wc) (.agg (frCells S.ep (nk:Int) p' false 0 SM A6 512 c6)) rfl rfl (by go_simp;rfl) ⟨fun _=>hS6,?_⟩)
      simp only[zD,zC,zB,Act.put,zA,zF,zE]
      have hS8:Below W5.heap.size W5 (Wc.setRow Wl.heap.size (frCells S.ep (nk:Int) p' false 0 SM A6 512 c6)):=below_setRow hS6 hSl.size _
      refine RegF.one 15 (by kernel_rfl) (RegF.opS (w':=Wc.setRow Wl.heap.size (frCells S.ep (nk:Int) p' false 0 SM A6 512 c6)) rfl rfl (x_storeR 163 (.tmp 10) (.tmp 61) rfl Wl.heap.size rfl rfl rowFrame bc rfl rfl (frCells_one _ _ _ _ _ _ _ _ _)) ⟨fun _=>hS8,RegF.done (by kernel_rfl) ?_⟩)
      simp only[zD,zC,zB,Act.put]
      have hne:∀g o,A6=some ⟨g,o,none⟩->g≠Wl.heap.size:=fun g o e=>by
       subst e
       intro e2
       subst e2
       obtain⟨g',o',e3,hg',hc'⟩:=hin6.lies (by omega)
       injection e3 with e3
       injection e3 with e3 e4
       subst e3 e4
       have h0:=hc' 0 (by omega)
       rw[bc.cell] at h0
       exact zf_no _ _ h0
      have hF:BlkIs (Wc.setRow Wl.heap.size (frCells S.ep (nk:Int) p' false 0 SM A6 512 c6)) Wl.heap.size 163 (frCells S.ep (nk:Int) p' false 0 SM A6 512 c6)/\W5.heap.size<=Wl.heap.size/\InB (Wc.setRow Wl.heap.size (frCells S.ep (nk:Int) p' false 0 SM A6 512 c6)) (Wc.setRow Wl.heap.size (frCells S.ep (nk:Int) p' false 0 SM A6 512 c6)).heap.size A6 c6 y/\(∀g o,A6=some ⟨g,o,none⟩->W5.heap.size<=g)/\TyB (Wc.setRow Wl.heap.size (frCells S.ep (nk:Int) p' false 0 SM A6 512 c6)) A6/\Below W5.heap.size W5 (Wc.setRow Wl.heap.size (frCells S.ep (nk:Int) p' false 0 SM A6 512 c6)):=⟨bc.setRow _,hSl.size,GrowBut.inB (Mu:=fun k=>k=Wl.heap.size) (GrowBut.grown (setRow_grown Wc Wl.heap.size (frCells S.ep (nk:Int) p' false 0 SM A6 512 c6)) (fun r e=>by injection e with e;exact .inl e.symm)) hin6 (fun g o e _=>hne g o e),hA6,hty.row _ _ hne,hS8⟩
      generalize Wc.setRow Wl.heap.size (frCells S.ep (nk:Int) p' false 0 SM A6 512 c6)=W7 at hF ⊢
      generalize Wl.heap.size=q at hF ⊢
      exact⟨q,A6,c6,hF,rfl⟩
    case' refine_2 =>
     have bz:=BlkIs.new W5.drew 163 #[.int .u64 0,.int .i64 0,.int .i64 0,.bool false,.int .i64 0,.int .u32 0,.slice none 0 0]
     have hSa:Below W5.heap.size W5 (W5.drew.alloc (.cells #[.int .u64 0,.int .i64 0,.int .i64 0,.bool false,.int .i64 0,.int .u32 0,.slice none 0 0] 163)):=hS0.alloc hS0.size _
     refine RegF.opV (w':=W5.drew.alloc (.cells #[.int .u64 0,.int .i64 0,.int .i64 0,.bool false,.int .i64 0,.int .u32 0,.slice none 0 0] 163)) (.pointer (some ⟨W5.drew.heap.size,0,none⟩)) rfl rfl (by go_simp) ⟨fun _=>hSa,?_⟩
     simp only[zD,zC,zB,Act.put,zA,zF,zE]
     generalize W5.drew.alloc (.cells #[.int .u64 0,.int .i64 0,.int .i64 0,.bool false,.int .i64 0,.int .u32 0,.slice none 0 0] 163)=Wa at bz hSa ⊢
     refine RegF.one 9 (by kernel_rfl) ?_
     refine RegF.opC 104 #[.tmp 56] #[102] rfl rfl rfl (enters_of Tryz.func104 (by kernel_rfl) rfl) #[.slice Am nk cm] (by simp only[zJ,zK,zL];rfl) ((HLK Wa hSa).mono ?_)
     rintro e Wl ⟨rfl,hBl⟩
     have bl:=bz.below hBl bz.lt
     have hSl:Below W5.heap.size W5 Wl:=hSa.trans (hBl.mono hSa.size)
     refine⟨_,rfl,fun _=>hSl,?_⟩
     simp only[zD,zC,zB,Act.put,zA,zF,zE]
     refine RegF.one 12 (by kernel_rfl) ?_
     refine RegF.opC 67 #[.tmp 59] #[22] rfl rfl rfl (enters_of Tryz.func67 (by kernel_rfl) rfl) #[.slice Ay 512 ky] (by simp only[zJ,zK,zL];rfl) ((HCL Wl hSl).mono ?_)
     rintro e Wc ⟨A6,c6,rfl,hin6,hA6,hty,hBc⟩
     have bc:=bl.below hBc bl.lt
     have hS6:Below W5.heap.size W5 Wc:=hSl.trans (hBc.mono hSl.size)
     refine⟨_,rfl,fun _=>hS6,?_⟩
     simp only[zD,zC,zB,Act.put,zA,zF,zE]
     refine RegF.one 13 (by kernel_rfl) (RegF.opV (w':=Wc) (.agg (frCells S.ep (nk:Int) p' false 0 SM A6 512 c6)) rfl rfl (by go_simp;rfl) ⟨fun _=>hS6,?_⟩)
     simp only[zD,zC,zB,Act.put,zA,zF,zE]
     have hS8:Below W5.heap.size W5 (Wc.setRow W5.drew.heap.size (frCells S.ep (nk:Int) p' false 0 SM A6 512 c6)):=below_setRow hS6 hS0.size _
     refine RegF.one 15 (by kernel_rfl) (RegF.opS (w':=Wc.setRow W5.drew.heap.size (frCells S.ep (nk:Int) p' false 0 SM A6 512 c6)) rfl rfl (x_storeR 163 (.tmp 10) (.tmp 61) rfl W5.drew.heap.size rfl rfl rowFrame bc rfl rfl (frCells_one _ _ _ _ _ _ _ _ _)) ⟨fun _=>hS8,RegF.done (by kernel_rfl) ?_⟩)
     simp only[zD,zC,zB,Act.put]
     have hne:∀g o,A6=some ⟨g,o,none⟩->g≠W5.drew.heap.size:=fun g o e=>by
      subst e
      intro e2
      subst e2
      obtain⟨g',o',e3,hg',hc'⟩:=hin6.lies (by omega)
      injection e3 with e3
      injection e3 with e3 e4
      subst e3 e4
      have h0:=hc' 0 (by omega)
      rw[bc.cell] at h0
      exact zf_no _ _ h0
     have hF:BlkIs (Wc.setRow W5.drew.heap.size (frCells S.ep (nk:Int) p' false 0 SM A6 512 c6)) W5.drew.heap.size 163 (frCells S.ep (nk:Int) p' false 0 SM A6 512 c6)/\W5.heap.size<=W5.drew.heap.size/\InB (Wc.setRow W5.drew.heap.size (frCells S.ep (nk:Int) p' false 0 SM A6 512 c6)) (Wc.setRow W5.drew.heap.size (frCells S.ep (nk:Int) p' false 0 SM A6 512 c6)).heap.size A6 c6 y/\(∀g o,A6=some ⟨g,o,none⟩->W5.heap.size<=g)/\TyB (Wc.setRow W5.drew.heap.size (frCells S.ep (nk:Int) p' false 0 SM A6 512 c6)) A6/\Below W5.heap.size W5 (Wc.setRow W5.drew.heap.size (frCells S.ep (nk:Int) p' false 0 SM A6 512 c6)):=⟨bc.setRow _,hS0.size,GrowBut.inB (Mu:=fun k=>k=W5.drew.heap.size) (GrowBut.grown (setRow_grown Wc W5.drew.heap.size (frCells S.ep (nk:Int) p' false 0 SM A6 512 c6)) (fun r e=>by injection e with e;exact .inl e.symm)) hin6 (fun g o e _=>hne g o e),hA6,hty.row _ _ hne,hS8⟩
     generalize Wc.setRow W5.drew.heap.size (frCells S.ep (nk:Int) p' false 0 SM A6 512 c6)=W7 at hF ⊢
     generalize W5.drew.heap.size=q at hF ⊢
     exact⟨q,A6,c6,hF,rfl⟩
   case h2 =>
    rintro q A6 c6 w6 ⟨hbq,hq5,hin6,hA6,hty6,hB6⟩
    have hB36:=hB5.trans (hB6.mono hB5.size)
    have m6:=m5.below hB6 m5.lt
    have s6:=b13.below hB36 b13.lt
    have w5s:=hB5.size
    have w5r:=hBr5.size
    have nq1:¬ w.heap.size+1=q:=by omega
    have nqm:¬ mb=q:=by omega
    have hsub:IntKind.i64.wrap ((n:Int) - 1)=(n:Int) - 1:=wrap_i64_fr _ (by omega) (by omega)
    have hwk:IntKind.i64.wrap ((k:Int)+1)=(k:Int)+1:=wrap_i64_fr _ (by omega) (by omega)
    clear T0 T4 TM TP TB HLK HCL b5 hy5 hin5 hS0
    by_cases hlast:k+1=n
    case' pos =>
     have HEQ:Hid (decide ((k:Int)=(n:Int) - 1)=true):=Lib.hid (decide_eq_true (by omega))
     have hbA:=hbq.drew.set 3 (.bool true)
     have hbB:BlkIs ((w6.drew.setCell ⟨q,3,none⟩ (.bool true)).setCell ⟨q,4,none⟩ (.int .i64 z)) q 163 (frCells S.ep (nk:Int) p' true z SM A6 512 c6):=hbA.set 4 (.int .i64 z)
     have z3:w6.cell? ⟨q,3,none⟩=some (.bool false):=by rw[hbq.cell];rfl
     have z4:w6.cell? ⟨q,4,none⟩=some (.int .i64 0):=by rw[hbq.cell];rfl
     have y3:=hbq.free 3
     have y4:=hbq.free 4
     have hS1:=s6.drew
     have hSA:=hS1.other (p:=⟨q,3,none⟩) nq1 (.bool true)
     have hMB:=(m6.drew.other (p:=⟨q,3,none⟩) nqm (.bool true)).other (p:=⟨q,4,none⟩) nqm (.int .i64 z)
     have hGB:GrowBut (fun k=>k=q) w6 ((w6.drew.setCell ⟨q,3,none⟩ (.bool true)).setCell ⟨q,4,none⟩ (.int .i64 z)):=((GrowBut.grown (grownBy_drew w6 none) (fun r e=>by cases e)).trans (GrowBut.grown (setCell_grown _ ⟨q,3,none⟩ _) (fun r e=>by injection e with e;exact .inl e.symm))).trans (GrowBut.grown (setCell_grown _ ⟨q,4,none⟩ _) (fun r e=>by injection e with e;exact .inl e.symm))
     have HLA:=Lib.hid hlast
     clear hlast
     go_wp2_with (refine wp_exec rfl (r_eqI (b:=true) rfl rfl rfl HEQ.out) ?_)
     refine RegF.start (fun W=>BlkIs W (w.heap.size+1) 3 #[.int .i64 z]) 4 (by kernel_rfl) ?_
     refine RegF.t 0 (.int .i64 z) rfl hS1 (fun W hW=>by have q:=hW.boxed;go_simp) ?_
     simp only[zD,zB,Act.put,zA,zF,zE]
     refine RegF.one 1 (by kernel_rfl) (RegF.opV (w':=w6.drew) (.pointer (some ⟨q,3,none⟩)) rfl rfl (by go_simp) ⟨fun _=>hS1,?_⟩)
     simp only[zD,zC,zB,Act.put,zA,zF,zE]
     refine RegF.one 2 (by kernel_rfl) (RegF.opS (w':=w6.drew.setCell ⟨q,3,none⟩ (.bool true)) rfl rfl (by go_simp) ⟨fun _=>hSA,?_⟩)
     simp only[zD,zC,zB,Act.put]
     refine RegF.one 3 (by kernel_rfl) (RegF.opV (w':=w6.drew.setCell ⟨q,3,none⟩ (.bool true)) (.pointer (some ⟨q,4,none⟩)) rfl rfl (by go_simp) ⟨fun _=>hSA,?_⟩)
     simp only[zD,zC,zB,Act.put,zA,zF,zE]
     refine RegF.one 4 (by kernel_rfl) (RegF.opS (w':=(w6.drew.setCell ⟨q,3,none⟩ (.bool true)).setCell ⟨q,4,none⟩ (.int .i64 z)) rfl rfl (by go_simp) ⟨fun h=>absurd rfl h,RegF.done (by kernel_rfl) ?_⟩)
     simp only[zD,zC,zB,Act.put]
     clear z3 z4 y3 y4 hS1 hSA hbA
     generalize (w6.drew.setCell ⟨q,3,none⟩ (.bool true)).setCell ⟨q,4,none⟩ (.int .i64 z)=w7 at *
     obtain⟨FC,hFC⟩:∃FC,FC=frCells S.ep (nk:Int) p' true z SM A6 512 c6:=⟨_,rfl⟩
     have HFC:Hid (FC.toList=(FrV.arr (newF S.ep z (addK S.ep z S.fs n pw k) (p',y) (decide (k+1=n)),A6,c6)).toList):=Lib.hid (by
      rw[hFC]
      have h1:=HVK.out
      have h2:=HVL.out
      have h3:=HNK.out
      have h4:=addK_length S.ep z S.fs n pw k
      have h5:=HN0S.out
      simp only[FrV.arr,newF,HSM.out,h4,hy512,HLA.out,decide_true,if_true]
      rw[show S.fs.length+k=nk by omega])
     have hfs:FC.size=7:=by rw[hFC];rfl
     have hFC1:∀v∈FC.toList,v.oneCell'=true:=by rw[hFC];exact frCells_one _ _ _ _ _ _ _ _ _
     rw[<-hFC] at hbB
     clear hFC HLA HEQ
     have hB67:Below W5.heap.size W5 w7:=hB6.trans (hGB.toBelow hB6.size (fun k e=>by subst e;exact hq5))
     have hBr7:Below wr.heap.size wr w7:=hBr5.trans (hB67.mono hBr5.size)
     have hB37:Below W3.heap.size W3 w7:=hB5.trans (hB67.mono hB5.size)
     obtain⟨hi7,hty7⟩:=keepB hGB hin6 hty6 (fun g cs hb e=>by subst e;exact BlkIs.ne_type hb hbq (by decide) rfl)
     have hBL:Below w7.heap.size w7 (w7.alloc (.cells FC 163)):=(Below.refl _ _).alloc (zG _) _
     have hin7:InG (w7.alloc (.cells FC 163)) (w7.alloc (.cells FC 163)).heap.size 7 (some ⟨w7.heap.size,0,none⟩) 1 1 FC.toList:=by
      obtain⟨AL,cL,eL,hin⟩:=ownG_in (World.ownsRow_lit (base:=w7.heap.size) (size:=7) (e:=163) w7 FC 1 (zG _) (by decide) hfs) hFC1
      injection eL with eL1 _ eL2
      subst eL1 eL2
      exact hin
     have own7:=ownG_grow (ownG_grow own4 hBr7) hBL
     have hsz7:W3.heap.size<=(w7.alloc (.cells FC 163)).heap.size:=zP hB37.size hBL.size
     have hne8:some mb≠(Value.slice Am nk cm).ownBlock:=fun e=>by
      obtain⟨cur,hcur⟩:=ownG_ty own7 mb e.symm
      exact BlkIs.ne_type hcur (hMB.alloc (.cells FC 163)) (by decide) rfl
     have hone:∀v∈vsC vk++FC.toList,v.oneCell'=true:=fun v hv=>by
      rcases List.mem_append.1 hv with h|h
      ·exact vsC_one vk v h
      ·exact hFC1 v h
     have fm:=hMB.free 0
     have km:=hMB.boxed
     have hnkb:nk<=4000:=by have:=HNK.out;omega
     go_wp2_with (first
      | (refine wp_loadW rfl 163 (.tmp 10) rfl q rfl rowFrame hbB hfs ?_)
      | (refine wp_exec rfl (x_sliceFr FC hfs rfl rfl) ?_)
      | (at_builtin;refine wp_appG rfl elFrame (.tmp 70) (.tmp 72) rfl W3.heap.size (.slice Am nk cm) nk (vsC vk) rfl own7 _ (some ⟨w7.heap.size,0,none⟩) 1 1 FC.toList rfl hin7 (by unfold maxLen;omega) (by omega) hsz7 ?_;intro v8 w8 own8 hg8;have m8:=hMB.alloc (.cells FC 163) |>.grown hg8 hne8;obtain⟨A8,c8,rfl,_⟩:=ownG_in own8 hone;have km8:=m8.boxed;have fm8:=m8.free 0))
    case' neg =>
     have HEQ:Hid (decide ((k:Int)=(n:Int) - 1)=false):=Lib.hid (decide_eq_false (by omega))
     obtain⟨w7,hw7⟩:∃w7,w7=w6:=⟨_,rfl⟩
     rw[<-hw7] at hbq m6 hin6 hty6 hB6 ⊢
     have hbB:=hbq
     have hMB:=m6
     have hGB:GrowBut (fun k=>k=q) w7 w7:=GrowBut.refl _ _
     obtain⟨FC,hFC⟩:∃FC,FC=frCells S.ep (nk:Int) p' false 0 SM A6 512 c6:=⟨_,rfl⟩
     have HFC:Hid (FC.toList=(FrV.arr (newF S.ep z (addK S.ep z S.fs n pw k) (p',y) (decide (k+1=n)),A6,c6)).toList):=Lib.hid (by
      rw[hFC]
      have h1:=HVK.out
      have h2:=HVL.out
      have h3:=HNK.out
      have h4:=addK_length S.ep z S.fs n pw k
      have h5:=HN0S.out
      have h6:decide (k+1=n)=false:=decide_eq_false hlast
      simp only[FrV.arr,newF,HSM.out,h4,hy512,h6]
      rw[show S.fs.length+k=nk by omega]
      rfl)
     have hfs:FC.size=7:=by rw[hFC];rfl
     have hFC1:∀v∈FC.toList,v.oneCell'=true:=by rw[hFC];exact frCells_one _ _ _ _ _ _ _ _ _
     rw[<-hFC] at hbB
     clear hFC hw7 hlast
     have hB67:Below W5.heap.size W5 w7:=hB6.trans (hGB.toBelow hB6.size (fun k e=>by subst e;exact hq5))
     have hBr7:Below wr.heap.size wr w7:=hBr5.trans (hB67.mono hBr5.size)
     have hB37:Below W3.heap.size W3 w7:=hB5.trans (hB67.mono hB5.size)
     obtain⟨hi7,hty7⟩:=keepB hGB hin6 hty6 (fun g cs hb e=>by subst e;exact BlkIs.ne_type hb hbq (by decide) rfl)
     have hBL:Below w7.heap.size w7 (w7.alloc (.cells FC 163)):=(Below.refl _ _).alloc (zG _) _
     have hin7:InG (w7.alloc (.cells FC 163)) (w7.alloc (.cells FC 163)).heap.size 7 (some ⟨w7.heap.size,0,none⟩) 1 1 FC.toList:=by
      obtain⟨AL,cL,eL,hin⟩:=ownG_in (World.ownsRow_lit (base:=w7.heap.size) (size:=7) (e:=163) w7 FC 1 (zG _) (by decide) hfs) hFC1
      injection eL with eL1 _ eL2
      subst eL1 eL2
      exact hin
     have own7:=ownG_grow (ownG_grow own4 hBr7) hBL
     have hsz7:W3.heap.size<=(w7.alloc (.cells FC 163)).heap.size:=zP hB37.size hBL.size
     have hne8:some mb≠(Value.slice Am nk cm).ownBlock:=fun e=>by
      obtain⟨cur,hcur⟩:=ownG_ty own7 mb e.symm
      exact BlkIs.ne_type hcur (hMB.alloc (.cells FC 163)) (by decide) rfl
     have hone:∀v∈vsC vk++FC.toList,v.oneCell'=true:=fun v hv=>by
      rcases List.mem_append.1 hv with h|h
      ·exact vsC_one vk v h
      ·exact hFC1 v h
     have fm:=hMB.free 0
     have km:=hMB.boxed
     have hnkb:nk<=4000:=by have:=HNK.out;omega
     go_wp2_with (first
      | (refine wp_loadW rfl 163 (.tmp 10) rfl q rfl rowFrame hbB hfs ?_)
      | (refine wp_exec rfl (x_sliceFr FC hfs rfl rfl) ?_)
      | (at_builtin;refine wp_appG rfl elFrame (.tmp 70) (.tmp 72) rfl W3.heap.size (.slice Am nk cm) nk (vsC vk) rfl own7 _ (some ⟨w7.heap.size,0,none⟩) 1 1 FC.toList rfl hin7 (by unfold maxLen;omega) (by omega) hsz7 ?_;intro v8 w8 own8 hg8;have m8:=hMB.alloc (.cells FC 163) |>.grown hg8 hne8;obtain⟨A8,c8,rfl,_⟩:=ownG_in own8 hone;have km8:=m8.boxed;have fm8:=m8.free 0)
      | (refine wp_exec rfl (r_eqI (b:=false) rfl rfl rfl HEQ.out) ?_))
    all_goals
     have hB8:Below W3.heap.size W3 w8:=hB37.trans ((hBL.mono hB37.size).trans (grown_below hg8 hsz7 (ownG_ge own7)))
     have hB9:=hB8.setCell (p:=⟨mb,0,none⟩) hmb3 (.slice A8 (nk+1) c8)
     have G9:GrowBut (fun g=>(Value.slice Am nk cm).ownBlock=some g∨g=mb) w7 (w8.setCell ⟨mb,0,none⟩ (.slice A8 (nk+1) c8)):=((GrowBut.below hBL).trans (GrowBut.grown hg8 (fun r e => .inl (.inl e)))).trans (GrowBut.setCell _ _ _ (.inr rfl))
     have hMu:∀g cs,BlkIs w7 g 5 cs->¬ ((Value.slice Am nk cm).ownBlock=some g∨g=mb):=fun g cs hb h=>by
      rcases h with h|rfl
      ·obtain⟨cur,hcur⟩:=ownG_ty own7 g h
       exact BlkIs.ne_type hcur (hb.alloc (.cells FC 163)) (by decide) rfl
      ·exact BlkIs.ne_type hb hMB (by decide) rfl
     have own9:(w8.setCell ⟨mb,0,none⟩ (.slice A8 (nk+1) c8)).ownsRow W3.heap.size 163 7 (.slice A8 (nk+1) c8) (nk+1) (vsC vk++FC.toList):=ownG_later own8 (fun r hr=>Below.heap_setCell w8 ⟨mb,0,none⟩ _ r (fun e=>by
      obtain⟨cur,hcur⟩:=ownG_ty own8 r hr
      have e':r=mb:=e
      subst e'
      exact BlkIs.ne_type hcur m8 (by decide) rfl))
     have hnk:=HNK.out
     refine⟨⟨k+1,by omega,by simp,hB9,A8,c8,vk++[(newF S.ep z (addK S.ep z S.fs n pw k) (p',y) (decide (k+1=n)),A6,c6)],?_,?_,?_,?_⟩,by simp[intOf];omega⟩
     ·rw[show n0+(k+1)=nk+1 by omega]
      exact m8.set 0 _
     ·rw[show n0+(k+1)=nk+1 by omega,vsC_append,vsC_one1,<-HFC.out]
      exact own9
     ·rw[List.map_append,HVK.out]
      exact HNX.out.symm
     ·intro v hv
      rcases List.mem_append.1 hv with hv|hv
      ·obtain⟨h1,h2⟩:=hbk v hv
       rcases h2 with h2|⟨h2,h3⟩
       ·exact⟨((hF3.bys v h2).1.below hB9).more hB9.size,.inl h2⟩
       ·obtain⟨h4,h5⟩:=keepB G9 ((h1.below hBr7).more hBr7.size) (h3.grow hBr7) hMu
        exact⟨h4,.inr ⟨h2,h5⟩⟩
      ·obtain rfl:=List.mem_singleton.1 hv
       obtain⟨h4,h5⟩:=keepB G9 hi7 hty7 hMu
       exact⟨h4,.inr ⟨fun g o e=>by have:=hA6 g o e;omega,h5⟩⟩
  ·have hkn:k=n:=by omega
   subst hkn
   have hn0:=HN0.out
   have hn0s:=HN0S.out
   obtain⟨fg,hfgA,hfg3⟩:∃fg,Am=some ⟨fg,0,none⟩/\W3.heap.size<=fg:=by
    rcases own4.2 with⟨_,h0⟩|⟨fg,cap,cur,e,h1,_⟩
    ·omega
    ·injection e with e1 _ _
     exact⟨fg,e1,h1⟩
   subst hfgA
   obtain⟨_,_,eAm,hin4⟩:=ownG_in own4 (vsC_one vk)
   injection eAm with eA1 _ eA2
   subst eA1 eA2
   have hgd:=hgood k (zG _)
   have hsz4:=hB4.size
   have h1lt:=b03.lt
   have h2lt:=b13.lt
   have hVM:(S.fs.length:Int)+(k:Int)=(vk.length:Int):=by omega
   rw[<-hvl] at m4 hin4
   have hgd2:∀j (h:j<vk.length),n0<=j->(vk[j]).1.i=(j:Int)/\frOk (vk[j]).1.y.length (vk[j]).1.i (vk[j]).1.p (vk[j]).1.f (vk[j]).1.z=true:=fun j h hj=>by
    have h':j<(addK S.ep z S.fs k pw k).length:=by rw[addK_length];omega
    have e:(vk[j]).1=(addK S.ep z S.fs k pw k)[j]:=by
     have:(vk.map (·.1))[j]? = (addK S.ep z S.fs k pw k)[j]?:=by rw[hvk]
     rw[List.getElem?_map,zI h,zI h'] at this
     exact Option.some.inj this
    rw[e]
    exact hgd j h' (by omega)
   have hbs:∀v∈vk,InB wr wr.heap.size v.2.1 v.2.2 v.1.y/\∀g o,v.2.1=some ⟨g,o,none⟩->¬ (g=d∨g=l):=fun v hv=>by
    obtain⟨h1,h2⟩:=hbk v hv
    refine⟨h1,fun g o e => ?_⟩
    rcases h2 with h2|⟨h2,_⟩
    ·exact(hF3.bys v h2).2 g o e
    ·have:=h2 g o e
     intro h
     rcases h with rfl|rfl<;>omega
   have hoh:headOk S.sz (vk.length:Int)=true:=headOk_of hz.1 hz.2 (by omega) (by omega)
   have HS:=appSG_gives wr l d many w.heap.size mb (w.heap.size+1) s fr pg S.sr S.ep S.sz A0 n0 c0 fg cm vk z (hD.grow (hBw3.trans (hB4.mono hBw3.size))) hO (by omega) (hlg3.below hB4 hlg3.lt) (b03.below hB4 b03.lt) m4 (b13.below hB4 b13.lt) hin4 (fun v hv=>⟨(hbs v hv).1,fun g o e h=>(hbs v hv).2 g o e (.inl h)⟩) (by omega) (by omega) hld (by omega) (by omega) (by omega) (by omega) (by omega) (by omega) (by omega) hpl (by omega) hgd2 hoh (by omega) hmax hsr
   have k0:=(b03.below hB4 b03.lt).boxed
   have kl:wr.cell? ⟨l,0,none⟩=some (.pointer (some ⟨d,0,none⟩)):=by rw[(hlg3.below hB4 hlg3.lt).cell];rfl
   have hFw:FrsIs (fun k=>k=d∨k=l) wr (some ⟨fg,0,none⟩) cm vk:=⟨hin4,(fun g o e=>by
    injection e with e
    injection e with e1 e2
    refine⟨fun h => ?_,e2.symm⟩
    rcases h with h|h<;>omega),(fun h=>by rw[h] at hvl;simp at hvl;omega),hbs⟩
   have hBwr:=hBw3.trans (hB4.mono hBw3.size)
   have hFo:=hF3.grow hB4
   have HVK:=Lib.hid hvk
   have HVL:=Lib.hid hvl
   have HRR:=Lib.hid hroom
   have hq:appD s (frsW ((vk.map (·.1)).drop n0)) (wrL ((S.sr+1) % 2) (hEnc (S.sr+1) S.ep S.sz (vk.length:Int)) 1)=appD s (frsW ((addK S.ep z S.fs k pw k).drop S.fs.length)) (wrL ((S.sr+1) % 2) (hEnc (S.sr+1) S.ep S.sz ((addK S.ep z S.fs k pw k).length:Int)) 1):=by
    rw[hvk,hn0s,show vk.length=(addK S.ep z S.fs k pw k).length by rw[<-hvk,qD]]
   rw[hq] at HS
   have HQ:Hid (∃r,r=appD s (frsW ((addK S.ep z S.fs k pw k).drop S.fs.length)) (wrL ((S.sr+1) % 2) (hEnc (S.sr+1) S.ep S.sz ((addK S.ep z S.fs k pw k).length:Int)) 1)):=Lib.hid ⟨_,rfl⟩
   obtain⟨r,hr⟩:=HQ.out
   rw[<-hr] at HS
   have HRD:=Lib.hid hr
   clear hr hq hgd hgd2 hvk hvl hgood hY hx hbk own4 hroom hVM hn0 hn0s HQ hin4
   go_wp2_with (go_at_call 97;refine HS.mono ?_;rintro e w9 ⟨_,rfl,rfl,hD9,hl9,hG9⟩;have HL9:=Lib.hid hl9;clear hl9)
   go_ret
   have hGf:=(GrowBut.below (Mu:=fun k=>k=d∨k=l) hBwr).trans hG9
   have hkeep:∀j,(fun k=>k=d∨k=l) j->j<wr.heap.size->(fun k=>k=d∨k=l) j:=fun j h _=>h
   rcases HL9.out with⟨hx0,hl9⟩|⟨hx0,hl9⟩
   ·exact⟨r.2,r.1,⟨S.sr+1,S.ep,z,addK S.ep z S.fs k pw k⟩,rfl,.inr (.inr ⟨hR0,HRR.out,_,r,rfl,HRD.out,rfl,rfl,.inl ⟨hx0,rfl⟩⟩),hD9,⟨hld,_,_,vk,hl9,hFw.keep hG9 hkeep,HVK.out⟩,hGf⟩
   ·refine⟨r.2,r.1,S,rfl,.inr (.inr ⟨hR0,HRR.out,_,r,rfl,HRD.out,rfl,rfl,.inr ⟨hx0,rfl⟩⟩),hD9,⟨hld,_,_,vs,?_,hFo.keep hG9 hkeep,HFS.out⟩,hGf⟩
    rw[<-HN0.out]
    exact hl9
end
theorem append_gives (w:World)(l d many:Nat)(s:DS)(fr pg:Int)(S:LgS)(hL:LogIs w l d fr pg S)(hD:DkS w d many s)(hO:s.Ok)(hl:s.xs.length<=500000)(A1:Option Addr)(n c:Nat)(xs:Nat->Int×Option Addr×Nat)(pw:Nat->Int×List UInt8)(hn:n<=1000)
  (hA:1<=n->∃g o,A1=some ⟨g,o,none⟩/\PwIn w g o n xs/\g<w.heap.size) (hY:∀k,k<n->(pw k).1=(xs k).1/\(pw k).2.length=512/\InB w w.heap.size (xs k).2.1 (xs k).2.2 (pw k).2)
  (hpl:planOk fr pg=true) (z:Int) (hfs:(S.fs.length:Int)<=fr) (hz:0<=S.sz/\S.sz<=2000) (hmany:2+9*fr<=(many:Int)) (hmax:many<=1000000) (hsr:S.sr+1<18446744073709551616) :
  Calls Tryz.prog 116 #[.pointer (some ⟨l,0,none⟩),.int .i64 z,.slice A1 n c] w fun e w'=>∃x s' S',e = .returned (.int .i64 x)/\AppOut fr pg s S n xs pw z x s' S'/\DkS w' d many s'/\LogIs w' l d fr pg S'/\GrowBut (fun k=>k=d∨k=l) w w':=by
 have hplr:=(planOk_iff fr pg).1 hpl
 have hL0:=hL
 obtain⟨hld,A0,c0,vs,hlg,hF,hvs⟩:=hL
 have hvl:vs.length=S.fs.length:=by rw[<-hvs,qD]
 have hfin:∀{w':World},Below w.heap.size w w'->DkS w' d many s/\LogIs w' l d fr pg S/\GrowBut (fun k=>k=d∨k=l) w w':=fun {w'} hB =>
  ⟨hD.grow hB,⟨hld,A0,c0,vs,hlg.below hB hlg.lt,hF.grow hB,hvs⟩,GrowBut.below hB⟩
 by_cases hR:RightC fr pg z n xs
 ·obtain⟨hn1,hz1,hz2,hp⟩:=id hR
  obtain⟨g,o,rfl,hx,hg⟩:=hA hn1
  by_cases hroom:(S.fs.length:Int)+(n:Int)<=fr
  ·exact append_more w l d many s fr pg S A0 c0 vs hD hO hl hlg hF hvs hld g o n c xs pw hn1 hn hg hx hY hpl z hR hroom hz hmany hmax hsr
  ·refine(append_full w l d fr pg S.sr S.ep S.sz A0 vs.length c0 hlg (by omega) g o n c xs hn1 hn hx hg hp z hz1 hz2 (by omega)).mono ?_
   rintro e w' ⟨rfl,hB⟩
   exact⟨160,s,S,rfl,.inr (.inl ⟨hR,by omega,rfl,rfl,rfl⟩),hfin hB⟩
 ·refine(append_wrong w l d fr pg S.sr S.ep S.sz A0 vs.length c0 hlg A1 n c xs hn hA z hR).mono ?_
  rintro e w' ⟨rfl,hB⟩
  exact⟨2,s,S,rfl,.inl ⟨hR,rfl,rfl,rfl⟩,hfin hB⟩
structure HdP where
 s:Nat
 e:Nat
 z:Int
 c:Int
def HdP.zero:HdP:=⟨0,0,0,0⟩
def hvOf (l:List UInt8):HdP:=if isHead l then ⟨hdS l,hdE l,(hdZ l:Int),(hdC l:Int)⟩ else HdP.zero
def goodH (l:List UInt8)(j:Nat):Bool:=isHead l && decide (hdS l % 2=j)
def gdH (l:List UInt8)(j:Nat):HdP:=if goodH l j then hvOf l else HdP.zero

end Go.Proofs.YtnlimngkagmjpaaGreat
namespace Go.Proofs.YtnlimngkagmjpaaGreat
open Go Go.RowKit Lou Reg
section
variable {ρ:Operand->Value}{w:World}{o:Oper}{x y:Operand}
end
def FrP.enc (x:FrP):List UInt8:=frameB (partB x.e x.i.toNat x.p.toNat x.f x.z.toNat x.n) x.y
structure FrOn (G:Nat->List UInt8)(ep:Nat)(fs:List FrP):Prop where
 lies:∀j (h:j<fs.length),secsOf G (2+9*j) 9=(fs[j]).enc
 ok:∀j (h:j<fs.length),(fs[j]).e=ep/\(fs[j]).i=(j:Int)/\frOk (fs[j]).y.length (fs[j]).i (fs[j]).p (fs[j]).f (fs[j]).z=true/\(fs[j]).n=linkOf (fs.take j)/\(fs[j]).n<2 ^ 32
 last:∀x,fs.getLast? = some x->x.f=true
def szOf (z:Int)(fs:List FrP):Int:=match fs.getLast? with|some x=>x.z|none=>z
theorem FrP.enc_length {x:FrP}(h:frOk x.y.length x.i x.p x.f x.z=true):x.enc.length=576:=by
 have h1:=((frOk_iff _ _ _ _ _).1 h).1
 simp[FrP.enc,frameB,sectB_length,partB_length,h1]
end Go.Proofs.YtnlimngkagmjpaaGreat
namespace Go.Proofs.YtnlimngkagmjpaaGreat
open Go Go.RowKit Lou
structure LogOn (G:Nat->List UInt8)(S:LgS)(hz:Nat):Prop where
 hd:G (S.sr % 2)=headW S.sr S.ep hz S.fs.length
 sr:S.sr<2 ^ 64
 ep:S.ep<2 ^ 64
 hzl:hz<=2000
 hn:S.fs.length<=2000
 pos:1<=S.sr
 oth:goodH (G (1 - S.sr % 2)) (1 - S.sr % 2)=true->hdS (G (1 - S.sr % 2))<S.sr
 sz:S.sz=szOf (hz:Int) S.fs
 fr:FrOn G S.ep S.fs
theorem LogOn.pick {G:Nat->List UInt8}{S:LgS}{hz:Nat}(h:LogOn G S hz):(if (gdH (G 0) 0).s<(gdH (G 1) 1).s then gdH (G 1) 1 else gdH (G 0) 0)=⟨S.sr,S.ep,(hz:Int),(S.fs.length:Int)⟩/\(goodH (G 0) 0 || goodH (G 1) 1)=true:=by
 have hi:=isHead_headW (s:=S.sr) (e:=S.ep) h.sr h.ep h.hzl h.hn
 obtain⟨r1,r2,r3,r4⟩:=headW_read (s:=S.sr) (e:=S.ep) h.sr h.ep h.hzl h.hn
 have hv:hvOf (headW S.sr S.ep hz S.fs.length)=⟨S.sr,S.ep,(hz:Int),(S.fs.length:Int)⟩:=by
  unfold hvOf
  rw[if_pos hi,r1,r2,r3,r4]
 have hg:∀j,S.sr % 2=j->goodH (headW S.sr S.ep hz S.fs.length) j=true:=fun j hj=>by
  unfold goodH
  rw[hi,r1,hj]
  simp
 have ho:∀l j,(goodH l j=true->hdS l<S.sr)->(gdH l j).s<S.sr:=fun l j hh=>by
  unfold gdH
  cases hb:goodH l j
  ·exact h.pos
  ·have h2:isHead l=true:=by
    unfold goodH at hb
    simp at hb
    exact hb.1
   show (hvOf l).s<S.sr
   unfold hvOf
   rw[if_pos h2]
   exact hh hb
 have hd:=h.hd
 have hoth:=h.oth
 have hp:S.sr % 2=0∨S.sr % 2=1:=by omega
 rcases hp with hp|hp
 ·rw[hp] at hd hoth
  have h0:gdH (G 0) 0=⟨S.sr,S.ep,(hz:Int),(S.fs.length:Int)⟩:=by
   unfold gdH
   rw[hd,if_pos (hg 0 hp),hv]
  have h1:=ho (G 1) 1 hoth
  rw[h0]
  refine⟨if_neg (by show ¬ S.sr<_;omega),?_⟩
  rw[hd,hg 0 hp]
  rfl
 ·rw[hp] at hd hoth
  have h0:gdH (G 1) 1=⟨S.sr,S.ep,(hz:Int),(S.fs.length:Int)⟩:=by
   unfold gdH
   rw[hd,if_pos (hg 1 hp),hv]
  have h1:=ho (G 0) 0 hoth
  rw[h0]
  refine⟨if_pos h1,?_⟩
  rw[hd,hg 1 hp]
  simp


section
variable {ρ:Operand->Value}{w:World}{o:Oper}{x y:Operand}
end

section
variable {ρ:Operand->Value}{w:World}{o:Oper}{x y:Operand}{r k clock:Nat}{es:Array MapEntry}
theorem x_range (hm:w.heap[r]? = some (.map es clock)){T:TypeId}{kt et:TypeId}(hT:Tryz.prog.underlying T=some (.map kt et))(ho:o.op = .range T x)(h1:ρ x = .map (some r)):(execOp ρ o).run Tryz.prog w = .ok (.value (.pointer (some ⟨w.heap.size,0,none⟩))) (w.alloc (.mapIter (some r) clock #[] clock)):=by
 have:=run_range_map (P:=Tryz.prog) w T kt et r es clock hT hm
 simp only[execOp,ho,h1,Sem.run_bind,this,Result.andThen_ok,Sem.run_pure]
theorem x_next {v:Value}{w':World}(hr:(Instr.next (ρ x) false o.type).run Tryz.prog w = .ok v w')(ho:o.op = .next x false):(execOp ρ o).run Tryz.prog w = .ok (.value v) w':=by
 simp only[execOp,ho,Sem.run_bind,hr,Result.andThen_ok,Sem.run_pure]
theorem x_entry {v:Value}{w':World}(hr:(Instr.entry (ρ x)).run Tryz.prog w = .ok v w')(ho:o.op = .entry x):(execOp ρ o).run Tryz.prog w = .ok (.value v) w':=by
 simp only[execOp,ho,Sem.run_bind,hr,Result.andThen_ok,Sem.run_pure]
end
def IterAt (w:World)(r m since:Nat)(seen:Array Nat):Prop:=∃c0,w.heap[r]? = some (.mapIter (some m) since seen c0)/\since<=c0
theorem setBlock_below {w w1:World}{B r:Nat}{o:Obj}(h:w1=w∨w1=w.drew)(hr:B<=r):Below B w (ChangeMaps.setBlock w1 r o):=by
 rcases h with rfl|rfl
 ·exact⟨rfl,rfl,rfl,by simp[ChangeMaps.setBlock],fun k hk=>by simp[ChangeMaps.setBlock];rw[Array.getElem?_setIfInBounds_ne (by omega)];try rfl⟩
 ·exact⟨rfl,rfl,rfl,by simp[ChangeMaps.setBlock],fun k hk=>by simp[ChangeMaps.setBlock];rw[Array.getElem?_setIfInBounds_ne (by omega)];try rfl⟩
theorem iter_next {w:World}{r m since clock:Nat}{seen:Array Nat}{es:Array MapEntry}(ty:TypeId)(h:IterAt w r m since seen)(hm:w.heap[m]? = some (.map es clock))(hold:∀x∈es.toList,x.born<since)(hc:since<=clock)(hst:MapKept.Stamped es clock)(hne:m<r)(hr:r<w.heap.size) :
  ((∀x∈es.toList,seen.contains x.born=true)/\(Instr.next (.pointer (some ⟨r,0,none⟩)) false ty).run Tryz.prog w = .ok (.tuple #[.bool false]) w) ∨
  ∃e,∃w':World,e∈es.toList/\seen.contains e.born=false/\(Instr.next (.pointer (some ⟨r,0,none⟩)) false ty).run Tryz.prog w = .ok (.tuple #[.bool true,e.key,e.val]) w'/\IterAt w' r m since (seen.push e.born)/\Below r w w'/\w'.rangeLeft m r<w.rangeLeft m r /\
   (Instr.entry (.pointer (some ⟨r,0,none⟩))).run Tryz.prog w' = .ok (.tuple #[e.key,e.val]) w':=by
 obtain⟨c0,hi,hs⟩:=h
 rcases run_next_at (P:=Tryz.prog) w ty r m since c0 seen es clock hi hm hold hs with⟨h0,hrun⟩|⟨e,he,w1,hal,hrun⟩
 ·exact .inl ⟨all_seen es seen h0,hrun⟩
 ·obtain⟨hem,hes⟩:=mem_left he
  have hi1:w1.heap[r]? = some (.mapIter (some m) since seen c0):=by rcases hal with rfl|rfl<;>exact hi
  have hm1:w1.heap[m]? = some (.map es clock):=by rcases hal with rfl|rfl<;>exact hm
  have hset:=MapKept.heap_set (o':=.mapIter (some m) since (seen.push e.born) clock) hi1
  have hm2:(ChangeMaps.setBlock w1 r (.mapIter (some m) since (seen.push e.born) clock)).heap[m]? = some (.map es clock):=(hset.2 m (by omega)).trans hm1
  refine .inr ⟨e,_,hem,hes,hrun,⟨clock,hset.1,hc⟩,setBlock_below hal (zG _),?_,run_entry_at _ r m since seen es clock e hset.1 hm2 hem ((MapKept.stamped_iff es clock).1 hst).2.1⟩
  have e1:(ChangeMaps.setBlock w1 r (.mapIter (some m) since (seen.push e.born) clock)).rangeLeft m r=(leftOf es (seen.push e.born)).size:=by
   unfold World.rangeLeft
   have h1:(ChangeMaps.setBlock w1 r (.mapIter (some m) since (seen.push e.born) clock)).heap[r]? = _:=hset.1
   rw[hm2,h1]
  have e2:w.rangeLeft m r=(leftOf es seen).size:=by
   unfold World.rangeLeft
   rw[hm,hi]
  rw[e1,e2]
  exact left_shrinks es seen e he
def pgL (v:UInt8):List UInt8:=zR 512 v
theorem fill_nextP (v:UInt8)(k:Nat)(h:k<512):(zR k v++zR (512 - k) (0:UInt8)).set k v=zR (k+1) v++zR (512 - (k+1)) 0:=by
 rw[List.set_append_right _ _ (by simp)]
 have e:512 - k=(512 - (k+1))+1:=by omega
 rw[List.length_replicate,Nat.sub_self,e,List.replicate_succ,zF,List.replicate_succ',List.append_assoc]
 rfl
def pwC (v:Int×Option Addr×Nat):List Value:=[.int .i64 v.1,.slice v.2.1 512 v.2.2]
def pwsC (vs:List (Int×Option Addr×Nat)):List Value:=(vs.map pwC).flatten
theorem pwsC_snoc (vs:List (Int×Option Addr×Nat))(x:Int×Option Addr×Nat):pwsC (vs++[x])=pwsC vs++pwC x:=by simp[pwsC]
theorem pwsC_one (vs:List (Int×Option Addr×Nat)):∀v∈pwsC vs,v.oneCell'=true:=by
 intro v hv
 unfold pwsC at hv
 obtain⟨l,hl,hvl⟩:=List.mem_flatten.1 hv
 obtain⟨x,_,rfl⟩:=List.mem_map.1 hl
 simp[pwC] at hvl
 rcases hvl with rfl|rfl<;>rfl
theorem pwsC_get:∀(vs:List (Int×Option Addr×Nat)) (k:Nat) (h:k<vs.length) (j:Nat) (v:Value),(pwC vs[k])[j]? = some v->(pwsC vs)[k*2+j]? = some v
 | x::vs,0,_,j,v,hv=>by
  have hj:j<(pwC x).length:=(List.getElem?_eq_some_iff.1 hv).1
  have e:pwsC (x::vs)=pwC x++pwsC vs:=rfl
  rw[e,Nat.zero_mul,qK,List.getElem?_append_left hj]
  exact hv
 | x::vs,k+1,h,j,v,hv=>by
  have e:pwsC (x::vs)=pwC x++pwsC vs:=rfl
  have hl:(pwC x).length=2:=rfl
  rw[e,List.getElem?_append_right (by rw[hl];omega),hl,show (k+1)*2+j - 2=k*2+j by omega]
  exact pwsC_get vs k (by simpa using h) j v hv
theorem elPW:ElT 127 129 2 32 (.agg #[.int .i64 0,.slice none 0 0]):=⟨Tryz.underlying127,by kernel_rfl,by kernel_rfl,by decide⟩
def SmallR (w:World)(P:Prop)(e:Ending)(w':World):Prop:=∃r:Bool,e = .returned (.bool r)/\Below w.heap.size w w'/\(r=true↔P)
theorem SmallR.no {w w':World}{P:Prop}{e:Ending}(h:e = .returned (.bool false))(hB:Below w.heap.size w w')(hP:¬ P):SmallR w P e w':=⟨false,h,hB,(fun e=>by cases e),fun h=>absurd h hP⟩
def RstOut (s:DS)(S:LgS)(x:Int)(s':DS)(S':LgS):Prop :=
 ∃r,r=layD s (wrL ((S.sr+1) % 2) (hEnc (S.sr+1) (S.ep+1) S.sz 0) 1)/\x=r.2/\s'=r.1/\((x=0/\S'=⟨S.sr+1,S.ep+1,S.sz,[]⟩)∨(¬ x=0/\S'=S))
theorem resetR_gives (w:World)(l d many:Nat)(s:DS)(fr pg:Int)(sr ep:Nat)(sz:Int)(A:Option Addr)(n c:Nat)(R:DS×Int)(hR:layD s (wrL ((sr+1) % 2) (hEnc (sr+1) (ep+1) sz 0) 1)=R)(hD:DkS w d many s)(hO:s.Ok)(hl:s.xs.length<=800000)(hlg:BlkIs w l 104 (lgC (some ⟨d,0,none⟩) fr pg sr ep sz A n c))(hld:l≠d)(hok:headOk sz 0=true)(hm2:2<=many)(hmax:many<=1000000)(hsr:sr+1<18446744073709551616)(hep:ep+1<18446744073709551616) :
  Calls Tryz.prog 166 #[.pointer (some ⟨l,0,none⟩)] w fun e w'=>e = .returned (.int .i64 R.2)/\DkS w' d many R.1/\((R.2=0/\BlkIs w' l 104 (lgC (some ⟨d,0,none⟩) fr pg (sr+1) (ep+1) sz none 0 0))∨(¬ R.2=0/\BlkIs w' l 104 (lgC (some ⟨d,0,none⟩) fr pg sr ep sz A n c)))/\GrowBut (fun k=>k=d∨k=l) w w':=by
 have HN:=lnone_gives hlg
 have T3:∀W,BlkIs W l 104 (lgC (some ⟨d,0,none⟩) fr pg sr ep sz A n c)->W.cell? ⟨l,3,none⟩=some (.int .u64 (sr:Int)):=fun W hW=>by rw[hW.cell];rfl
 have T4:∀W,BlkIs W l 104 (lgC (some ⟨d,0,none⟩) fr pg sr ep sz A n c)->W.cell? ⟨l,4,none⟩=some (.int .u64 (ep:Int)):=fun W hW=>by rw[hW.cell];rfl
 have T5:∀W,BlkIs W l 104 (lgC (some ⟨d,0,none⟩) fr pg sr ep sz A n c)->W.cell? ⟨l,5,none⟩=some (.int .i64 sz):=fun W hW=>by rw[hW.cell];rfl
 have HL:=layS_gives w.drew l d many s (sr+1) (ep+1) sz 0 fr pg sr ep sz A n c (hD.grow (Below.refl _ _).drew) hO hl hlg.drew hld hok hm2 hmax
 rw[hR] at HL
 clear hR
 obtain⟨s6,z⟩:=R
 simp only at HL ⊢
 rw[show ((sr+1:Nat):Int)=(sr:Int)+1 by omega,show ((ep+1:Nat):Int)=(ep:Int)+1 by omega] at HL
 have hw1:IntKind.u64.wrap ((sr:Int)+1)=(sr:Int)+1:=by rw[IntKind.wrap_u64];omega
 have hw2:IntKind.u64.wrap ((ep:Int)+1)=(ep:Int)+1:=by rw[IntKind.wrap_u64];omega
 have hS0:=hlg.drew
 go_enter Tryz.func166,Tryz.ntmps166
 go_wp2_with (go_at_call 106;refine HN.mono ?_;rintro e w' ⟨rfl,rfl⟩)
 refine RegM.start (fun W=>BlkIs W l 104 (lgC (some ⟨d,0,none⟩) fr pg sr ep sz A n c)) [16,17] (by kernel_rfl) ?_
 refine RegM.take1 0 (.pointer (some ⟨l,0,none⟩)) rfl (by kernel_rfl) (by kernel_rfl) (by kernel_rfl) (by kernel_rfl) (by kernel_rfl) rfl (fun _ _ _ h=>h) hS0 (RegF.yld rfl (fun W hW=>by go_simp)) ?_
 simp only[zD,zB,Act.put,zA,zF,zE]
 refine RegM.take1 1 (.pointer (some ⟨l,0,none⟩)) rfl (by kernel_rfl) (by kernel_rfl) (by kernel_rfl) (by kernel_rfl) (by kernel_rfl) rfl (fun _ _ _ h=>h) hS0 (RegF.yld rfl (fun W hW=>by go_simp)) ?_
 simp only[zD,zC,zB,Act.put,zA,zF,zE]
 refine RegM.take1 2 (.pointer (some ⟨l,0,none⟩)) rfl (by kernel_rfl) (by kernel_rfl) (by kernel_rfl) (by kernel_rfl) (by kernel_rfl) rfl (fun _ _ _ h=>h) hS0 (RegF.yld rfl (fun W hW=>by go_simp)) ?_
 simp only[zD,zC,zB,Act.put,zA,zF,zE]
 refine RegM.take1 3 (.pointer (some ⟨l,3,none⟩)) rfl (by kernel_rfl) (by kernel_rfl) (by kernel_rfl) (by kernel_rfl) (by kernel_rfl) rfl (fun _ _ _ h=>h) hS0 (RegF.yld rfl (fun W hW=>by go_simp)) ?_
 simp only[zD,zC,zB,Act.put,zA,zF,zE]
 refine RegM.take1 4 (.int .u64 (sr:Int)) rfl (by kernel_rfl) (by kernel_rfl) (by kernel_rfl) (by kernel_rfl) (by kernel_rfl) rfl (fun _ _ _ h=>h) hS0 (RegF.yld rfl (fun W hW=>by have q:=T3 W hW;go_simp)) ?_
 simp only[zD,zC,zB,Act.put,zA,zF,zE]
 refine RegM.take1 5 (.int .u64 ((sr:Int)+1)) rfl (by kernel_rfl) (by kernel_rfl) (by kernel_rfl) (by kernel_rfl) (by kernel_rfl) rfl (fun _ _ _ h=>h) hS0 (RegF.yld rfl (fun W hW=>by go_simp)) ?_
 simp only[zD,zC,zB,Act.put,zA,zF,zE]
 refine RegM.take1 6 (.pointer (some ⟨l,0,none⟩)) rfl (by kernel_rfl) (by kernel_rfl) (by kernel_rfl) (by kernel_rfl) (by kernel_rfl) rfl (fun _ _ _ h=>h) hS0 (RegF.yld rfl (fun W hW=>by go_simp)) ?_
 simp only[zD,zC,zB,Act.put,zA,zF,zE]
 refine RegM.take1 7 (.pointer (some ⟨l,0,none⟩)) rfl (by kernel_rfl) (by kernel_rfl) (by kernel_rfl) (by kernel_rfl) (by kernel_rfl) rfl (fun _ _ _ h=>h) hS0 (RegF.yld rfl (fun W hW=>by go_simp)) ?_
 simp only[zD,zC,zB,Act.put,zA,zF,zE]
 refine RegM.take1 8 (.pointer (some ⟨l,4,none⟩)) rfl (by kernel_rfl) (by kernel_rfl) (by kernel_rfl) (by kernel_rfl) (by kernel_rfl) rfl (fun _ _ _ h=>h) hS0 (RegF.yld rfl (fun W hW=>by go_simp)) ?_
 simp only[zD,zC,zB,Act.put,zA,zF,zE]
 refine RegM.take1 9 (.int .u64 (ep:Int)) rfl (by kernel_rfl) (by kernel_rfl) (by kernel_rfl) (by kernel_rfl) (by kernel_rfl) rfl (fun _ _ _ h=>h) hS0 (RegF.yld rfl (fun W hW=>by have q:=T4 W hW;go_simp)) ?_
 simp only[zD,zC,zB,Act.put,zA,zF,zE]
 refine RegM.take1 10 (.int .u64 ((ep:Int)+1)) rfl (by kernel_rfl) (by kernel_rfl) (by kernel_rfl) (by kernel_rfl) (by kernel_rfl) rfl (fun _ _ _ h=>h) hS0 (RegF.yld rfl (fun W hW=>by go_simp)) ?_
 simp only[zD,zC,zB,Act.put,zA,zF,zE]
 refine RegM.take1 11 (.pointer (some ⟨l,0,none⟩)) rfl (by kernel_rfl) (by kernel_rfl) (by kernel_rfl) (by kernel_rfl) (by kernel_rfl) rfl (fun _ _ _ h=>h) hS0 (RegF.yld rfl (fun W hW=>by go_simp)) ?_
 simp only[zD,zC,zB,Act.put,zA,zF,zE]
 refine RegM.take1 12 (.pointer (some ⟨l,0,none⟩)) rfl (by kernel_rfl) (by kernel_rfl) (by kernel_rfl) (by kernel_rfl) (by kernel_rfl) rfl (fun _ _ _ h=>h) hS0 (RegF.yld rfl (fun W hW=>by go_simp)) ?_
 simp only[zD,zC,zB,Act.put,zA,zF,zE]
 refine RegM.take1 13 (.pointer (some ⟨l,5,none⟩)) rfl (by kernel_rfl) (by kernel_rfl) (by kernel_rfl) (by kernel_rfl) (by kernel_rfl) rfl (fun _ _ _ h=>h) hS0 (RegF.yld rfl (fun W hW=>by go_simp)) ?_
 simp only[zD,zC,zB,Act.put,zA,zF,zE]
 refine RegM.take1 14 (.int .i64 sz) rfl (by kernel_rfl) (by kernel_rfl) (by kernel_rfl) (by kernel_rfl) (by kernel_rfl) rfl (fun _ _ _ h=>h) hS0 (RegF.yld rfl (fun W hW=>by have q:=T5 W hW;go_simp)) ?_
 simp only[zD,zC,zB,Act.put,zA,zF,zE]
 refine RegM.take1 15 (.agg #[.int .u64 ((sr:Int)+1),.int .u64 ((ep:Int)+1),.int .i64 sz,.int .i64 0]) rfl (by kernel_rfl) (by kernel_rfl) (by kernel_rfl) (by kernel_rfl) (by kernel_rfl) rfl (fun _ _ _ h=>h) hS0 (RegF.yld rfl (fun W hW=>by go_simp)) ?_
 simp only[zD,zC,zB,Act.put,zA,zF,zE]
 refine RegM.one 16 (by kernel_rfl) ?_
 refine RegF.opC 60 #[.tmp 6,.tmp 21] #[71,106] rfl rfl rfl (enters_of Tryz.func60 (by kernel_rfl) rfl) #[.pointer (some ⟨l,0,none⟩),.agg #[.int .u64 ((sr:Int)+1),.int .u64 ((ep:Int)+1),.int .i64 sz,.int .i64 0]] (by simp only[zJ,zK,zL];rfl) (HL.mono ?_)
 rintro e w2 ⟨rfl,hD2,⟨sr',ep',hq,hb2⟩,hG2⟩
 refine⟨_,rfl,fun h=>(by cases h),?_⟩
 simp only[zD,zC,zB,Act.put,zA,zF,zE]
 refine RegM.one 17 (by kernel_rfl) (RegF.opV (w':=w2) (.int .i64 z) rfl rfl (by go_simp) ⟨fun h=>(by cases h),RegM.done (by kernel_rfl) ?_⟩)
 simp only[zD,zC,zB,Act.put,zA,zF,zE]
 have hG3:GrowBut (fun k=>k=d∨k=l) w w2:=(GrowBut.grown (grownBy_drew w none) (fun r e=>by cases e)).trans hG2
 have k6:w2.cell? ⟨l,6,none⟩=some (.slice A n c):=by rw[hb2.cell];rfl
 have f6:=hb2.free 6
 clear HL HN T3 T4 T5 hS0
 rcases hq with⟨rfl,rfl,rfl⟩|⟨hz,rfl,rfl⟩
 ·have hb3:BlkIs (w2.setCell ⟨l,6,none⟩ (.slice none 0 0)) l 104 (lgC (some ⟨d,0,none⟩) fr pg (sr+1) (ep+1) sz none 0 0):=hb2.set 6 _
  have hD3:DkS (w2.setCell ⟨l,6,none⟩ (.slice none 0 0)) d many s6:=DkIs.setOther hD2 hb2 (by show 7<=64;decide) (fun e=>hld e.symm) ⟨l,6,none⟩ (.slice none 0 0) rfl
  have hG4:GrowBut (fun k=>k=d∨k=l) w (w2.setCell ⟨l,6,none⟩ (.slice none 0 0)):=hG3.trans (GrowBut.setCell _ _ _ (.inr rfl))
  go_wp2
  go_ret
  exact⟨rfl,hD3,hb3,hG4⟩
 ·go_wp2
  go_ret
  exact⟨rfl,hD2,.inr ⟨hz,hb2⟩,hG3⟩
theorem reset_gives (w:World)(l d many:Nat)(s:DS)(fr pg:Int)(S:LgS)(hL:LogIs w l d fr pg S)(hD:DkS w d many s)(hO:s.Ok)(hl:s.xs.length<=800000)(hz:0<=S.sz/\S.sz<=2000)(hm2:2<=many)(hmax:many<=1000000)(hsr:S.sr+1<18446744073709551616)(hep:S.ep+1<18446744073709551616) :
  Calls Tryz.prog 166 #[.pointer (some ⟨l,0,none⟩)] w fun e w'=>∃x s' S',e = .returned (.int .i64 x)/\RstOut s S x s' S'/\DkS w' d many s'/\LogIs w' l d fr pg S'/\GrowBut (fun k=>k=d∨k=l) w w':=by
 obtain⟨hld,A,c,vs,hlg,hF,hvs⟩:=hL
 refine(resetR_gives w l d many s fr pg S.sr S.ep S.sz A vs.length c _ rfl hD hO hl hlg hld (headOk_of hz.1 hz.2 (by omega) (by omega)) hm2 hmax hsr hep).mono ?_
 rintro e w' ⟨rfl,hD2,h,hG⟩
 rcases h with⟨hx,hb⟩|⟨hx,hb⟩
 ·exact⟨_,_,_,rfl,⟨_,rfl,rfl,rfl,.inl ⟨hx,rfl⟩⟩,hD2,⟨hld,none,0,[],hb,FrsIs.mt _ _,rfl⟩,hG⟩
 ·exact⟨_,_,_,rfl,⟨_,rfl,rfl,rfl,.inr ⟨hx,rfl⟩⟩,hD2,⟨hld,A,c,vs,hb,hF.keep hG (fun k h _=>h),hvs⟩,hG⟩
def hdS2 (l:List UInt8):Nat:=rfix ((l.drop 28).take 8)
theorem headW_mid (s e z c:Nat):((headW s e z c).drop 28).take 24=headB s e z c:=by have:=twiceB_mid (headB s e z c);rw[headB_length] at this;exact this
theorem take_mid (l:List UInt8)(k:Nat):(l.drop k).take 8=((l.drop k).take 24).take 8:=by rw[List.take_take];rfl
theorem hdS2_headW {s e z c:Nat}(hs:s<2 ^ 64)(he:e<2 ^ 64)(hz:z<=2000)(hc:c<=2000):hdS2 (headW s e z c)=s:=by
 have h:=(headB_read hs he (show z<2 ^ 32 by omega) (show c<2 ^ 32 by omega) []).1
 unfold hdS2
 rw[take_mid,headW_mid]
 rw[List.append_nil] at h
 exact h
theorem secsOf_away {G H:Nat->List UInt8}(a:Nat):∀m,(∀k,a<=k->k<a+m->H k=G k)->secsOf H a m=secsOf G a m
 | 0,_=>rfl
 | m+1,h=>by
  show secsOf H a m++H (a+m)=secsOf G a m++G (a+m)
  rw[secsOf_away a m (fun k h1 h2=>h k h1 (by omega)),h (a+m) (by omega) (by omega)]
theorem wrL_first {a m:Nat}{b:List UInt8}{x:Nat×List UInt8}(h:x∈wrL a b m):a<=x.1/\x.1<a+m:=by
 unfold wrL at h
 obtain⟨i,hi,rfl⟩:=List.mem_map.1 h
 have:=List.mem_range.1 hi
 exact⟨by simp,by simp;omega⟩
theorem secsOf_wrL (G:Nat->List UInt8)(a:Nat)(b:List UInt8):∀m,64*m<=b.length->secsOf (laid G (wrL a b m)) a m=b.take (64*m)
 | 0,_=>by simp[secsOf]
 | m+1,hm=>by
  have e1:laid G (wrL a b (m+1))=laid G (wrL a b m++[(a+m,chunkB b m)]):=by rw[wrL_next]
  show secsOf (laid G (wrL a b (m+1))) a m++laid G (wrL a b (m+1)) (a+m)=_
  rw[e1,laid_one,if_pos rfl]
  have e2:secsOf (laid G (wrL a b m++[(a+m,chunkB b m)])) a m=secsOf (laid G (wrL a b m)) a m :=
   secsOf_away a m (fun k h1 h2=>by rw[laid_one,if_neg (by omega)])
  rw[e2,secsOf_wrL G a b m (by omega)]
  unfold chunkB
  rw[show 64*(m+1)=64*m+64 by omega,List.take_add]
theorem FrP.sum_lt (x:FrP):x.sum<2 ^ 32:=by
 unfold FrP.sum fSum
 split
 ·exact sumL_lt _
 ·decide
theorem linkOf_lt (fs:List FrP):linkOf fs<2 ^ 32:=by
 unfold linkOf
 split
 ·exact FrP.sum_lt _
 ·decide
def OkF (ep:Nat)(fs:List FrP):Prop:=∀j (h:j<fs.length),(fs[j]).e=ep/\(fs[j]).i=(j:Int)/\frOk (fs[j]).y.length (fs[j]).i (fs[j]).p (fs[j]).f (fs[j]).z=true/\(fs[j]).n=linkOf (fs.take j)/\(fs[j]).n<2 ^ 32
theorem OkF.snoc {ep:Nat}{fs:List FrP}(h:OkF ep fs){x:FrP}(hx:x.e=ep/\x.i=(fs.length:Int)/\frOk x.y.length x.i x.p x.f x.z=true/\x.n=linkOf fs):OkF ep (fs++[x]):=fun j hj=>by
 by_cases hlt:j<fs.length
 ·rw[List.getElem_append_left hlt,List.take_append_of_le_length (by omega)]
  exact h j hlt
 ·have hj2:j=fs.length:=by simp at hj;omega
  subst hj2
  rw[List.getElem_append_right (zG _)]
  simp only[Nat.sub_self,zB,List.take_left']
  obtain⟨h1,h2,h3,h4⟩:=hx
  exact⟨h1,h2,h3,h4,by rw[h4];exact linkOf_lt _⟩
structure PwOk (pg z:Int)(n:Nat)(pw:Nat->Int×List UInt8):Prop where
 page:∀k,k<n->0<=(pw k).1/\(pw k).1<pg
 len:∀k,k<n->(pw k).2.length=512
 lo:0<=z
 hi:z<=pg
theorem addK_ok {ep:Nat}{z pg:Int}{fs:List FrP}{n:Nat}{pw:Nat->Int×List UInt8}(h:OkF ep fs)(hp:PwOk pg z n pw)(hpg:pg<=2000)(hl:fs.length+n<=2000):∀k,k<=n->OkF ep (addK ep z fs n pw k)
 | 0,_=>h
 | k+1,hk=>by
  unfold addK
  have hlen:=addK_length ep z fs n pw k
  refine(addK_ok h hp hpg hl k (by omega)).snoc ⟨rfl,rfl,(frOk_iff _ _ _ _ _).2 ?_,rfl⟩
  have h1:=hp.page k (by omega)
  have h2:=hp.len k (by omega)
  have h3:=hp.lo
  have h4:=hp.hi
  simp only[newF,hlen]
  refine⟨h2,⟨by omega,by omega⟩,⟨by omega,by omega⟩,?_,?_⟩
  ·split<;>constructor<;>omega
  ·by_cases hkn:k+1=n
   ·exact .inl (by simp[hkn])
   ·exact .inr (by simp[hkn])
theorem addK_head (ep:Nat)(z:Int)(fs:List FrP)(n:Nat)(pw:Nat->Int×List UInt8):∀k,∃r,addK ep z fs n pw k=fs++r
 | 0=>⟨[],by simp[addK]⟩
 | k+1=>by
  obtain⟨r,hr⟩:=addK_head ep z fs n pw k
  exact⟨r++[newF ep z (addK ep z fs n pw k) (pw k) (decide (k+1=n))],by
   show addK ep z fs n pw k++[newF ep z (addK ep z fs n pw k) (pw k) (decide (k+1=n))]=_
   rw[<-List.append_assoc,<-hr]⟩
theorem addK_last {ep:Nat}{z:Int}{fs:List FrP}{n:Nat}{pw:Nat->Int×List UInt8}(hn:1<=n):∃x,(addK ep z fs n pw n).getLast? = some x/\x.f=true/\x.z=z:=by
 obtain⟨k,rfl⟩:∃k,n=k+1:=⟨n - 1,by omega⟩
 refine⟨newF ep z (addK ep z fs (k+1) pw k) (pw k) (decide (k+1=k+1)),?_,by simp[newF],by simp[newF]⟩
 show (addK ep z fs (k+1) pw k++[newF ep z (addK ep z fs (k+1) pw k) (pw k) (decide (k+1=k+1))]).getLast? = _
 exact List.getLast?_concat
theorem frsW_first {ep:Nat}{fs:List FrP}(h:OkF ep fs)(k:Nat):∀x∈frsW (fs.drop k),2+9*k<=x.1/\x.1<2+9*fs.length:=by
 intro x hx
 unfold frsW at hx
 obtain⟨l,hl,hxl⟩:=List.mem_flatten.1 hx
 obtain⟨f,hf,rfl⟩:=List.mem_map.1 hl
 obtain⟨j,hj,rfl⟩:=List.getElem_of_mem hf
 rw[List.length_drop] at hj
 rw[List.getElem_drop] at hxl
 have hi:=(h (k+j) (by omega)).2.1
 have:=wrL_first hxl
 rw[hi] at this
 simp only[Int.toNat_natCast] at this
 omega
theorem lies_new {ep:Nat}{fs:List FrP}(h:OkF ep fs)(G:Nat->List UInt8):∀m k,k+m=fs.length->∀j (hj:j<fs.length),k<=j->secsOf (laid G (frsW (fs.drop k))) (2+9*j) 9=(fs[j]).enc
 | 0,k,hk,j,hj,hkj=>absurd hj (by omega)
 | m+1,k,hk,j,hj,hkj=>by
  rw[frsW_drop fs k (by omega),laid_app]
  by_cases hkj2:k=j
  ·subst hkj2
   obtain⟨h1,h2,h3,h4,h5⟩:=h k hj
   have hl:=FrP.enc_length h3
   have e0:secsOf (laid (laid G (frW fs[k])) (frsW (fs.drop (k+1)))) (2+9*k) 9=secsOf (laid G (frW fs[k])) (2+9*k) 9 :=
    secsOf_away _ 9 (fun q h1 h2=>laid_away _ _ q (fun x hx=>by have:=frsW_first h (k+1) x hx;omega))
   rw[e0]
   have ek:((fs[k]).i).toNat=k:=by rw[h2];simp
   have ef:fEnc (fs[k]).e (fs[k]).i (fs[k]).p (fs[k]).f (fs[k]).z (fs[k]).n (fs[k]).y=(fs[k]).enc:=by
    unfold fEnc FrP.enc
    rw[if_pos h3]
   unfold frW
   rw[ek,ef,secsOf_wrL G (2+9*k) (fs[k]).enc 9 (by omega),qA (by omega)]
  ·exact lies_new h _ m (k+1) (by omega) j hj (by omega)
theorem FrOn.away {G H:Nat->List UInt8}{ep:Nat}{fs:List FrP}(h:FrOn G ep fs)(hG:∀k,2<=k->k<2+9*fs.length->H k=G k):FrOn H ep fs :=
 ⟨fun j hj=>(secsOf_away _ 9 (fun k h1 h2=>hG k (by omega) (by omega))).trans (h.lies j hj),h.ok,h.last⟩
theorem FrOn.more {G:Nat->List UInt8}{ep:Nat}{fs:List FrP}(h:FrOn G ep fs){z pg:Int}{n:Nat}{pw:Nat->Int×List UInt8}(hp:PwOk pg z n pw)(hpg:pg<=2000)(hl:fs.length+n<=2000)(hn:1<=n) :
  FrOn (laid G (frsW ((addK ep z fs n pw n).drop fs.length))) ep (addK ep z fs n pw n):=by
 have hO:=addK_ok h.ok hp hpg hl n (zG _)
 have hlen:=addK_length ep z fs n pw n
 refine⟨fun j hj => ?_,hO,fun x hx => ?_⟩
 ·by_cases hlt:j<fs.length
  ·obtain⟨r,hr⟩:=addK_head ep z fs n pw n
   have e1:(addK ep z fs n pw n)[j]=fs[j]:=by
    have:(fs++r)[j]'(by simp;omega)=fs[j]:=List.getElem_append_left hlt
    rw[<-this]
    congr 1
   rw[e1,<-h.lies j hlt]
   exact secsOf_away _ 9 (fun k h1 h2=>laid_away _ _ k (fun x hx=>by have:=frsW_first hO fs.length x hx;omega))
  ·exact lies_new hO G n fs.length (by omega) j hj (by omega)
 ·obtain⟨y,hy,hf,_⟩:=addK_last (ep:=ep) (z:=z) (fs:=fs) (pw:=pw) hn
  rw[hx] at hy
  injection hy with hy
  rw[hy]
  exact hf
structure LI (G:Nat->List UInt8)(S:LgS)(hz:Nat):Prop where
 on:LogOn G S hz
 len:∀k,(G k).length=64
 old:hdS2 (G (1 - S.sr % 2))<S.sr
theorem headL_one {s e:Nat}{z c:Int}(hz:0<=z/\z<=2000)(hc:0<=c/\c<=2000):wrL (s % 2) (hEnc s e z c) 1=[(s % 2,headW s e z.toNat c.toNat)]:=by
 unfold hEnc
 rw[if_pos (headOk_of hz.1 hz.2 hc.1 hc.2)]
 show [(s % 2+0,chunkB (headW s e z.toNat c.toNat) 0)]=_
 unfold chunkB
 rw[Nat.mul_zero,List.drop_zero,qA (by rw[headW_length];exact zG _)]
 rfl
theorem LI.away {G H:Nat->List UInt8}{S:LgS}{hz:Nat}(h:LI G S hz)(hG:∀k,k<2+9*S.fs.length->H k=G k)(hl:∀k,(H k).length=64):LI H S hz:=by
 have e0:=hG (S.sr % 2) (by omega)
 have e1:=hG (1 - S.sr % 2) (by omega)
 obtain⟨⟨h1,h2,h3,h4,h5,h6,h7,h8,h9⟩,h10,h11⟩:=h
 exact⟨⟨by rw[e0];exact h1,h2,h3,h4,h5,h6,by rw[e1];exact h7,h8,h9.away (fun k _ hk=>hG k hk)⟩,hl,by rw[e1];exact h11⟩
theorem LI.next {G G1:Nat->List UInt8}{S:LgS}{hz:Nat}(h:LI G S hz)(hG:∀k,k<2->G1 k=G k)(hl:∀k,(G1 k).length=64){ep:Nat}{z:Int}{fs:List FrP}(hF:FrOn G1 ep fs)(hsr:S.sr+1<2 ^ 64)(hep:ep<2 ^ 64)(hs:0<=S.sz/\S.sz<=2000)(hfl:fs.length<=2000)(hzz:z=szOf S.sz fs) :
  LI (laid G1 [((S.sr+1) % 2,headW (S.sr+1) ep S.sz.toNat fs.length)]) ⟨S.sr+1,ep,z,fs⟩ S.sz.toNat:=by
 have hL:∀k,laid G1 [((S.sr+1) % 2,headW (S.sr+1) ep S.sz.toNat fs.length)] k=if k=(S.sr+1) % 2 then headW (S.sr+1) ep S.sz.toNat fs.length else G1 k:=fun k=>laid_one G1 [] _ _ k
 have ho:1 - (S.sr+1) % 2=S.sr % 2:=by omega
 have hq:¬ (S.sr % 2=(S.sr+1) % 2):=by omega
 have hd:=h.on.hd
 have hr:=headW_read h.on.sr h.on.ep h.on.hzl h.on.hn
 refine⟨⟨?_,hsr,hep,by show S.sz.toNat<=2000;omega,hfl,by show 1<=S.sr+1;omega,?_,?_,?_⟩,?_,?_⟩
 ·simp only[hL,if_pos]
 ·intro _
  simp only[ho,hL,if_neg hq]
  rw[hG _ (by omega),hd,hr.1]
  omega
 ·show z=szOf ((S.sz.toNat:Nat):Int) fs
  rw[show ((S.sz.toNat:Nat):Int)=S.sz by omega]
  exact hzz
 ·exact hF.away (fun k h2 _=>by rw[hL,if_neg (by omega)])
 ·intro k
  rw[hL]
  split
  ·exact headW_length _ _ _ _
  ·exact hl k
 ·simp only[ho,hL,if_neg hq]
  rw[hG _ (by omega),hd,hdS2_headW h.on.sr h.on.ep h.on.hzl h.on.hn]
  omega
theorem wrs_free:∀(L:List (Nat×List UInt8)) (s:DS),s.st=false->wrs s L=(⟨s.g,s.xs++L,s.left,s.st⟩,0)
 | [],s,_=>by simp[wrs]
 | x::r,s,h=>by
  have hs:s.stopped=false:=by unfold DS.stopped;rw[h];rfl
  rw[wrs_cons_ok hs,wrs_free r (s.push x) h]
  unfold DS.push
  simp only[List.append_assoc,List.singleton_append,h]
  rfl
theorem syn_free {s:DS}(h:s.st=false):synD s=(⟨laid s.g s.xs,[],s.left,s.st⟩,0):=by
 have hs:s.stopped=false:=by unfold DS.stopped;rw[h];rfl
 unfold synD
 rw[hs,h]
 rfl
theorem layD_free {s:DS}(h:s.st=false)(L:List (Nat×List UInt8)):layD s L=(⟨laid s.g (s.xs++L),[],s.left,s.st⟩,0):=by
 unfold layD
 rw[wrs_free L s h]
 simp only[if_true]
 exact syn_free h
theorem appD_free {s:DS}(h:s.st=false)(L1 L2:List (Nat×List UInt8)):appD s L1 L2=(⟨laid (laid s.g (s.xs++L1)) L2,[],s.left,s.st⟩,0):=by
 unfold appD
 rw[wrs_free L1 s h]
 simp only[if_true]
 have e1:synD ⟨s.g,s.xs++L1,s.left,s.st⟩=(⟨laid s.g (s.xs++L1),[],s.left,s.st⟩,0):=syn_free h
 have e2:=layD_free (s:=⟨laid s.g (s.xs++L1),[],s.left,s.st⟩) h L2
 rw[e1]
 simp only[if_true]
 rw[e2]
 rfl
theorem wrs_mem:∀(L:List (Nat×List UInt8)) (s:DS),∀x∈(wrs s L).1.xs,x∈s.xs∨x∈L
 | [],s,x,h => .inl h
 | y::r,s,x,h=>by
  cases hs:s.stopped
  ·rw[wrs_cons_ok hs] at h
   rcases wrs_mem r (s.push y) x h with h|h
   ·rcases List.mem_append.1 h with h|h
    ·exact .inl h
    ·exact .inr (by rw[List.mem_singleton.1 h];exact List.mem_cons_self)
   ·exact .inr (List.mem_cons_of_mem _ h)
  ·rw[wrs_cons_bad hs] at h
   exact .inl h
theorem wrL_wide {a m:Nat}{b:List UInt8}(h:64*m<=b.length):Wide (wrL a b m):=by
 intro x hx
 unfold wrL at hx
 obtain⟨i,hi,rfl⟩:=List.mem_map.1 hx
 have:=List.mem_range.1 hi
 show (chunkB b i).length=64
 unfold chunkB
 rw[List.length_take,List.length_drop]
 omega
theorem frsW_wide {ep:Nat}{fs:List FrP}(h:OkF ep fs)(k:Nat):Wide (frsW (fs.drop k)):=by
 intro x hx
 unfold frsW at hx
 obtain⟨l,hl,hxl⟩:=List.mem_flatten.1 hx
 obtain⟨f,hf,rfl⟩:=List.mem_map.1 hl
 obtain⟨j,hj,rfl⟩:=List.getElem_of_mem hf
 rw[List.length_drop] at hj
 rw[List.getElem_drop] at hxl
 have h3:=(h (k+j) (by omega)).2.2.1
 have hl:=FrP.enc_length h3
 have ef:fEnc (fs[k+j]).e (fs[k+j]).i (fs[k+j]).p (fs[k+j]).f (fs[k+j]).z (fs[k+j]).n (fs[k+j]).y=(fs[k+j]).enc:=by
  unfold fEnc FrP.enc
  rw[if_pos h3]
 refine wrL_wide (m:=9) ?_ x hxl
 rw[ef,hl]
 exact zG _
def newS (S:LgS)(z:Int)(n:Nat)(pw:Nat->Int×List UInt8):LgS:=⟨S.sr+1,S.ep,z,addK S.ep z S.fs n pw n⟩
section
variable {G:Nat->List UInt8}{S:LgS}{hz:Nat}{z pg:Int}{n:Nat}{pw:Nat->Int×List UInt8}
theorem LI.more (h:LI G S hz)(hp:PwOk pg z n pw)(hpg:pg<=2000)(hl:S.fs.length+n<=2000)(hn:1<=n)(hsr:S.sr+1<2 ^ 64)(hs:0<=S.sz/\S.sz<=2000) :
  (∀k,k<2+9*S.fs.length->laid G (frsW ((addK S.ep z S.fs n pw n).drop S.fs.length)) k=G k)/\(∀k,(laid G (frsW ((addK S.ep z S.fs n pw n).drop S.fs.length)) k).length=64) /\
  wrL ((S.sr+1) % 2) (hEnc (S.sr+1) S.ep S.sz ((addK S.ep z S.fs n pw n).length:Int)) 1=[((S.sr+1) % 2,headW (S.sr+1) S.ep S.sz.toNat (addK S.ep z S.fs n pw n).length)] /\
  LI (laid (laid G (frsW ((addK S.ep z S.fs n pw n).drop S.fs.length))) [((S.sr+1) % 2,headW (S.sr+1) S.ep S.sz.toNat (addK S.ep z S.fs n pw n).length)]) (newS S z n pw) S.sz.toNat:=by
 have hO:=addK_ok h.on.fr.ok hp hpg hl n (zG _)
 have hlen:=addK_length S.ep z S.fs n pw n
 have h1:∀k,k<2+9*S.fs.length->laid G (frsW ((addK S.ep z S.fs n pw n).drop S.fs.length)) k=G k:=fun k hk=>laid_away _ _ k (fun x hx=>by have:=frsW_first hO S.fs.length x hx;omega)
 have h2:∀k,(laid G (frsW ((addK S.ep z S.fs n pw n).drop S.fs.length)) k).length=64:=laid_len _ G h.len (frsW_wide hO S.fs.length)
 refine⟨h1,h2,?_,h.next (fun k hk=>h1 k (by omega)) h2 (h.on.fr.more hp hpg hl hn) hsr h.on.ep hs (by omega) ?_⟩
 ·rw[headL_one hs ⟨by omega,by omega⟩]
  rfl
 ·obtain⟨x,hx,_,hxz⟩:=addK_last (ep:=S.ep) (z:=z) (fs:=S.fs) (n:=n) (pw:=pw) hn
  unfold szOf
  rw[hx]
  exact hxz.symm
theorem LI.append (h:LI G S hz)(hp:PwOk pg z n pw)(hpg:pg<=2000)(hl:S.fs.length+n<=2000)(hn:1<=n)(hsr:S.sr+1<2 ^ 64)(hs:0<=S.sz/\S.sz<=2000)(left:Int) :
  ∃G2,appD ⟨G,[],left,false⟩ (frsW ((addK S.ep z S.fs n pw n).drop S.fs.length)) (wrL ((S.sr+1) % 2) (hEnc (S.sr+1) S.ep S.sz ((addK S.ep z S.fs n pw n).length:Int)) 1)=(⟨G2,[],left,false⟩,0)/\LI G2 (newS S z n pw) S.sz.toNat:=by
 obtain⟨_,_,h3,h4⟩:=h.more hp hpg hl hn hsr hs
 refine⟨_,appD_free rfl _ _,?_⟩
 rw[h3]
 exact h4
theorem LI.reset (h:LI G S hz)(hsr:S.sr+1<2 ^ 64)(hep:S.ep+1<2 ^ 64)(hs:0<=S.sz/\S.sz<=2000)(left:Int) :
  ∃G2,layD ⟨G,[],left,false⟩ (wrL ((S.sr+1) % 2) (hEnc (S.sr+1) (S.ep+1) S.sz 0) 1)=(⟨G2,[],left,false⟩,0)/\LI G2 ⟨S.sr+1,S.ep+1,S.sz,[]⟩ S.sz.toNat:=by
 refine⟨_,layD_free rfl _,?_⟩
 rw[headL_one hs ⟨by omega,by omega⟩]
 have hF:FrOn G (S.ep+1) []:=⟨fun j hj=>absurd hj (Nat.not_lt_zero j),fun j hj=>absurd hj (Nat.not_lt_zero j),fun x hx=>by cases hx⟩
 have h5:=h.next (fun _ _=>rfl) h.len hF hsr hep hs (Nat.zero_le _) (show S.sz=szOf S.sz [] from rfl)
 rw[show ([]:List FrP).length=(0:Int).toNat from rfl] at h5
 exact h5
end
theorem open_newG (w:World)(fr pg:Int)(d many:Nat)(left:Int)(hD:DkIs w d many (fun _=>zer64) [] left false)(hok:planOk fr pg=true)(hm:(many:Int)=2+9*fr+8*pg)(hmax:many<=1000000)(h1l : -1000000<=left)(h2l:left<=9223372036854775807) :
  Calls Tryz.prog 31 #[.pointer (some ⟨d,0,none⟩),.agg #[.int .i64 fr,.int .i64 pg]] w fun e w'=>∃l,e = .returned (.tuple #[.pointer (some ⟨l,0,none⟩),.int .i64 0])/\w.heap.size<=l/\DkIs w' d many (laid (fun _=>zer64) (wrL 1 (hEnc 1 1 0 0) 1)) [] left false/\BlkIs w' l 104 (lgC (some ⟨d,0,none⟩) fr pg 1 1 0 none 0 0)/\w.grownBy w' (some d):=by
 have hpl:=(planOk_iff fr pg).1 hok
 have hB0:Below w.heap.size w (w.alloc (.cells #[.int .i64 fr,.int .i64 pg] 25)):=(Below.refl _ w).alloc (zG _) _
 have b0:=BlkIs.new w 25 #[.int .i64 fr,.int .i64 pg]
 have HS:=sectors_gives fr pg (w.alloc (.cells #[.int .i64 fr,.int .i64 pg] 25))
 have hp0:plE (planOk fr pg) 0 1=0:=by rw[hok];rfl
 unfold atV at HS
 rw[hp0,if_pos rfl,<-hm] at HS
 have hm0:¬ (many:Int)=0:=by omega
 have hdl:=hD.lt
 have hz1:∀v∈zhd.toArray.toList,v.oneCell'=true:=by
  intro v hv
  simp[zhd] at hv
  rcases hv with rfl|rfl<;>rfl
 have hz2:∀v∈(#[.int .u64 1,.int .u64 1,.int .i64 0,.int .i64 0]:Array Value).toList,v.oneCell'=true:=by
  intro v hv
  simp at hv
  rcases hv with rfl|rfl<;>rfl
 have hm2:2<=many:=by omega
 clear hm hok
 go_enter Tryz.func31,Tryz.ntmps31
 go_wp2_with fail
 refine wp_scope_straight ?_
 go_wp2_with (first
  | (refine wp_loadW rfl 25 (.tmp 3) rfl w.heap.size rfl rowPlan b0 rfl ?_)
  | (go_at_call 57;refine HS.mono ?_;rintro e w1 ⟨rfl,hB1⟩;have b1:=b0.below hB1 b0.lt;have k0:w1.cell? ⟨w.heap.size,0,none⟩=some (.int .i64 fr):=(by rw[b1.cell];rfl);have k1:w1.cell? ⟨w.heap.size,1,none⟩=some (.int .i64 pg):=(by rw[b1.cell];rfl);have hB01:=hB0.trans (hB1.mono hB0.size);have hs1:=hB01.size;have hB03:Below w.heap.size w ((w1.alloc (.cells #[.pointer (some ⟨d,0,none⟩),.int .i64 fr,.int .i64 pg,.int .u64 0,.int .u64 0,.int .i64 0,.slice none 0 0] 104)).alloc (.cells #[.int .u64 0,.int .u64 0,.int .i64 0,.int .i64 0] 106)):=(hB01.alloc hB01.size _).alloc (by have:=hB01.size;simp;omega) _;have hD3:=hD.grow hB03;have HL:=len_gives _ d many _ [] left false hD3;have bl:BlkIs ((w1.alloc (.cells #[.pointer (some ⟨d,0,none⟩),.int .i64 fr,.int .i64 pg,.int .u64 0,.int .u64 0,.int .i64 0,.slice none 0 0] 104)).alloc (.cells #[.int .u64 0,.int .u64 0,.int .i64 0,.int .i64 0] 106)) w1.heap.size 104 (lgC (some ⟨d,0,none⟩) fr pg 0 0 0 none 0 0):=(BlkIs.new w1 _ _).alloc _;have bh:BlkIs ((w1.alloc (.cells #[.pointer (some ⟨d,0,none⟩),.int .i64 fr,.int .i64 pg,.int .u64 0,.int .u64 0,.int .i64 0,.slice none 0 0] 104)).alloc (.cells #[.int .u64 0,.int .u64 0,.int .i64 0,.int .i64 0] 106)) (w1.heap.size+1) 106 #[.int .u64 0,.int .u64 0,.int .i64 0,.int .i64 0]:=(by have:=BlkIs.new (w1.alloc (.cells #[.pointer (some ⟨d,0,none⟩),.int .i64 fr,.int .i64 pg,.int .u64 0,.int .u64 0,.int .i64 0,.slice none 0 0] 104)) 106 #[.int .u64 0,.int .u64 0,.int .i64 0,.int .i64 0];rw[World.size_alloc] at this;exact this);have kl:World.cell? ((w1.alloc (.cells #[.pointer (some ⟨d,0,none⟩),.int .i64 fr,.int .i64 pg,.int .u64 0,.int .u64 0,.int .i64 0,.slice none 0 0] 104)).alloc (.cells #[.int .u64 0,.int .u64 0,.int .i64 0,.int .i64 0] 106)) ⟨w1.heap.size,0,none⟩=some (.pointer (some ⟨d,0,none⟩)):=(by rw[bl.cell];rfl))
  | (go_at_call 58;refine HL.mono ?_;rintro e w' ⟨rfl,rfl⟩)
  | (go_at_call 59;refine(head_new _ w1.heap.size d many left hD3 kl bl.lt hm2 hmax).mono ?_;rintro e w4 ⟨rfl,hB4⟩;have bl4:=bl.below hB4 bl.lt;have bh4:=bh.below hB4 bh.lt;have hD4:=hD3.grow hB4)
  | (refine wp_storeW rfl 106 (.tmp 9) (.tmp 35) rfl (w1.heap.size+1) rfl rfl rowHead bh4 rfl rfl hz1 ?_;have bh5:=bh4.setRow zhd.toArray;have bl5:=bl4.setRow_ne (k:=w1.heap.size+1) (by omega) zhd.toArray;have hD5:=hD4.setRowO bh4 (by decide) (by omega) zhd.toArray;have hG5:w.grownBy (w4.setRow (w1.heap.size+1) zhd.toArray) (some d):=grownBy_rest (below_grownBy (hB03.trans (hB4.mono hB03.size)) d) (setRow_grown _ _ _) (zG _) (fun r e=>by cases e;omega))
  | (refine wp_storeW rfl 106 (.tmp 9) (.tmp 42) rfl (w1.heap.size+1) rfl rfl rowHead bh5 rfl rfl hz2 ?_;have bh6:=bh5.setRow #[.int .u64 1,.int .u64 1,.int .i64 0,.int .i64 0];have bl6:=bl5.setRow_ne (k:=w1.heap.size+1) (by omega) #[.int .u64 1,.int .u64 1,.int .i64 0,.int .i64 0];have hD6:=hD5.setRowO bh5 (by decide) (by omega) #[.int .u64 1,.int .u64 1,.int .i64 0,.int .i64 0];have hG6:=grownBy_rest hG5 (setRow_grown _ (w1.heap.size+1) #[.int .u64 1,.int .u64 1,.int .i64 0,.int .i64 0]) (zG _) (fun r e=>by cases e;omega))
  | (refine wp_loadW rfl 106 (.tmp 9) rfl (w1.heap.size+1) rfl rowHead bh6 rfl ?_)
  | (go_at_call 60;refine(lay_gives _ w1.heap.size d many _ [] left 1 1 0 0 fr pg 0 0 0 none 0 0 hD6 (by decide) h1l h2l bl6 (by omega) (by decide) hm2 hmax).mono ?_;rintro e w7 ⟨rfl,hD7,bl7,hG7⟩;have bh7:=hG7.blk bh6 (by omega)))
 have hG8:w.grownBy w7 (some d):=⟨hG7.os.trans hG6.os,hG7.tape.trans hG6.tape,hG7.output.trans hG6.output,zP hG6.size hG7.size,fun k hk hn=>(hG7.block k (zO hk hG6.size) (fun e=>by rcases e with e|e;exact hn (by rw[e]);omega)).trans (hG6.block k hk hn)⟩
 have hsl:d<w1.heap.size:=by omega
 have hsl2:w.heap.size<=w1.heap.size:=by omega
 clear HS HL hD hD3 hD4 hD5 hD6 bl bl4 bl5 bl6 bh bh4 bh5 bh6 kl hB4 hB03 hG5 hG6 hG7 b0 b1 k0 k1 hB0 hB01 hB1 hs1 hz1 hz2
 generalize w1.heap.size=l at *
 have hlh:¬ l=l+1:=by omega
 have j0:w7.drew.cell? ⟨l+1,0,none⟩=some (.int .u64 1):=by rw[bh7.drew.cell];rfl
 have bA:=bl7.drew.set 3 (.int .u64 1)
 have bB:=bA.set 4 (.int .u64 1)
 have bC:=bB.set 5 (.int .i64 0)
 have hA:=bh7.drew.other (p:=⟨l,3,none⟩) (by show ¬ l+1=l;omega) (.int .u64 1)
 have hB:=hA.other (p:=⟨l,4,none⟩) (by show ¬ l+1=l;omega) (.int .u64 1)
 have hC:=hB.other (p:=⟨l,5,none⟩) (by show ¬ l+1=l;omega) (.int .i64 0)
 have dA:=(hD7.grow (Below.refl _ _).drew).setOther bl7.drew (by show 7<=64;decide) (show d≠l by omega) ⟨l,3,none⟩ (.int .u64 1) rfl
 have dB:=dA.setOther bA (by simp;show 7<=64;decide) (show d≠l by omega) ⟨l,4,none⟩ (.int .u64 1) rfl
 have dC:=dB.setOther bB (by simp;show 7<=64;decide) (show d≠l by omega) ⟨l,5,none⟩ (.int .i64 0) rfl
 have gC:w.grownBy (((w7.drew.setCell ⟨l,3,none⟩ (.int .u64 1)).setCell ⟨l,4,none⟩ (.int .u64 1)).setCell ⟨l,5,none⟩ (.int .i64 0)) (some d) :=
  grownBy_rest (grownBy_rest (grownBy_rest (grownBy_rest hG8 (grownBy_drew w7 none) (zG _) (fun r e=>by cases e)) (setCell_grown _ ⟨l,3,none⟩ (.int .u64 1)) (zG _) (fun r e=>by injection e with e;subst e;exact hsl2)) (setCell_grown _ ⟨l,4,none⟩ (.int .u64 1)) (zG _) (fun r e=>by injection e with e;subst e;exact hsl2)) (setCell_grown _ ⟨l,5,none⟩ (.int .i64 0)) (zG _) (fun r e=>by injection e with e;subst e;exact hsl2)
 have a3:w7.drew.cell? ⟨l,3,none⟩=some (.int .u64 1):=by rw[bl7.drew.cell];rfl
 have a4:(w7.drew.setCell ⟨l,3,none⟩ (.int .u64 1)).cell? ⟨l,4,none⟩=some (.int .u64 1):=by rw[bA.cell];rfl
 have a5:((w7.drew.setCell ⟨l,3,none⟩ (.int .u64 1)).setCell ⟨l,4,none⟩ (.int .u64 1)).cell? ⟨l,5,none⟩=some (.int .i64 0):=by rw[bB.cell];rfl
 have x3:w7.cell? ⟨l,3,none⟩=some (.int .u64 1):=by rw[bl7.cell];rfl
 have x4:w7.cell? ⟨l,4,none⟩=some (.int .u64 1):=by rw[bl7.cell];rfl
 have x5:w7.cell? ⟨l,5,none⟩=some (.int .i64 0):=by rw[bl7.cell];rfl
 have y3:=bl7.free 3
 have y4:=bl7.free 4
 have y5:=bl7.free 5
 have f3:=bl7.drew.free 3
 have f4:=bA.free 4
 have f5:=bB.free 5
 have e1:(((w7.drew.setCell ⟨l,3,none⟩ (.int .u64 1)).setCell ⟨l,4,none⟩ (.int .u64 1)).setCell ⟨l,5,none⟩ (.int .i64 0)).cell? ⟨l,1,none⟩=some (.int .i64 fr):=by rw[bC.cell];rfl
 have e3:(((w7.drew.setCell ⟨l,3,none⟩ (.int .u64 1)).setCell ⟨l,4,none⟩ (.int .u64 1)).setCell ⟨l,5,none⟩ (.int .i64 0)).cell? ⟨l+1,3,none⟩=some (.int .i64 0):=by rw[hC.cell];rfl
 have hS0:=bh7.drew
 refine RegF.start (fun W:World=>BlkIs W (l+1) 106 #[.int .u64 1,.int .u64 1,.int .i64 0,.int .i64 0]) 17 (by kernel_rfl) ?_
 refine RegF.t 0 (.pointer (some ⟨l,0,none⟩)) rfl hS0 (fun W hW=>by go_simp) ?_
 simp only[zD,zB,Act.put,zA,zF,zE]
 refine RegF.t 1 (.pointer (some ⟨l,0,none⟩)) rfl hS0 (fun W hW=>by go_simp) ?_
 simp only[zD,zC,zB,Act.put,zA,zF,zE]
 refine RegF.t 2 (.pointer (some ⟨l,0,none⟩)) rfl hS0 (fun W hW=>by go_simp) ?_
 simp only[zD,zC,zB,Act.put,zA,zF,zE]
 refine RegF.t 3 (.pointer (some ⟨l+1,0,none⟩)) rfl hS0 (fun W hW=>by go_simp) ?_
 simp only[zD,zC,zB,Act.put,zA,zF,zE]
 refine RegF.t 4 (.int .u64 1) rfl hS0 (fun W hW=>by have q:W.cell? ⟨l+1,0,none⟩=some (.int .u64 1):=(by rw[hW.cell];rfl);go_simp) ?_
 simp only[zD,zC,zB,Act.put,zA,zF,zE]
 refine RegF.t 5 (.pointer (some ⟨l+1,1,none⟩)) rfl hS0 (fun W hW=>by go_simp) ?_
 simp only[zD,zC,zB,Act.put,zA,zF,zE]
 refine RegF.t 6 (.int .u64 1) rfl hS0 (fun W hW=>by have q:W.cell? ⟨l+1,1,none⟩=some (.int .u64 1):=(by rw[hW.cell];rfl);go_simp) ?_
 simp only[zD,zC,zB,Act.put,zA,zF,zE]
 refine RegF.t 7 (.pointer (some ⟨l+1,2,none⟩)) rfl hS0 (fun W hW=>by go_simp) ?_
 simp only[zD,zC,zB,Act.put,zA,zF,zE]
 refine RegF.t 8 (.int .i64 0) rfl hS0 (fun W hW=>by have q:W.cell? ⟨l+1,2,none⟩=some (.int .i64 0):=(by rw[hW.cell];rfl);go_simp) ?_
 simp only[zD,zC,zB,Act.put,zA,zF,zE]
 refine RegF.one 9 (by kernel_rfl) (RegF.opV (w':=w7.drew) (.pointer (some ⟨l,0,none⟩)) rfl rfl (by go_simp) ⟨fun _=>hS0,?_⟩)
 simp only[zD,zC,zB,Act.put,zA,zF,zE]
 refine RegF.one 10 (by kernel_rfl) (RegF.opV (w':=w7.drew) (.pointer (some ⟨l,3,none⟩)) rfl rfl (by go_simp) ⟨fun _=>hS0,?_⟩)
 simp only[zD,zC,zB,Act.put,zA,zF,zE]
 refine RegF.one 11 (by kernel_rfl) (RegF.opS (w':=w7.drew.setCell ⟨l,3,none⟩ (.int .u64 1)) rfl rfl (by go_simp) ⟨fun _=>hA,?_⟩)
 simp only[zD,zC,zB,Act.put]
 refine RegF.one 12 (by kernel_rfl) (RegF.opV (w':=w7.drew.setCell ⟨l,3,none⟩ (.int .u64 1)) (.pointer (some ⟨l,0,none⟩)) rfl rfl (by go_simp) ⟨fun _=>hA,?_⟩)
 simp only[zD,zC,zB,Act.put,zA,zF,zE]
 refine RegF.one 13 (by kernel_rfl) (RegF.opV (w':=w7.drew.setCell ⟨l,3,none⟩ (.int .u64 1)) (.pointer (some ⟨l,4,none⟩)) rfl rfl (by go_simp) ⟨fun _=>hA,?_⟩)
 simp only[zD,zC,zB,Act.put,zA,zF,zE]
 refine RegF.one 14 (by kernel_rfl) (RegF.opS (w':=(w7.drew.setCell ⟨l,3,none⟩ (.int .u64 1)).setCell ⟨l,4,none⟩ (.int .u64 1)) rfl rfl (by go_simp) ⟨fun _=>hB,?_⟩)
 simp only[zD,zC,zB,Act.put]
 refine RegF.one 15 (by kernel_rfl) (RegF.opV (w':=(w7.drew.setCell ⟨l,3,none⟩ (.int .u64 1)).setCell ⟨l,4,none⟩ (.int .u64 1)) (.pointer (some ⟨l,0,none⟩)) rfl rfl (by go_simp) ⟨fun _=>hB,?_⟩)
 simp only[zD,zC,zB,Act.put,zA,zF,zE]
 refine RegF.one 16 (by kernel_rfl) (RegF.opV (w':=(w7.drew.setCell ⟨l,3,none⟩ (.int .u64 1)).setCell ⟨l,4,none⟩ (.int .u64 1)) (.pointer (some ⟨l,5,none⟩)) rfl rfl (by go_simp) ⟨fun _=>hB,?_⟩)
 simp only[zD,zC,zB,Act.put,zA,zF,zE]
 refine RegF.one 17 (by kernel_rfl) (RegF.opS (w':=((w7.drew.setCell ⟨l,3,none⟩ (.int .u64 1)).setCell ⟨l,4,none⟩ (.int .u64 1)).setCell ⟨l,5,none⟩ (.int .i64 0)) rfl rfl (by go_simp) ⟨fun h=>absurd rfl h,RegF.done (by kernel_rfl) ?_⟩)
 simp only[zD,zC,zB,Act.put]
 have HC:=count_zero _ l fr (by omega) e1
 have bC2:BlkIs (((w7.drew.setCell ⟨l,3,none⟩ (.int .u64 1)).setCell ⟨l,4,none⟩ (.int .u64 1)).setCell ⟨l,5,none⟩ (.int .i64 0)) l 104 (lgC (some ⟨d,0,none⟩) fr pg 1 1 0 none 0 0):=bC
 clear x3 x4 x5 y3 y4 y5 a3 a4 a5 f3 f4 f5 hS0 hA hB bA bB bC hC dA dB bl7 bh7 hD7 j0 hG8
 generalize ((w7.drew.setCell ⟨l,3,none⟩ (.int .u64 1)).setCell ⟨l,4,none⟩ (.int .u64 1)).setCell ⟨l,5,none⟩ (.int .i64 0)=w8 at *
 go_wp2_with (go_at_call 61;refine HC.mono ?_;rintro e w' ⟨rfl,rfl⟩)
 simp only[Exit.noGoto]
 exact⟨by simp,_,results_tmp2 rfl _ _ _,⟨l,rfl,hsl2,dC,bC2,gC⟩⟩
theorem LI.begun:LI (laid (fun _=>zer64) (wrL 1 (hEnc 1 1 0 0) 1)) ⟨1,1,0,[]⟩ 0:=by
 have e:wrL 1 (hEnc 1 1 0 0) 1=[(1,headW 1 1 0 0)]:=headL_one (s:=1) (e:=1) (z:=0) (c:=0) ⟨by omega,by omega⟩ ⟨by omega,by omega⟩
 have hL:∀k,laid (fun _=>zer64) [(1,headW 1 1 0 0)] k=if k=1 then headW 1 1 0 0 else zer64:=fun k=>laid_one _ [] _ _ k
 rw[e]
 generalize laid (fun _=>zer64) [(1,headW 1 1 0 0)]=G at *
 have h0:G (1 - 1 % 2)=zer64:=hL 0
 refine⟨⟨hL 1,by decide,by decide,by decide,by decide,by decide,?_,rfl,⟨fun j hj=>absurd hj (Nat.not_lt_zero j),fun j hj=>absurd hj (Nat.not_lt_zero j),fun x hx=>by cases hx⟩⟩,?_,?_⟩
 ·intro _
  show hdS (G (1 - 1 % 2))<1
  rw[h0]
  decide
 ·intro k
  rw[hL]
  split
  ·exact headW_length _ _ _ _
  ·decide
 ·show hdS2 (G (1 - 1 % 2))<1
  rw[h0]
  decide
end Go.Proofs.YtnlimngkagmjpaaGreat
namespace Go.Proofs.YtnlimngkagmjpaaGreat
open Go Go.RowKit Lou Go.Shelf
def marksD (Ds:List Nat):List Deferred:=Ds.map fun D => { target:=.collected D,args:=#[] }
theorem leaves_marks {F:Fence}{n:Nat}{P:Program}{fn:Func}{tmps:Array Value}{R:Ending->World->Prop}(K:World->Prop):∀(Ds:List Nat) (w:World),Ds.Nodup->(∀D∈Ds,w.heap[D]? = some (.deferred (some []))) ->
  (∀D∈Ds,∀V,K V->V.heap[D]? = some (.deferred (some []))->K (V.putObj D (.deferred none)))->K w ->
  (∀w',K w'->LeavesIn F n P fn tmps R [] .returning w')->LeavesInM F n P fn tmps R (marksD Ds) .returning w
 | [],w,_,_,_,hw,h=>h w hw
 | D::Ds,w,hn,hD,hK,hw,h=>by
  rw[List.nodup_cons] at hn
  refine⟨by simp,.inl ⟨D,w.putObj D (.deferred none),rfl,run_takeDeferred (hD D (by simp)),leaves_marks K Ds _ hn.2 (fun E hE => ?_) (fun E hE=>hK E (by simp[hE])) (hK D (by simp) w hw (hD D (by simp))) h⟩⟩
  rw[putObj_oth _ _ _ (fun e=>hn.1 (by rw[e];exact hE))]
  exact hD E (by simp[hE])
end Go.Proofs.YtnlimngkagmjpaaGreat
namespace Go.Proofs.YtnlimngkagmjpaaGreat
open Go Go.RowKit Lou

def cmpZ (a b:Int):Int:=if a<b then -1 else if b<a then 1 else 0
theorem cmpInt_gives (a b:Int)(w:World):Calls Tryz.prog 110 #[.int .i64 a,.int .i64 b] w fun e w'=>e = .returned (.int .i64 (cmpZ a b))/\w=w':=by
 have HN:∀(x:Int) (W:World),Calls Tryz.prog 155 #[.int .i64 x] W fun e w'=>e = .returned (.bool false)/\W=w':=fun x W=>by
  go_enter Tryz.func155,Tryz.ntmps155
  go_wp2
  go_ret
  exact⟨by simp,rfl⟩
 unfold cmpZ
 by_cases h1:a<b
 ·rw[if_pos h1]
  go_enter Tryz.func110,Tryz.ntmps110
  go_wp2_with (go_at_call 155;refine(HN _ _).mono ?_;rintro e w' ⟨rfl,rfl⟩)
  go_ret
  exact⟨rfl,rfl⟩
 ·rw[if_neg h1]
  by_cases h2:b<a
  ·rw[if_pos h2]
   go_enter Tryz.func110,Tryz.ntmps110
   go_wp2_with (go_at_call 155;refine(HN _ _).mono ?_;rintro e w' ⟨rfl,rfl⟩)
   go_ret
   exact⟨rfl,rfl⟩
  ·rw[if_neg h2]
   go_enter Tryz.func110,Tryz.ntmps110
   go_wp2_with (go_at_call 155;refine(HN _ _).mono ?_;rintro e w' ⟨rfl,rfl⟩)
   go_ret
   exact⟨rfl,rfl⟩
theorem index_gives (w:World)(gf:Nat)(lb:Array Value)(eg:∀args w,(callFunc gf args).run Tryz.prog w = .ok (.enter gf args) w)(p:Int->Bool)(g cap:Nat)(ks:List Int)(hr:∀j (h:j<ks.length),w.cell? ⟨g,j,none⟩=some (.int .i64 ks[j]))(hcap:ks.length<=cap)(hl:ks.length<=1000000)
  (hp:∀k∈ks,Calls Tryz.prog gf (#[.int .i64 k] ++ lb) w fun e w'=>e = .returned (.bool (p k))/\w=w') :
  Calls Tryz.prog 125 #[.slice (some ⟨g,0,none⟩) ks.length cap,.func (.func gf) #[] lb] w fun e w'=>w=w'/\((e = .returned (.int .i64 (-1))/\∀k∈ks,p k=false)∨∃i:Nat,∃h:i<ks.length,e = .returned (.int .i64 (i:Int))/\p ks[i]=true/\∀k∈ks.take i,p k=false):=by
 go_enter Tryz.func125,Tryz.ntmps125
 go_wp2
 go_loopw [8] (fun i wr=>∃k:Nat,k<=ks.length/\i = .int .i64 (k:Int)/\Hid (∀x∈ks.take k,p x=false)/\wr=w) (fun i _=>ks.length - (intOf i).toNat)
 case atStart=>exact⟨0,by omega,rfl,Lib.hid (fun x h=>by simp at h),rfl⟩
 case round =>
  obtain⟨k,hk,rfl,HA,rfl⟩:=hrel
  by_cases hlt:k<ks.length
  ·have hc:=hr k hlt
   have hpk:=hp ks[k] (qJ hlt)
   have hwk:IntKind.i64.wrap ((k:Int)+1)=(k:Int)+1:=wrap_i64_fr _ (by omega) (by omega)
   obtain⟨x,hx⟩:∃x,x=ks[k]:=⟨_,rfl⟩
   rw[<-hx] at hc hpk
   cases hb:p x with
   | true =>
    have HX:Hid (p ks[k]=true):=Lib.hid (by rw[<-hx];exact hb)
    rw[hb] at hpk
    clear hb hx hr hp
    go_wp2_with (refine hpk.mono ?_;rintro e w' ⟨rfl,rfl⟩)
    go_ret
    exact⟨rfl,.inr ⟨k,hlt,rfl,HX.out,HA.out⟩⟩
   | false =>
    have HN:Hid (∀y∈ks.take (k+1),p y=false):=Lib.hid (fun y hy=>by
     rw[qC hlt] at hy
     rcases List.mem_append.1 hy with h|h
     ·exact HA.out y h
     ·rw[List.mem_singleton,<-hx] at h
      subst h
      exact hb)
    rw[hb] at hpk
    clear hb hx hr hp
    go_wp2_with (refine hpk.mono ?_;rintro e w' ⟨rfl,rfl⟩)
    exact⟨⟨k+1,by omega,by simp,HN,by first|rfl|trivial⟩,by simp[intOf];omega⟩
  ·have hkn:k=ks.length:=by omega
   have HN:Hid (∀y∈ks,p y=false):=Lib.hid (fun y hy=>HA.out y (by rw[hkn,List.take_length];exact hy))
   go_wp2
   go_ret
   exact⟨rfl,.inl ⟨rfl,HN.out⟩⟩
theorem setCells_blk {g:Nat}{T:TypeId}:∀(vs:List Value) (o:Nat) (w:World) (cs:Array Value),BlkIs w g T cs->∃cs',BlkIs (w.setCells g o vs) g T cs'/\cs'.size=cs.size/\(∀q,q<o->cs'[q]? = cs[q]?)/\GrowBut (fun k=>k=g) w (w.setCells g o vs)
 | [],o,w,cs,h=>⟨cs,h,rfl,fun _ _=>rfl,GrowBut.refl _ _⟩
 | v::r,o,w,cs,h=>by
  obtain⟨cs',h1,h2,h3,h4⟩:=setCells_blk r (o+1) (w.setCell ⟨g,o,none⟩ v) _ (h.set o v)
  refine⟨cs',h1,by rw[h2];simp,fun q hq => ?_,(GrowBut.setCell (Mu:=fun k=>k=g) w ⟨g,o,none⟩ v rfl).trans h4⟩
  rw[h3 q (by omega),Array.getElem?_setIfInBounds_ne (by omega)]
def keptD (p:Int->Bool)(ks:List Int)(j:Nat):List Int:=(ks.take j).filter fun k => !p k
theorem keptD_next (p:Int->Bool)(ks:List Int){j:Nat}(h:j<ks.length):keptD p ks (j+1)=keptD p ks j++(if p ks[j]=true then [] else [ks[j]]):=by
 unfold keptD
 rw[qC h,List.filter_append]
 congr 1
 by_cases hp:p ks[j]=true
 ·rw[if_pos hp];simp[hp]
 ·rw[if_neg hp];simp[hp]
def DelRel (w:World)(g:Nat)(p:Int->Bool)(ks:List Int)(cs:Array Value)(i j:Nat)(wr:World):Prop :=
 i<j/\j<=ks.length/\(keptD p ks j).length=i/\∃cs',BlkIs wr g 3 cs'/\cs'.size=cs.size/\(∀q (h:q<(keptD p ks j).length),cs'[q]? = some (.int .i64 (keptD p ks j)[q]))/\(∀q,j<=q->cs'[q]? = cs[q]?)/\GrowBut (fun k=>k=g) w wr
theorem delete_gives (w:World)(gf:Nat)(lb:Array Value)(eg:∀args w,(callFunc gf args).run Tryz.prog w = .ok (.enter gf args) w)(p:Int->Bool)(g cap:Nat)(ks:List Int)(cs:Array Value)(hb:BlkIs w g 3 cs)(hr:∀j (h:j<ks.length),cs[j]? = some (.int .i64 ks[j]))(hcap:ks.length<=cap)(hl:ks.length<=1000000)
  (hp:∀W,GrowBut (fun k=>k=g) w W->∀k∈ks,Calls Tryz.prog gf (#[.int .i64 k] ++ lb) W fun e w'=>e = .returned (.bool (p k))/\W=w') :
  Calls Tryz.prog 152 #[.slice (some ⟨g,0,none⟩) ks.length cap,.func (.func gf) #[] lb] w fun e w'=>∃cs',e = .returned (.slice (some ⟨g,0,none⟩) (ks.filter fun k => !p k).length cap)/\BlkIs w' g 3 cs'/\(∀q (h:q<(ks.filter fun k => !p k).length),cs'[q]? = some (.int .i64 (ks.filter fun k => !p k)[q]))/\GrowBut (fun k=>k=g) w w':=by
 have HI:=index_gives w gf lb eg p g cap ks (fun j h=>by rw[hb.cell];exact hr j h) hcap hl (hp w (GrowBut.refl _ _))
 go_enter Tryz.func152,Tryz.ntmps152
 go_wp2_with (go_at_call 125;refine HI.mono ?_;rintro e w1 ⟨rfl,(⟨rfl,hall⟩|⟨i0,hi0,rfl,hpi,hpre⟩)⟩)
 ·go_ret
  have e:(ks.filter fun k => !p k)=ks:=List.filter_eq_self.2 (fun k hk=>by rw[hall k hk];rfl)
  rw[e]
  exact⟨cs,rfl,hb,hr,GrowBut.refl _ _⟩
 ·have hw0:IntKind.i64.wrap ((i0:Int)+1)=((i0+1:Nat):Int):=by rw[wrap_i64_fr _ (by omega) (by omega)];omega
  have hk0:keptD p ks (i0+1)=ks.take i0:=by
   rw[keptD_next p ks hi0,if_pos hpi,List.append_nil]
   exact List.filter_eq_self.2 (fun k hk=>by rw[hpre k hk];rfl)
  have h0:DelRel w g p ks cs i0 (i0+1) w:=by
   refine⟨by omega,by omega,by rw[hk0];simp;omega,cs,hb,rfl,fun q hq => ?_,fun q _=>rfl,GrowBut.refl _ _⟩
   simp only[hk0] at hq ⊢
   have hq2:q<i0:=by simp at hq;omega
   rw[hr q (by omega)]
   simp
  clear hpi hpre hk0 HI
  go_wp2
  go_loopw [5,6] (fun i j wr=>∃a b:Nat,i = .int .i64 (a:Int)/\j = .int .i64 (b:Int)/\DelRel w g p ks cs a b wr) (fun _ j _=>ks.length - (intOf j).toNat)
  case atStart=>exact⟨i0,i0+1,rfl,by simp,h0⟩
  case round =>
   clear h0 hw0 hi0
   obtain⟨a,b,rfl,rfl,hab,hbn,hka,cs',hb',hs',hpre,hsuf,hG⟩:=hrel
   by_cases hlt:b<ks.length
   ·have hcb:wr.cell? ⟨g,b,none⟩=some (.int .i64 ks[b]):=by rw[hb'.cell,hsuf b (zG _)];exact hr b hlt
    have hpk:=hp wr hG ks[b] (qJ hlt)
    have hnx:=keptD_next p ks hlt
    have hwb:IntKind.i64.wrap ((b:Int)+1)=(b:Int)+1:=wrap_i64_fr _ (by omega) (by omega)
    have hwa:IntKind.i64.wrap ((a:Int)+1)=(a:Int)+1:=wrap_i64_fr _ (by omega) (by omega)
    have hfa:=hb'.free a
    obtain⟨x,hx⟩:∃x,x=ks[b]:=⟨_,rfl⟩
    rw[<-hx] at hcb hpk hnx
    cases hpx:p x with
    | true =>
     rw[hpx,if_pos rfl,List.append_nil] at hnx
     rw[hpx] at hpk
     have HN:Hid (DelRel w g p ks cs a (b+1) wr):=Lib.hid ⟨by omega,by omega,by rw[hnx];exact hka,cs',hb',hs',fun q hq=>(by simp only[hnx] at hq ⊢;exact hpre q hq),fun q hq=>hsuf q (by omega),hG⟩
     clear hpx hx hnx hpre hsuf hka
     go_wp2_with (refine hpk.mono ?_;rintro e w' ⟨rfl,rfl⟩)
     refine⟨?_,by simp[intOf];omega⟩
     (repeat apply Exists.intro)
     exact⟨⟨a,b+1,rfl,(by first|rfl|simp),HN.out⟩,rfl⟩
    | false =>
     rw[hpx,if_neg (by decide)] at hnx
     rw[hpx] at hpk
     have ha:a<cs'.size:=by
      have h1:=(zH.1 ((hsuf b (zG _)).trans (hr b hlt))).1
      omega
     have hca:(wr.cell? ⟨g,a,none⟩).isSome=true:=by rw[hb'.cell,Array.getElem?_eq_getElem ha];rfl
     have HN:Hid (DelRel w g p ks cs (a+1) (b+1) (wr.setCell ⟨g,a,none⟩ (.int .i64 x))):=Lib.hid ⟨by omega,by omega,by rw[hnx,zY,hka];rfl,_,hb'.set a (.int .i64 x),by rw[Array.size_setIfInBounds];exact hs',fun q hq=>(by
      simp only[hnx] at hq ⊢
      rw[zY,List.length_singleton,hka] at hq
      by_cases hqa:q=a
      ·subst hqa
       rw[Array.getElem?_setIfInBounds_self_of_lt ha]
       have e:(keptD p ks b++[x])[q]? = some x:=by rw[List.getElem?_append_right (by omega),hka,Nat.sub_self];rfl
       rw[zI (by rw[zY,List.length_singleton,hka];omega)] at e
       rw[Option.some.inj e]
      ·rw[Array.getElem?_setIfInBounds_ne (fun e=>hqa e.symm),hpre q (by omega)]
       have e:(keptD p ks b++[x])[q]? = some ((keptD p ks b)[q]'(by omega)):=by rw[List.getElem?_append_left (by omega),zI (by omega)]
       rw[zI (by rw[zY,List.length_singleton,hka];omega)] at e
       rw[Option.some.inj e]),fun q hq=>(by rw[Array.getElem?_setIfInBounds_ne (by omega)];exact hsuf q (by omega)),hG.trans (GrowBut.setCell (Mu:=fun k=>k=g) _ _ _ rfl)⟩
     have hacap:a<cap:=by omega
     have haks:a<ks.length:=by omega
     obtain⟨va,hva⟩:=Option.isSome_iff_exists.1 hca
     clear hpx hx hnx hpre hsuf hka hca
     go_wp2_with (refine hpk.mono ?_;rintro e w' ⟨rfl,rfl⟩)
     refine⟨?_,by simp[intOf];omega⟩
     (repeat apply Exists.intro)
     exact⟨⟨a+1,b+1,(by first|rfl|simp),(by first|rfl|simp),HN.out⟩,rfl⟩
   ·have hbn2:b=ks.length:=by omega
    subst hbn2
    have ek:keptD p ks ks.length=ks.filter fun k => !p k:=by unfold keptD;rw[List.take_length]
    have hpreN:Hid (∀q (h:q<(ks.filter fun k => !p k).length),cs'[q]? = some (.int .i64 (ks.filter fun k => !p k)[q])):=Lib.hid (fun q hq=>by have h2:=hpre q (by rw[ek];exact hq);rw[h2];simp only[ek])
    rw[ek] at hka
    have hck:∀j,j<ks.length->(wr.cell? ⟨g,j,none⟩).isSome=true:=fun j hj=>by
     have h1:=(zH.1 (hr j hj)).1
     rw[hb'.cell,Array.getElem?_eq_getElem (by omega)]
     rfl
    have hcl:∀ty,(Builtin.clear_ #[94] ty #[.slice (some ⟨g,a,none⟩) (ks.length - a) (cap - a)]).run Tryz.prog wr = .ok (.tuple #[]) (wr.setCells g a (zR (ks.length - a) (.int .i64 0))):=fun ty =>
     Lib.run_clear_slice wr _ 3 ty (.int .i64 0) Tryz.underlying94 (fun w=>by kernel_rfl) rfl rfl g a _ _ (by omega) (fun j hj=>hck (a+j) (by omega)) (fun j hj=>hb'.free (a+j))
    obtain⟨cs2,hb2,hs2,hpre2,hG2⟩:=setCells_blk (zR (ks.length - a) (.int .i64 0)) a wr cs' hb'
    have hac:a<=cap:=by omega
    have han:a<=ks.length:=by omega
    have hN:Hid (∀q (h:q<(ks.filter fun k => !p k).length),cs2[q]? = some (.int .i64 (ks.filter fun k => !p k)[q])):=Lib.hid (fun q hq=>by rw[hpre2 q (by omega)];exact hpreN.out q hq)
    clear hpre hsuf hpre2 hpreN hck
    go_wp2
    go_ret
    exact⟨cs2,by rw[hka];rfl,hb2,hN.out,hG.trans hG2⟩
end Go.Proofs.YtnlimngkagmjpaaGreat
