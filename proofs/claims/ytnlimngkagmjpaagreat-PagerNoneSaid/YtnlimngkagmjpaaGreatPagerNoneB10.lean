/- Texts that the proof of PagerNone leans on, part 10. -/
import Derived.BigQuiet
import Derived.Shelf.SlSortCmp.Whole1
import Derived.Shelf.SlIterI.Nil
import Derived.Shelf.SlIterI.Collect
import Derived.Shelf.SlSortCmp.NoneTotal
import Derived.Laws.LoneSync
import Derived.Test.YtnlimngkagmjpaaGreatPagerNoneB9
open List renaming getElem_toArray → zD, getElem_cons_zero → zB, setIfInBounds_toArray → zA, set_cons_zero → zF, set_cons_succ → zE, getElem_cons_succ → zC, map_toArray → zJ, map_cons → zK, map_nil → zL, length_map → qD, getElem?_eq_getElem → zI
open Nat renaming lt_of_lt_of_le → zO, le_refl → zG, zero_add → qK, le_trans → zP
open Array renaming getElem?_toList → qE
set_option linter.unusedVariables false
set_option maxRecDepth 100000
set_option maxHeartbeats 8000000

namespace Go.Proofs.YtnlimngkagmjpaaGreat
open Go Go.RowKit Lou
structure PwArgs (W:World)(B:Nat)(A1:Option Addr)(n:Nat)(xs:Nat->Int×Option Addr×Nat)(pw:Nat->Int×List UInt8):Prop where
 ge:∀g o,A1=some ⟨g,o,none⟩->B<=g
 row:1<=n->∃g o,A1=some ⟨g,o,none⟩/\PwIn W g o n xs/\g<W.heap.size
 bys:∀k,k<n->(pw k).1=(xs k).1/\(pw k).2.length=512/\InB W W.heap.size (xs k).2.1 (xs k).2.2 (pw k).2
 tys:∀k,k<n->TyB W (xs k).2.1
theorem PwArgs.keep {W W':World}{B:Nat}{A1:Option Addr}{n:Nat}{xs:Nat->Int×Option Addr×Nat}{pw:Nat->Int×List UInt8}{d l many:Nat}{fr pg:Int}{s:DS}{S:LgS}(h:PwArgs W B A1 n xs pw)(hD:DkS W d many s)(hL:LogIs W l d fr pg S)(hd:d<B)(hl:l<B)(hG:GrowBut (fun k=>k=d∨k=l) W W'):PwArgs W' B A1 n xs pw:=by
 obtain⟨_,A,c,vs,hlg,_⟩:=hL
 obtain⟨r,A',c',hdk,_⟩:=DkIs.has hD
 have hMu:∀g cs,BlkIs W g 5 cs->¬ (g=d∨g=l):=fun g cs hb e=>by
  rcases e with rfl|rfl
  ·exact BlkIs.ne_type hdk hb (by decide) rfl
  ·exact BlkIs.ne_type hlg hb (by decide) rfl
 refine⟨h.ge,fun h1 => ?_,fun k hk => ?_,fun k hk => ?_⟩
 ·obtain⟨g,o,e,hx,hg⟩:=h.row h1
  have hgB:=h.ge g o e
  refine⟨g,o,e,fun j hj q v hq=>hG.cell (p:=⟨g,o+j*2+q,none⟩) (hx j hj q v hq) hg (fun e => ?_),zO hg hG.size⟩
  rcases e with e|e<;>(simp only at e;omega)
 ·obtain⟨h1,h2,h3⟩:=h.bys k hk
  exact⟨h1,h2,(keepB hG h3 (h.tys k hk) hMu).1⟩
 ·exact(keepB hG (h.bys k hk).2.2 (h.tys k hk) hMu).2
theorem PwArgs.grow {W W':World}{B:Nat}{A1:Option Addr}{n:Nat}{xs:Nat->Int×Option Addr×Nat}{pw:Nat->Int×List UInt8}(h:PwArgs W B A1 n xs pw)(hB:Below W.heap.size W W'):PwArgs W' B A1 n xs pw:=by
 refine⟨h.ge,fun h1 => ?_,fun k hk => ?_,fun k hk=>(h.tys k hk).grow hB⟩
 ·obtain⟨g,o,e,hx,hg⟩:=h.row h1
  exact⟨g,o,e,fun j hj q v hq=>(hB.cell (p:=⟨g,o+j*2+q,none⟩) hg).trans (hx j hj q v hq),zO hg hB.size⟩
 ·obtain⟨h1,h2,h3⟩:=h.bys k hk
  exact⟨h1,h2,(h3.below hB).more hB.size⟩
def ComOut (fr pg:Int)(P:Nat)(s:DS)(S:LgS)(n:Nat)(xs:Nat->Int×Option Addr×Nat)(pw:Nat->Int×List UInt8)(z x:Int)(s':DS)(S':LgS):Prop :=
 (AppOut fr pg s S n xs pw z x s' S'/\¬ (x=160/\(n:Int)<=fr)) ∨
 (AppOut fr pg s S n xs pw z 160 s S/\(n:Int)<=fr/\∃x1 s1 S1,ChkOut fr P s S x1 s1 S1/\((¬ x1=0/\x=x1/\s'=s1/\S'=S1)∨(x1=0/\AppOut fr pg s1 S1 n xs pw z x s' S')))
theorem synD_err (s:DS):(synD s).2=0∨(synD s).2=140:=by
 unfold synD
 split<;>simp
theorem appD_err (s:DS)(L1 L2:List (Nat×List UInt8)):(appD s L1 L2).2=0∨(appD s L1 L2).2=140:=by
 unfold appD layD
 have h1:=wrs_err L1 s
 split
 ·split
  ·split
   ·exact synD_err _
   ·exact wrs_err _ _
  ·exact synD_err _
 ·exact h1
theorem AppOut.full {fr pg:Int}{s:DS}{S:LgS}{n:Nat}{xs:Nat->Int×Option Addr×Nat}{pw:Nat->Int×List UInt8}{z:Int}{s':DS}{S':LgS}(h:AppOut fr pg s S n xs pw z 160 s' S'):s'=s/\S'=S:=by
 rcases h with⟨_,h,_⟩|⟨_,_,_,h1,h2⟩|⟨_,_,fs',r,_,hr,h,_⟩
 ·cases h
 ·exact⟨h1,h2⟩
 ·subst hr
  rcases appD_err s (frsW (fs'.drop S.fs.length)) (wrL ((S.sr+1) % 2) (hEnc (S.sr+1) S.ep S.sz (fs'.length:Int)) 1) with h2|h2
  ·rw[h2] at h;cases h
  ·rw[h2] at h;cases h
theorem appD_ok {s:DS}(h:s.Ok)(L1 L2:List (Nat×List UInt8)):(appD s L1 L2).1.Ok:=by
 unfold appD
 split
 ·split
  ·exact h.wrs.syn.lay L2
  ·exact h.wrs.syn
 ·exact h.wrs
theorem synD_len (s:DS):(synD s).1.xs.length<=s.xs.length:=by
 unfold synD
 split
 ·exact zG _
 ·exact Nat.zero_le _
theorem appD_len (s:DS)(L1 L2:List (Nat×List UInt8)):(appD s L1 L2).1.xs.length<=s.xs.length+L1.length+L2.length:=by
 have h1:=wrs_len L1 s
 have h2:=synD_len (wrs s L1).1
 have h3:=wrs_len L2 (synD (wrs s L1).1).1
 have h4:=synD_len (wrs (synD (wrs s L1).1).1 L2).1
 unfold appD layD
 split
 ·split
  ·split<;>omega
  ·omega
 ·omega
theorem wrL1_length (a:Nat)(b:List UInt8):(wrL a b 1).length=1:=wrL_length a b 1
def cmFs (f a0 a1 a2:Nat):List FnV:=[⟨118,#[.pointer (some ⟨f,0,none⟩)],#[]⟩,⟨119,#[],#[.pointer (some ⟨a0,0,none⟩),.pointer (some ⟨a1,0,none⟩),.pointer (some ⟨a2,0,none⟩)]⟩]
def cmCs (f a0 a1 a2:Nat):Array Value:=#[.func (.func 118) #[.pointer (some ⟨f,0,none⟩)] #[],.func (.func 119) #[] #[.pointer (some ⟨a0,0,none⟩),.pointer (some ⟨a1,0,none⟩),.pointer (some ⟨a2,0,none⟩)]]
def CmOut (fr pg:Int)(P:Nat)(s:DS)(S:LgS)(n:Nat)(xs:Nat->Int×Option Addr×Nat)(pw:Nat->Int×List UInt8)(z x:Int)(s':DS)(S':LgS):Prop :=
 ∃x1 s1 S1,ChkOut fr P s S x1 s1 S1/\((¬ x1=0/\x=x1/\s'=s1/\S'=S1)∨(x1=0/\AppOut fr pg s1 S1 n xs pw z x s' S'))
theorem cmS_gives (w:World)(f l d many a0 a1 a2 B:Nat)(fr pg:Int)(s:DS)(S:LgS)(hb:BlkIs w f 75 (flFC l fr pg))(hL:LogIs w l d fr pg S)(hD:DkS w d many s)(hO:s.Ok)(hl:s.xs.length<=100000)(hfr:(S.fs.length:Int)<=fr)(hy:∀x∈S.fs,x.y.length=512)(hpl:planOk fr pg=true)(hmany:(many:Int)=2+9*fr+8*pg)(hmax:many<=100000)(P:Nat)(hP:(P:Int)=pg)(hP2:P<=1000)(hYb:∀k y,pgY S.fs k=some y->0<=k/\k<(P:Int))(hok:0<=S.sz/\S.sz<=2000)(hsr:S.sr<=1000000)(hep:S.ep<=1000000)
  (A1:Option Addr) (n c:Nat) (xs:Nat->Int×Option Addr×Nat) (pw:Nat->Int×List UInt8) (hn:n<=1000) (hA:PwArgs w B A1 n xs pw) (hdB:d<B) (hlB:l<B) (z:Int) (h0:BlkIs w a0 31 #[.pointer (some ⟨f,0,none⟩)]) (h1:BlkIs w a1 3 #[.int .i64 z]) (h2:BlkIs w a2 127 #[.slice A1 n c]) :
  Calls Tryz.prog 117 #[.slice (some ⟨w.heap.size,0,none⟩) 2 2] (w.alloc (.cells (cmCs f a0 a1 a2) 38)) fun e w'=>∃x s' S',e = .returned (.int .i64 x)/\CmOut fr pg P s S n xs pw z x s' S'/\DkS w' d many s'/\LogIs w' l d fr pg S'/\GrowBut (fun k=>k=d∨k=l) w w':=by
 have hpr:=(planOk_iff fr pg).1 hpl
 obtain⟨V,hV⟩:∃V,V=w.alloc (.cells (cmCs f a0 a1 a2) 38):=⟨_,rfl⟩
 have hBV:Below w.heap.size w V:=by rw[hV];exact(Below.refl _ w).alloc (zG _) _
 have f0:BlkIs V w.heap.size 38 (cmCs f a0 a1 a2):=by rw[hV];exact BlkIs.new w _ _
 rw[<-hV]
 clear hV
 have hdl:=hD.lt
 have hll:l<w.heap.size:=by obtain⟨_,A,c,vs,hlg,_⟩:=hL;exact hlg.lt
 have hne:∀{g:Nat} {T:TypeId} {cs:Array Value},BlkIs w g T cs->T≠70->T≠104->¬ (g=d∨g=l):=fun {g T cs} hg e1 e2 e=>by
  obtain⟨rr,A',c',hdk,_⟩:=DkIs.has hD
  obtain⟨_,A,c,vs,hlg,_⟩:=hL
  rcases e with rfl|rfl
  ·exact BlkIs.ne_type hg hdk e1 rfl
  ·exact BlkIs.ne_type hg hlg e2 rfl
 have nf:=hne hb (by decide) (by decide)
 have n0:=hne h0 (by decide) (by decide)
 have n1:=hne h1 (by decide) (by decide)
 have n2:=hne h2 (by decide) (by decide)
 have ng:¬ (w.heap.size=d∨w.heap.size=l):=fun e=>by omega
 have HS:=fsteps_gives V w.heap.size 2 (cmFs f a0 a1 a2)
  (fun k W=>(BlkIs W f 75 (flFC l fr pg)/\BlkIs W w.heap.size 38 (cmCs f a0 a1 a2)/\BlkIs W a0 31 #[.pointer (some ⟨f,0,none⟩)]/\BlkIs W a1 3 #[.int .i64 z]/\BlkIs W a2 127 #[.slice A1 n c]/\PwArgs W B A1 n xs pw/\GrowBut (fun k=>k=d∨k=l) w W) /\
   (k=0->W=V) /\
   (k=1->∃s1 S1,ChkOut fr P s S 0 s1 S1/\DkS W d many s1/\LogIs W l d fr pg S1) /\
   (k=2->∃s' S',CmOut fr pg P s S n xs pw z 0 s' S'/\DkS W d many s'/\LogIs W l d fr pg S'))
  (fun x W=>∃s' S',CmOut fr pg P s S n xs pw z x s' S'/\DkS W d many s'/\LogIs W l d fr pg S'/\GrowBut (fun k=>k=d∨k=l) w W) (by show 2<=100;omega)
  (by
   rintro k hk W ⟨⟨_,h4,_⟩,_⟩
   rw[h4.cell]
   match k,hk with
   | 0,_=>rfl
   | 1,_=>rfl
   | k+2,h=>exact absurd h (by simp[cmFs]))
  (by
   rintro k hk W ⟨⟨i1,i2,i3,i4,i5,i6,i7⟩,t0,t1,_⟩
   match k,hk with
   | 0,_ =>
    obtain rfl:=t0 rfl
    refine⟨enters_of Tryz.func118 (by kernel_rfl) rfl,(fchk_gives W f l d many fr pg s S i1 (hL.grow hBV) (hD.grow hBV) hO (by omega) (by omega) hy hpl hmany hmax P hP hP2 hYb (fun e=>nf (.inl e)) (fun e=>nf (.inr e)) hok (by omega) (by omega)).mono ?_⟩
    rintro e w2 ⟨x1,s1,S1,rfl,hC,hD2,hL2,hG2⟩
    have hG3:=i7.trans hG2
    by_cases hz:x1=0
    ·subst hz
     exact .inl ⟨rfl,⟨hG2.blk i1 nf,hG2.blk i2 ng,hG2.blk i3 n0,hG2.blk i4 n1,hG2.blk i5 n2,i6.keep (hD.grow hBV) (hL.grow hBV) hdB hlB hG2,hG3⟩,(fun e=>by cases e),(fun _=>⟨s1,S1,hC,hD2,hL2⟩),(fun e=>by cases e)⟩
    ·exact .inr ⟨x1,hz,rfl,s1,S1,⟨x1,s1,S1,hC,.inl ⟨hz,rfl,rfl,rfl⟩⟩,hD2,hL2,hG3⟩
   | 1,_ =>
    obtain⟨s1,S1,hC,hDw,hLw⟩:=t1 rfl
    obtain⟨r,hr,hx,hs,hq⟩:=id hC
    have hO1:s1.Ok:=by rw[hs,hr];exact appD_ok hO _ _
    have hl1:s1.xs.length<=500000:=by
     have:=appD_len s (layW fr S P) (wrL ((S.sr+1) % 2) (hEnc (S.sr+1) (S.ep+1) S.sz 0) 1)
     have h3:=layW_length (fr:=fr) (S:=S) P
     rw[wrL1_length] at this
     rw[hs,hr]
     omega
    have hS1:(S1.fs.length:Int)<=fr/\(0<=S1.sz/\S1.sz<=2000)/\S1.sr<=1000001:=by
     rcases hq with⟨_,rfl⟩|⟨h,_⟩
     ·exact⟨by show ((0:Nat):Int)<=fr;omega,hok,by show S.sr+1<=_;omega⟩
     ·exact absurd rfl h
    have hBd:Below W.heap.size W W.drew:=(Below.refl _ _).drew
    have i6d:=i6.grow hBd
    have HA:=append_gives W.drew l d many s1 fr pg S1 (hLw.grow hBd) (hDw.grow hBd) hO1 hl1 A1 n c xs pw hn i6d.row i6d.bys hpl z hS1.1 hS1.2.1 (by omega) (by omega) (by have:=hS1.2.2;omega)
    refine⟨enters_of Tryz.func119 (by kernel_rfl) rfl,(fcom1_gives W a0 a1 a2 f l fr pg z A1 n c i3 i4 i5 i1 (fun x w'=>∃s' S',AppOut fr pg s1 S1 n xs pw z x s' S'/\DkS w' d many s'/\LogIs w' l d fr pg S'/\GrowBut (fun k=>k=d∨k=l) W w') (HA.mono ?_)).mono ?_⟩
    ·rintro e w2 ⟨x,s',S',rfl,hAp,hD2,hL2,hG2⟩
     exact⟨x,rfl,s',S',hAp,hD2,hL2,(GrowBut.grown (grownBy_drew W none) (fun r e=>by cases e)).trans hG2⟩
    ·rintro e w2 ⟨x,rfl,s',S',hAp,hD2,hL2,hG2⟩
     have hG3:=i7.trans hG2
     by_cases hz:x=0
     ·subst hz
      exact .inl ⟨rfl,⟨hG2.blk i1 nf,hG2.blk i2 ng,hG2.blk i3 n0,hG2.blk i4 n1,hG2.blk i5 n2,i6.keep hDw hLw hdB hlB hG2,hG3⟩,(fun e=>by cases e),(fun e=>by cases e),(fun _=>⟨s',S',⟨0,s1,S1,hC,.inr ⟨rfl,hAp⟩⟩,hD2,hL2⟩)⟩
     ·exact .inr ⟨x,hz,rfl,s',S',⟨0,s1,S1,hC,.inr ⟨rfl,hAp⟩⟩,hD2,hL2,hG3⟩
   | k+2,h=>exact absurd h (by simp[cmFs]))
  ⟨⟨hb.below hBV hb.lt,f0,h0.below hBV h0.lt,h1.below hBV h1.lt,h2.below hBV h2.lt,hA.grow hBV,GrowBut.below hBV⟩,(fun _=>rfl),(fun e=>by cases e),(fun e=>by cases e)⟩
 refine HS.mono ?_
 rintro e w2 (⟨rfl,⟨_,_,_,_,_,_,h5⟩,_,_,r2⟩|⟨x,hx,rfl,s',S',hC,hD2,hL2,hG2⟩)
 ·obtain⟨s',S',hC,hD2,hL2⟩:=r2 rfl
  exact⟨0,s',S',rfl,hC,hD2,hL2,h5⟩
 ·exact⟨x,s',S',rfl,hC,hD2,hL2,hG2⟩
theorem fcommit_gives (w:World)(f l d many B:Nat)(fr pg:Int)(s:DS)(S:LgS)(hb:BlkIs w f 75 (flFC l fr pg))(hL:LogIs w l d fr pg S)(hD:DkS w d many s)(hO:s.Ok)(hl:s.xs.length<=100000)(hfr:(S.fs.length:Int)<=fr)(hy:∀x∈S.fs,x.y.length=512)(hpl:planOk fr pg=true)(hmany:(many:Int)=2+9*fr+8*pg)(hmax:many<=100000)(P:Nat)(hP:(P:Int)=pg)(hP2:P<=1000)(hYb:∀k y,pgY S.fs k=some y->0<=k/\k<(P:Int))(hok:0<=S.sz/\S.sz<=2000)(hsr:S.sr<=1000000)(hep:S.ep<=1000000)
  (A1:Option Addr) (n c:Nat) (xs:Nat->Int×Option Addr×Nat) (pw:Nat->Int×List UInt8) (hn:n<=1000) (hA:PwArgs w B A1 n xs pw) (hdB:d<B) (hlB:l<B) (z:Int) :
  Calls Tryz.prog 70 #[.pointer (some ⟨f,0,none⟩),.int .i64 z,.slice A1 n c] w fun e w'=>∃x s' S',e = .returned (.int .i64 x)/\ComOut fr pg P s S n xs pw z x s' S'/\DkS w' d many s'/\LogIs w' l d fr pg S'/\GrowBut (fun k=>k=d∨k=l) w w':=by
 have hpr:=(planOk_iff fr pg).1 hpl
 obtain⟨W3,hW3⟩:∃W3,W3=((w.alloc (.cells #[.pointer (some ⟨f,0,none⟩)] 31)).alloc (.cells #[.int .i64 z] 3)).alloc (.cells #[.slice A1 n c] 127):=⟨_,rfl⟩
 have hB3:Below w.heap.size w W3:=by rw[hW3];exact(((Below.refl _ w).alloc (zG _) _).alloc (by simp) _).alloc (by simp;omega) _
 have b0:BlkIs W3 w.heap.size 31 #[.pointer (some ⟨f,0,none⟩)]:=by rw[hW3];exact((BlkIs.new w _ _).alloc _).alloc _
 have b1:BlkIs W3 (w.heap.size+1) 3 #[.int .i64 z]:=by
  have:=BlkIs.new (w.alloc (.cells #[.pointer (some ⟨f,0,none⟩)] 31)) 3 #[.int .i64 z]
  rw[World.size_alloc] at this
  rw[hW3]
  exact this.alloc _
 have b2:BlkIs W3 (w.heap.size+1+1) 127 #[.slice A1 n c]:=by
  have:=BlkIs.new ((w.alloc (.cells #[.pointer (some ⟨f,0,none⟩)] 31)).alloc (.cells #[.int .i64 z] 3)) 127 #[.slice A1 n c]
  rw[World.size_alloc,World.size_alloc] at this
  rw[hW3]
  exact this
 have hfl:=hb.lt
 have hdl:=hD.lt
 have hll:l<w.heap.size:=by obtain⟨_,A,c,vs,hlg,_⟩:=hL;exact hlg.lt
 have nf:¬ (f=d∨f=l):=fun e=>by
  obtain⟨rr,A',c',hdk,_⟩:=DkIs.has hD
  obtain⟨_,A,c,vs,hlg,_⟩:=hL
  rcases e with rfl|rfl
  ·exact BlkIs.ne_type hb hdk (by decide) rfl
  ·exact BlkIs.ne_type hb hlg (by decide) rfl
 have hb3:=hb.below hB3 hfl
 have hL3:=hL.grow hB3
 have hD3:=hD.grow hB3
 have hA3:=hA.grow hB3
 have c0:W3.cell? ⟨w.heap.size,0,none⟩=some (.pointer (some ⟨f,0,none⟩)):=b0.boxed
 have HN:=fnone_gives hb3
 have hBd:Below W3.heap.size W3 W3.drew:=(Below.refl _ _).drew
 have hAd:=hA3.grow hBd
 have HAp:=append_gives W3.drew l d many s fr pg S (hL3.grow hBd) (hD3.grow hBd) hO (by omega) A1 n c xs pw hn hAd.row hAd.bys hpl z hfr hok (by omega) (by omega) (by omega)
 have T0:∀W,Below W3.heap.size W3 W->W.cell? ⟨w.heap.size,0,none⟩=some (.pointer (some ⟨f,0,none⟩)):=fun W hW=>(b0.below hW b0.lt).boxed
 have T1:∀W,Below W3.heap.size W3 W->W.cell? ⟨w.heap.size+1,0,none⟩=some (.int .i64 z):=fun W hW=>(b1.below hW b1.lt).boxed
 have T2:∀W,Below W3.heap.size W3 W->W.cell? ⟨w.heap.size+1+1,0,none⟩=some (.slice A1 n c):=fun W hW=>(b2.below hW b2.lt).boxed
 have TF:∀W,Below W3.heap.size W3 W->W.cell? ⟨f,0,none⟩=some (.pointer (some ⟨l,0,none⟩)):=fun W hW=>by rw[(hb3.below hW hb3.lt).cell];rfl
 go_enter Tryz.func70,Tryz.ntmps70
 rw[hW3] at c0
 have HW3:=Lib.hid hW3
 clear hW3
 go_wp2_with (go_at_call 63;rw[<-HW3.out];refine HN.mono ?_;rintro e w' ⟨rfl,rfl⟩)
 have hS0:Below W3.heap.size W3 W3.drew:=hBd
 refine RegM.start (fun W=>Below W3.heap.size W3 W) [6,7] (by kernel_rfl) ?_
 refine RegM.take1 0 (.pointer (some ⟨f,0,none⟩)) rfl (by kernel_rfl) (by kernel_rfl) (by kernel_rfl) (by kernel_rfl) (by kernel_rfl) rfl (fun _ _ _ h=>h) hS0 (RegF.yld rfl (fun W hW=>by have q:=T0 W hW;go_simp)) ?_
 simp only[zD,zB,Act.put,zA,zF,zE]
 refine RegM.take1 1 (.pointer (some ⟨f,0,none⟩)) rfl (by kernel_rfl) (by kernel_rfl) (by kernel_rfl) (by kernel_rfl) (by kernel_rfl) rfl (fun _ _ _ h=>h) hS0 (RegF.yld rfl (fun W hW=>by go_simp)) ?_
 simp only[zD,zC,zB,Act.put,zA,zF,zE]
 refine RegM.take1 2 (.pointer (some ⟨f,0,none⟩)) rfl (by kernel_rfl) (by kernel_rfl) (by kernel_rfl) (by kernel_rfl) (by kernel_rfl) rfl (fun _ _ _ h=>h) hS0 (RegF.yld rfl (fun W hW=>by go_simp)) ?_
 simp only[zD,zC,zB,Act.put,zA,zF,zE]
 refine RegM.take1 3 (.pointer (some ⟨l,0,none⟩)) rfl (by kernel_rfl) (by kernel_rfl) (by kernel_rfl) (by kernel_rfl) (by kernel_rfl) rfl (fun _ _ _ h=>h) hS0 (RegF.yld rfl (fun W hW=>by have q:=TF W hW;go_simp)) ?_
 simp only[zD,zC,zB,Act.put,zA,zF,zE]
 refine RegM.take1 4 (.int .i64 z) rfl (by kernel_rfl) (by kernel_rfl) (by kernel_rfl) (by kernel_rfl) (by kernel_rfl) rfl (fun _ _ _ h=>h) hS0 (RegF.yld rfl (fun W hW=>by have q:=T1 W hW;go_simp)) ?_
 simp only[zD,zC,zB,Act.put,zA,zF,zE]
 refine RegM.take1 5 (.slice A1 n c) rfl (by kernel_rfl) (by kernel_rfl) (by kernel_rfl) (by kernel_rfl) (by kernel_rfl) rfl (fun _ _ _ h=>h) hS0 (RegF.yld rfl (fun W hW=>by have q:=T2 W hW;go_simp)) ?_
 simp only[zD,zC,zB,Act.put,zA,zF,zE]
 refine RegM.one 6 (by kernel_rfl) ?_
 refine RegF.opC 116 #[.tmp 13,.tmp 14,.tmp 15] #[71,3,127] rfl rfl rfl (enters_of Tryz.func116 (by kernel_rfl) rfl) #[.pointer (some ⟨l,0,none⟩),.int .i64 z,.slice A1 n c] (by simp only[zJ,zK,zL];rfl) (HAp.mono ?_)
 rintro e w4 ⟨x,s4,S4,rfl,hOut,hD4,hL4,hG4⟩
 refine⟨_,rfl,fun h=>(by cases h),?_⟩
 simp only[zD,zC,zB,Act.put,zA,zF,zE]
 refine RegM.one 7 (by kernel_rfl) (RegF.opV (w':=w4) (.int .i64 x) rfl rfl (by go_simp) ⟨fun h=>(by cases h),RegM.done (by kernel_rfl) ?_⟩)
 simp only[zD,zC,zB,Act.put,zA,zF,zE]
 have hG34:GrowBut (fun k=>k=d∨k=l) W3 w4:=(GrowBut.grown (grownBy_drew W3 none) (fun r e=>by cases e)).trans hG4
 have hGw4:GrowBut (fun k=>k=d∨k=l) w w4:=(GrowBut.below hB3).trans hG34
 have s3:w.heap.size+3<=W3.heap.size:=by have:=b2.lt;omega
 have b04:=hG34.blk b0 (fun e=>by omega)
 have b14:=hG34.blk b1 (fun e=>by omega)
 have b24:=hG34.blk b2 (fun e=>by omega)
 have hb4:=hG34.blk hb3 nf
 have hA4:=hA3.keep hD3 hL3 hdB hlB hG34
 clear T0 T1 T2 TF HAp HN c0 hAd
 have c2:w4.cell? ⟨w.heap.size+1+1,0,none⟩=some (.slice A1 n c):=b24.boxed
 have c0:w4.cell? ⟨w.heap.size,0,none⟩=some (.pointer (some ⟨f,0,none⟩)):=b04.boxed
 have cf:w4.cell? ⟨f,1,none⟩=some (.int .i64 fr):=by rw[hb4.cell];rfl
 by_cases hx:x=160
 ·subst hx
  obtain⟨rfl,rfl⟩:=hOut.full
  by_cases hnf:(n:Int)<=fr
  ·have hg:¬ fr<(n:Int):=by omega
   have hBd4:∀q,Below w4.heap.size w4 (w4.drewN q):=fun q=>⟨rfl,rfl,rfl,zG _,fun _ _=>rfl⟩
   have HC:∀q,_:=fun q=>cmS_gives (w4.drewN q) f l d many w.heap.size (w.heap.size+1) (w.heap.size+1+1) B fr pg s4 S4 (hb4.below (hBd4 q) hb4.lt) (hL4.grow (hBd4 q)) (hD4.grow (hBd4 q)) hO hl hfr hy hpl hmany hmax P hP hP2 hYb hok hsr hep A1 n c xs pw hn (hA4.grow (hBd4 q)) hdB hlB z (b04.below (hBd4 q) b04.lt) (b14.below (hBd4 q) b14.lt) (b24.below (hBd4 q) b24.lt)
   have HO:=Lib.hid hOut
   clear hOut hO hl hfr hy hpl hmany hmax hYb hok hsr hep hb hL hD hA hb3 hL3 hD3 hA3 hA4 b0 b1 b2
   go_wp2_with fail
   go_quiet (fail)
   have c0q:(w4.drewN nq).cell? ⟨w.heap.size,0,none⟩=some (.pointer (some ⟨f,0,none⟩)):=c0
   go_wp2_with (go_at_call 117;refine(HC nq).mono ?_;rintro e w6 ⟨x,s',S',rfl,⟨x1,s1,S1,hC,hq⟩,hD6,hL6,hG6⟩;have HQ:=Lib.hid hq;clear hq)
   go_ret
   exact⟨x,s',S',rfl,.inr ⟨HO.out,hnf,x1,s1,S1,hC,HQ.out⟩,hD6,hL6,hGw4.trans ((GrowBut.below (hBd4 nq)).trans hG6)⟩
  ·have hg:fr<(n:Int):=by omega
   have HO:=Lib.hid hOut
   clear hOut hO hl hfr hy hpl hmany hmax hYb hok hsr hep hb hL hD hA hb3 hL3 hD3 hA3 hA4 b0 b1 b2
   go_wp2_with fail
   go_quiet (fail)
   go_wp2
   go_ret
   have hBq:Below w4.heap.size w4 (w4.drewN nq):=⟨rfl,rfl,rfl,zG _,fun _ _=>rfl⟩
   exact⟨160,s4,S4,rfl,.inl ⟨HO.out,fun h=>by have:=h.2;omega⟩,hD4.grow hBq,hL4.grow hBq,hGw4.trans (GrowBut.below hBq)⟩
 ·have hxb:(x == 160)=false:=by rw[beq_eq_false_iff_ne];exact hx
  have HO:=Lib.hid hOut
  clear hOut hO hl hfr hy hpl hmany hmax hYb hok hsr hep hb hL hD hA hb3 hL3 hD3 hA3 hA4 b0 b1 b2
  go_wp2_with fail
  go_quiet (fail)
  go_wp2
  go_ret
  have hBq:Below w4.heap.size w4 (w4.drewN nq):=⟨rfl,rfl,rfl,zG _,fun _ _=>rfl⟩
  exact⟨x,s4,S4,rfl,.inl ⟨HO.out,fun h=>hx h.1⟩,hD4.grow hBq,hL4.grow hBq,hGw4.trans (GrowBut.below hBq)⟩
theorem pageW_wide {fr:Int}{S:LgS}(hy:∀x∈S.fs,x.y.length=512)(p:Nat):Wide (pageW fr S p):=by
 intro x hx
 unfold pageW at hx
 split at hx
 ·next y h =>
  obtain⟨u,hu,rfl⟩:=pgY_mem h
  exact wrL_wide (by have:=hy u hu;omega) x hx
 ·cases hx
theorem layW_wide {fr:Int}{S:LgS}(hy:∀x∈S.fs,x.y.length=512):∀k,Wide (layW fr S k)
 | 0=>fun x h=>by cases h
 | k+1=>fun x h=>by
  rcases List.mem_append.1 h with h|h
  ·exact layW_wide hy k x h
  ·exact pageW_wide hy k x h
theorem chk_plain {fr pg:Int}{G:Nat->List UInt8}{S:LgS}{i:Nat}(h:StP fr pg G S i)(hi:i<=1000)(hpl:planOk fr pg=true)(P:Nat)(left:Int) :
  ∃G2,appD ⟨G,[],left,false⟩ (layW fr S P) (wrL ((S.sr+1) % 2) (hEnc (S.sr+1) (S.ep+1) S.sz 0) 1)=(⟨G2,[],left,false⟩,0)/\StP fr pg G2 ⟨S.sr+1,S.ep+1,S.sz,[]⟩ (i+1)/\∀p,p<P->fileY G2 fr ⟨S.sr+1,S.ep+1,S.sz,[]⟩ p=fileY G fr S p:=by
 have hpr:=(planOk_iff fr pg).1 hpl
 obtain⟨⟨hz,hli⟩,h1,h2,h3,h4⟩:=id h
 have hy:=h.y
 have hI:=hli.layW h3 (xs:=layW fr S P) (k:=P) (fun x hx=>hx) (laid_len _ G hli.len (layW_wide hy P))
 obtain⟨G2,e,hLI⟩:=hI.reset (by omega) (by omega) ⟨h4.1,by omega⟩ left
 have e2:=layD_free (s:=⟨laid G (layW fr S P),[],left,false⟩) rfl (wrL ((S.sr+1) % 2) (hEnc (S.sr+1) (S.ep+1) S.sz 0) 1)
 rw[e2] at e
 injection e with e _
 injection e with e _ _ _
 refine⟨laid (laid G (layW fr S P)) (wrL ((S.sr+1) % 2) (hEnc (S.sr+1) (S.ep+1) S.sz 0) 1),appD_free (s:=⟨G,[],left,false⟩) rfl _ _,⟨⟨S.sz.toNat,?_⟩,by show S.sr+1<=_;omega,by show S.ep+1<=_;omega,by show ((0:Nat):Int)<=fr;omega,h4⟩,fun p hp => ?_⟩
 ·rw[<-e] at hLI
  exact hLI
 ·rw[<-fileY_empty (S':=⟨S.sr+1,S.ep+1,S.sz,[]⟩) hy rfl hp]
  unfold fileY fpY
  show secsOf _ _ 8=secsOf _ _ 8
  rw[headL_one ⟨h4.1,by omega⟩ ⟨by omega,by omega⟩]
  refine secsOf_away _ 8 (fun q h5 h6=>laid_away _ _ q (fun x hx => ?_))
  obtain rfl:=List.mem_singleton.1 hx
  show (S.sr+1) % 2≠q
  omega


theorem fileY_pages {G H:Nat->List UInt8}{fr:Int}{S:LgS}(h:∀k,2+9*fr.toNat<=k->H k=G k)(p:Nat):fileY H fr S p=fileY G fr S p:=by
 unfold fileY fpY
 cases pgY S.fs (p:Int) with
 | some y=>rfl
 | none=>exact secsOf_away _ 8 (fun q h1 h2=>h q (by omega))
theorem syn_above {s:DS}{G:Nat->List UInt8}{B:Nat}(hg:∀k,B<=k->s.g k=G k)(hx:∀x∈s.xs,x.1<B):(∀k,B<=k->(synD s).1.g k=G k)/\∀x∈(synD s).1.xs,x.1<B:=by
 unfold synD
 split
 ·exact⟨hg,hx⟩
 ·refine⟨fun k hk => ?_,fun x h=>by cases h⟩
  show laid s.g s.xs k=G k
  rw[laid_away _ _ k (fun x hx2 e=>by have:=hx x hx2;omega),hg k hk]
theorem wrs_above {s:DS}{G:Nat->List UInt8}{B:Nat}(hg:∀k,B<=k->s.g k=G k)(hx:∀x∈s.xs,x.1<B){L:List (Nat×List UInt8)}(hL:∀x∈L,x.1<B):(∀k,B<=k->(wrs s L).1.g k=G k)/\∀x∈(wrs s L).1.xs,x.1<B :=
 ⟨fun k hk=>by rw[(wrs_g L s).1];exact hg k hk,fun x h=>by rcases wrs_mem L s x h with h|h;exact hx x h;exact hL x h⟩
theorem appD_above {s:DS}{G:Nat->List UInt8}{B:Nat}(hg:∀k,B<=k->s.g k=G k)(hx:∀x∈s.xs,x.1<B){L1 L2:List (Nat×List UInt8)}(h1:∀x∈L1,x.1<B)(h2:∀x∈L2,x.1<B):(∀k,B<=k->(appD s L1 L2).1.g k=G k)/\∀x∈(appD s L1 L2).1.xs,x.1<B:=by
 obtain⟨a1,a2⟩:=wrs_above hg hx h1
 obtain⟨b1,b2⟩:=syn_above a1 a2
 obtain⟨c1,c2⟩:=wrs_above b1 b2 h2
 obtain⟨d1,d2⟩:=syn_above c1 c2
 unfold appD layD
 split
 ·split
  ·split
   ·exact⟨d1,d2⟩
   ·exact⟨c1,c2⟩
  ·exact⟨b1,b2⟩
 ·exact⟨a1,a2⟩
def PgIn (pg:Int)(S:LgS):Prop:=∀x∈S.fs,0<=x.p/\x.p<pg
theorem pgY_p:∀(l:List FrP) (r:Option (List UInt8)) {p:Int} {y:List UInt8},l.foldl (fun r (x:FrP)=>if x.p=p then some x.y else r) r=some y->r=some y∨∃x∈l,x.p=p
 | [],r,p,y,h => .inl h
 | x::l,r,p,y,h=>by
  rw[List.foldl_cons] at h
  rcases pgY_p l _ h with h1|⟨u,h1,h2⟩
  ·by_cases hp:x.p=p
   ·exact .inr ⟨x,by simp,hp⟩
   ·rw[if_neg hp] at h1
    exact .inl h1
  ·exact .inr ⟨u,by simp[h1],h2⟩
theorem PgIn.b {pg:Int}{S:LgS}(h:PgIn pg S){P:Nat}(hP:(P:Int)=pg):∀k y,pgY S.fs k=some y->0<=k/\k<(P:Int):=fun k y hy=>by
 rcases pgY_p S.fs none hy with h1|⟨x,h1,rfl⟩
 ·cases h1
 ·have:=h x h1
  omega
theorem addK_p {ep:Nat}{z:Int}{fs:List FrP}{n:Nat}{pw:Nat->Int×List UInt8}:∀k x,x∈addK ep z fs n pw k->x∈fs∨∃j,j<k/\x.p=(pw j).1
 | 0,x,h => .inl h
 | k+1,x,h=>by
  unfold addK at h
  rcases List.mem_append.1 h with h|h
  ·rcases addK_p k x h with h1|⟨j,h1,h2⟩
   ·exact .inl h1
   ·exact .inr ⟨j,by omega,h2⟩
  ·rw[List.mem_singleton] at h
   subst h
   exact .inr ⟨k,by omega,rfl⟩
theorem PgIn.more {pg z:Int}{S:LgS}{n:Nat}{pw:Nat->Int×List UInt8}(h:PgIn pg S)(hm:∀k,k<n->0<=(pw k).1/\(pw k).1<pg):PgIn pg (newS S z n pw):=fun x hx=>by
 rcases addK_p n x hx with h1|⟨j,h1,h2⟩
 ·exact h x h1
 ·rw[h2]
  exact hm j h1
def lastPw (pw:Nat->Int×List UInt8)(p:Int):Nat->Option (List UInt8)
 | 0=>none
 | k+1=>if (pw k).1=p then some (pw k).2 else lastPw pw p k
theorem pgY_addK (ep:Nat)(z:Int)(fs:List FrP)(n:Nat)(pw:Nat->Int×List UInt8)(p:Int):∀k,pgY (addK ep z fs n pw k) p=match lastPw pw p k with|some y=>some y|none=>pgY fs p
 | 0=>rfl
 | k+1=>by
  unfold addK lastPw
  rw[pgY_snoc]
  show (if (pw k).1=p then some (pw k).2 else _)=_
  by_cases h:(pw k).1=p
  ·rw[if_pos h,if_pos h]
  ·rw[if_neg h,if_neg h]
   exact pgY_addK ep z fs n pw p k
theorem fileY_newS (G:Nat->List UInt8)(fr:Int)(S:LgS)(z:Int)(n:Nat)(pw:Nat->Int×List UInt8)(p:Nat):fileY G fr (newS S z n pw) p=(lastPw pw (p:Int) n).getD (fileY G fr S p):=by
 unfold fileY fpY
 show (pgY (addK S.ep z S.fs n pw n) (p:Int)).getD _=_
 rw[pgY_addK]
 cases lastPw pw (p:Int) n<;>rfl
def tellF (G:Nat->List UInt8)(fr:Int)(S:LgS)(P:Nat):List UInt8:=toldF (fileY G fr S) S.sz P
def wantF (Y:Nat->List UInt8)(z:Int)(n:Nat)(pw:Nat->Int×List UInt8)(P:Nat):List UInt8:=toldF (fun p=>(lastPw pw (p:Int) n).getD (Y p)) z P
theorem toldF_congr {Y Z:Nat->List UInt8}(sz:Int):∀P,(∀p,p<P->Y p=Z p)->toldF Y sz P=toldF Z sz P
 | 0,_=>rfl
 | P+1,h=>by
  unfold toldF
  rw[toldF_congr sz P (fun p hp=>h p (by omega)),h P (by omega)]
theorem tellF_new {G H:Nat->List UInt8}{fr:Int}{S T:LgS}{P:Nat}{z:Int}{n:Nat}{pw:Nat->Int×List UInt8}(h:∀p,p<P->fileY H fr T p=fileY G fr S p):tellF H fr (newS T z n pw) P=wantF (fileY G fr S) z n pw P:=by
 unfold tellF wantF
 show toldF _ z P=_
 exact toldF_congr z P (fun p hp=>by rw[fileY_newS,h p hp])
theorem tellF_same {G H:Nat->List UInt8}{fr:Int}{S T:LgS}{P:Nat}(h:∀p,p<P->fileY H fr T p=fileY G fr S p)(hz:T.sz=S.sz):tellF H fr T P=tellF G fr S P:=by
 unfold tellF
 rw[hz]
 exact toldF_congr S.sz P h
def MayCom (fr pg z:Int)(n:Nat)(pw:Nat->Int×List UInt8):Prop:=(1<=n/\0<=z/\z<=pg/\∀k,k<n->0<=(pw k).1/\(pw k).1<pg)/\(n:Int)<=fr
section
variable {fr pg z x:Int}{G:Nat->List UInt8}{S S':LgS}{i n P:Nat}{xs:Nat->Int×Option Addr×Nat}{pw:Nat->Int×List UInt8}{s':DS}
theorem app_above (h:StP fr pg G S i)(hpl:planOk fr pg=true)(hx:∀k,k<n->(pw k).1=(xs k).1)(hy:∀k,k<n->(pw k).2.length=512)(left:Int)(st:Bool)(ha:AppOut fr pg ⟨G,[],left,st⟩ S n xs pw z x s' S'):(∀k,2+9*fr.toNat<=k->s'.g k=G k)/\∀u∈s'.xs,u.1<2+9*fr.toNat:=by
 have hpr:=(planOk_iff fr pg).1 hpl
 obtain⟨⟨hz,hli⟩,h1,h2,h3,h4⟩:=id h
 have hR:=rightC_iff (z:=z) hpl hx
 rcases ha with⟨_,_,rfl,_⟩|⟨_,_,_,rfl,_⟩|⟨hr,hf,fs',r,rfl,hr2,_,rfl,_⟩
 ·exact⟨fun _ _=>rfl,fun u hu=>by cases hu⟩
 ·exact⟨fun _ _=>rfl,fun u hu=>by cases hu⟩
 ·have hm:=hR.1 hr
  have hp:PwOk pg z n pw:=⟨hm.2.2.2,hy,hm.2.1,hm.2.2.1⟩
  have hO:=addK_ok hli.on.fr.ok hp (by omega) (by omega) n (zG _)
  have hlen:=addK_length S.ep z S.fs n pw n
  rw[hr2]
  refine appD_above (fun _ _=>rfl) (fun u hu=>by cases hu) (fun u hu => ?_) (fun u hu => ?_)
  ·have:=frsW_first hO S.fs.length u hu
   omega
  ·have:=wrL_first hu
   omega
theorem app_tell (h:StP fr pg G S i)(hp:PgIn pg S)(hi:i<=1000)(hpl:planOk fr pg=true)(hx:∀k,k<n->(pw k).1=(xs k).1)(hy:∀k,k<n->(pw k).2.length=512)(left:Int)(ha:AppOut fr pg ⟨G,[],left,false⟩ S n xs pw z x s' S') :
  ∃G',s'=⟨G',[],left,false⟩/\StP fr pg G' S' (i+1)/\PgIn pg S'/\((x=0/\MayApp fr pg S z n pw/\tellF G' fr S' P=wantF (fileY G fr S) z n pw P)∨(¬ x=0/\¬ MayApp fr pg S z n pw/\tellF G' fr S' P=tellF G fr S P)):=by
 obtain⟨hab,_⟩:=app_above h hpl hx hy left false ha
 obtain⟨G',rfl,hSt,hq⟩:=app_plain h hi hpl hx hy left ha
 rcases hq with⟨h1,h2,rfl⟩|⟨h1,h2,rfl,rfl⟩
 ·exact⟨G',rfl,hSt,hp.more h2.1.2.2.2,.inl ⟨h1,h2,tellF_new (fun p _=>fileY_pages hab p)⟩⟩
 ·exact⟨G',rfl,hSt,hp,.inr ⟨h1,h2,rfl⟩⟩
theorem app_full (ha:AppOut fr pg ⟨G,[],0,false⟩ S n xs pw z x s' S')(hpl:planOk fr pg=true)(hx:∀k,k<n->(pw k).1=(xs k).1)(h1:¬ MayApp fr pg S z n pw)(hm:MayCom fr pg z n pw):x=160:=by
 have hR:=rightC_iff (z:=z) hpl hx
 rcases ha with⟨h,_⟩|⟨_,_,h,_⟩|⟨_,h,_⟩
 ·exact absurd (hR.2 hm.1) h
 ·exact h
 ·exact absurd ⟨hm.1,h⟩ h1
theorem com_plain (h:StP fr pg G S i)(hp:PgIn pg S)(hi:i<=900)(hpl:planOk fr pg=true)(hx:∀k,k<n->(pw k).1=(xs k).1)(hy:∀k,k<n->(pw k).2.length=512)(ha:ComOut fr pg P ⟨G,[],0,false⟩ S n xs pw z x s' S') :
  ∃G',s'=⟨G',[],0,false⟩/\StP fr pg G' S' (i+2)/\PgIn pg S'/\((x=0/\MayCom fr pg z n pw/\tellF G' fr S' P=wantF (fileY G fr S) z n pw P)∨(¬ x=0/\¬ MayCom fr pg z n pw/\tellF G' fr S' P=tellF G fr S P)):=by
 have up:∀{G:Nat->List UInt8} {S:LgS},StP fr pg G S (i+1)->StP fr pg G S (i+2):=fun {G S} k=>⟨k.li,by have:=k.sr;omega,by have:=k.ep;omega,k.fs,k.sz⟩
 rcases ha with⟨ha,hne⟩|⟨_,hnf,x1,s1,S1,⟨r,hr,rfl,rfl,hq⟩,hend⟩
 ·obtain⟨G',rfl,hSt,hpg,hq⟩:=app_tell (P:=P) h hp (by omega) hpl hx hy 0 ha
  refine⟨G',rfl,up hSt,hpg,?_⟩
  rcases hq with⟨h1,h2,h3⟩|⟨h1,h2,h3⟩
  ·exact .inl ⟨h1,⟨h2.1,by have:=h2.2;omega⟩,h3⟩
  ·exact .inr ⟨h1,fun hm=>hne ⟨app_full ha hpl hx h2 hm,hm.2⟩,h3⟩
 ·obtain⟨G2,e,hSt,hY⟩:=chk_plain h (by omega) hpl P 0
  rw[e] at hr
  subst hr
  have hS1:S1=⟨S.sr+1,S.ep+1,S.sz,[]⟩:=by
   rcases hq with⟨_,e⟩|⟨h,_⟩
   ·exact e
   ·exact absurd rfl h
  subst hS1
  rcases hend with⟨h1,_⟩|⟨_,ha⟩
  ·exact absurd rfl h1
  ·obtain⟨G3,rfl,hSt3,hpg,hq3⟩:=app_tell (P:=P) hSt (fun u hu=>by cases hu) (by omega) hpl hx hy 0 ha
   refine⟨G3,rfl,hSt3,hpg,?_⟩
   rcases hq3 with⟨h1,h2,h3⟩|⟨h1,h2,h3⟩
   ·refine .inl ⟨h1,⟨h2.1,hnf⟩,h3.trans (toldF_congr z P (fun p hp=>by rw[hY p hp]))⟩
   ·refine .inr ⟨h1,fun hm=>h2 ⟨hm.1,?_⟩,h3.trans (tellF_same hY rfl)⟩
    show ((0:Nat):Int)+(n:Int)<=fr
    omega
end
theorem okF_free (G:Nat->List UInt8):(⟨G,[],0,false⟩:DS).Ok:=⟨by show (-1000000:Int)<=0;decide,by show (0:Int)<=9223372036854775807;decide,fun h=>by cases h⟩
structure FhIs (W0:World)(d f l many:Nat)(fr pg:Int)(s:DS)(S:LgS)(W:World):Prop where
 up:Below W0.heap.size W0 W
 dk:DkS W d many s
 lg:LogIs W l d fr pg S
 fb:BlkIs W f 75 (flFC l fr pg)
 gd:W0.heap.size<=d
 gl:W0.heap.size<=l
section
variable {W0 W W':World}{d f l many:Nat}{fr pg:Int}{s s':DS}{S S':LgS}
theorem FhIs.grow (h:FhIs W0 d f l many fr pg s S W)(hB:Below W.heap.size W W'):FhIs W0 d f l many fr pg s S W' :=
 ⟨h.up.trans (hB.mono h.up.size),h.dk.grow hB,h.lg.grow hB,h.fb.below hB h.fb.lt,h.gd,h.gl⟩
theorem FhIs.apart (h:FhIs W0 d f l many fr pg s S W):¬ (f=d∨f=l):=fun e=>by
 obtain⟨rr,A',c',hdk,_⟩:=DkIs.has h.dk
 obtain⟨_,A,c,vs,hlg,_⟩:=h.lg
 rcases e with rfl|rfl
 ·exact BlkIs.ne_type h.fb hdk (by decide) rfl
 ·exact BlkIs.ne_type h.fb hlg (by decide) rfl
theorem FhIs.ne (h:FhIs W0 d f l many fr pg s S W){g:Nat}{T:TypeId}{cs:Array Value}(hg:BlkIs W g T cs)(h1:T≠70)(h2:T≠104):¬ (g=d∨g=l):=fun e=>by
 obtain⟨rr,A',c',hdk,_⟩:=DkIs.has h.dk
 obtain⟨_,A,c,vs,hlg,_⟩:=h.lg
 rcases e with rfl|rfl
 ·exact BlkIs.ne_type hg hdk h1 rfl
 ·exact BlkIs.ne_type hg hlg h2 rfl
theorem FhIs.lts (h:FhIs W0 d f l many fr pg s S W):d<W.heap.size/\l<W.heap.size:=by
 obtain⟨_,A,c,vs,hlg,_⟩:=h.lg
 exact⟨h.dk.lt,hlg.lt⟩
theorem FhIs.but (h:FhIs W0 d f l many fr pg s S W)(hG:GrowBut (fun k=>k=d∨k=l) W W')(hD:DkS W' d many s')(hL:LogIs W' l d fr pg S'):FhIs W0 d f l many fr pg s' S' W' :=
 ⟨h.up.trans (hG.toBelow h.up.size (fun k e=>by rcases e with rfl|rfl;exact h.gd;exact h.gl)),hD,hL,hG.blk h.fb h.apart,h.gd,h.gl⟩
variable {G:Nat->List UInt8}{i P:Nat}
theorem fcommit_ac (h:FhIs W0 d f l many fr pg s S W)(hO:s.Ok)(hl:s.xs.length<=100000)(hS:StP fr pg G S i)(hp:PgIn pg S)(hi:i<=900)(hpl:planOk fr pg=true)(hm:(many:Int)=2+9*fr+8*pg)(hmax:many<=100000)(hP:(P:Int)=pg)
  {B:Nat} {A1:Option Addr} {n c:Nat} {xs:Nat->Int×Option Addr×Nat} {pw:Nat->Int×List UInt8} (hn:n<=1000) (hA:PwArgs W B A1 n xs pw) (hd:d<B) (hlB:l<B) (hP2:P<=1000) (z:Int) :
  Calls Tryz.prog 70 #[.pointer (some ⟨f,0,none⟩),.int .i64 z,.slice A1 n c] W fun e w'=>∃x s' S',e = .returned (.int .i64 x)/\ComOut fr pg P s S n xs pw z x s' S'/\FhIs W0 d f l many fr pg s' S' w'/\GrowBut (fun k=>k=d∨k=l) W w':=by
 have hpr:=(planOk_iff fr pg).1 hpl
 have hsr:=hS.sr
 have hep:=hS.ep
 have hsz:=hS.sz
 refine(fcommit_gives W f l d many B fr pg s S h.fb h.lg h.dk hO hl hS.fs hS.y hpl hm hmax P hP hP2 (hp.b hP) ⟨hsz.1,by omega⟩ (by omega) (by omega) A1 n c xs pw hn hA hd hlB z).mono ?_
 rintro e w' ⟨x,s',S',rfl,hC,hD,hL,hG⟩
 exact⟨x,s',S',rfl,hC,h.but hG hD hL,hG⟩
end
theorem fopenW_gives (w:World)(d:Nat)(fr pg:Int)(Q:Nat->World->Prop)(H:Calls Tryz.prog 31 #[.pointer (some ⟨d,0,none⟩),.agg #[.int .i64 fr,.int .i64 pg]] (w.alloc (.cells #[.int .i64 fr,.int .i64 pg] 25)) fun e w'=>∃l,e = .returned (.tuple #[.pointer (some ⟨l,0,none⟩),.int .i64 0])/\BlkIs w' w.heap.size 25 #[.int .i64 fr,.int .i64 pg]/\Q l w') :
  Calls Tryz.prog 8 #[.pointer (some ⟨d,0,none⟩),.agg #[.int .i64 fr,.int .i64 pg]] w fun e w'=>∃l w2,e = .returned (.tuple #[.pointer (some ⟨w2.heap.size,0,none⟩),.int .i64 0])/\Q l w2/\w'=w2.alloc (.cells (flFC l fr pg) 75):=by
 have b0:=BlkIs.new w 25 #[.int .i64 fr,.int .i64 pg]
 go_enter Tryz.func8,Tryz.ntmps8
 go_wp2_with (first
  | (refine wp_loadW rfl 25 (.tmp 3) rfl w.heap.size rfl rowPlan (by first|exact b2|exact b0) rfl ?_)
  | (go_at_call 31;refine H.mono ?_;rintro e w2 ⟨l,rfl,b2,hQ⟩))
 exact bodyPost_ret (results_tmp2 rfl _ _ _) rfl ⟨l,w2,rfl,hQ,rfl⟩
def CaBlk (W:World)(k:Nat):Prop:=(∃es c,W.heap[k]? = some (.map es c))∨(∃T cs,BlkIs W k T cs/\cs.size<=64/\∀n,cs[0]? ≠ some (.int .u64 n))∨∃ds,W.heap[k]? = some (.deferred ds)
theorem CaBlk.notB {W:World}{n c:Nat}{A:Option Addr}{l:List UInt8}(h:InB W n A c l)(h0:64<l.length){g o:Nat}(e:A=some ⟨g,o,none⟩):¬ CaBlk W g:=by
 obtain⟨g',o',e',_,hc⟩:=h.lies (by omega)
 rw[e] at e'
 injection e' with e'
 injection e' with e1 e2
 subst e1 e2
 have h64:=hc 64 h0
 rintro(⟨es,c',hm⟩|⟨T,cs,hb,hs,_⟩|⟨ds,hm⟩)
 ·simp[World.cell?,hm] at h64
 ·rw[hb.cell,Array.getElem?_eq_none (by omega)] at h64
  cases h64
 ·simp[World.cell?,hm] at h64
theorem InB.keepC {Mu:Nat->Prop}{W W':World}{A:Option Addr}{c:Nat}{l:List UInt8}(h:InB W W.heap.size A c l)(h0:64<l.length)(hG:GrowBut Mu W W')(hMu:∀k,Mu k->CaBlk W k):InB W' W'.heap.size A c l :=
 hG.inB h (fun g o e _ hm=>CaBlk.notB h h0 e (hMu g hm))
theorem LogIs.keepC {Mu:Nat->Prop}{W W':World}{l d:Nat}{fr pg:Int}{S:LgS}(h:LogIs W l d fr pg S)(hy:∀x∈S.fs,x.y.length=512)(hG:GrowBut Mu W W')(hMu:∀k,Mu k->CaBlk W k)(hl:¬ Mu l):LogIs W' l d fr pg S:=by
 obtain⟨hld,A,c,vs,hlg,hF,hvs⟩:=h
 have hyv:∀v∈vs,v.1.y.length=512:=fun v hv=>hy v.1 (by rw[<-hvs];exact List.mem_map_of_mem hv)
 refine⟨hld,A,c,vs,hG.blk hlg hl,⟨hF.row.keepG hG (fun g o e hm => ?_),hF.out,hF.nil,fun v hv=>⟨(hF.bys v hv).1.keepC (by have:=hyv v hv;omega) hG hMu,(hF.bys v hv).2⟩⟩,hvs⟩
 subst e
 have ho:=(hF.out g o rfl).2
 subst ho
 have hn:vs≠[]:=fun e=>by have:=hF.nil e;cases this
 have h1:0<vs.length:=List.length_pos_iff.2 hn
 obtain⟨g',o',e',_,hr⟩:=hF.row.lies (by omega)
 injection e' with e'
 injection e' with e1 e2
 subst e1 e2
 have hel:=hF.row.elem 0 h1
 rw[vsC_elem vs 0 h1] at hel
 have hc0:=hel 0 (.int .u64 ((vs[0]).1.e:Int)) rfl
 rcases hMu g hm with⟨es,c',hmm⟩|⟨T,cs,hb,hs,hne⟩|⟨ds,hmm⟩
 ·simp[World.cell?,hmm] at hc0
 ·rw[hb.cell] at hc0
  exact hne _ hc0
 ·simp[World.cell?,hmm] at hc0
end Go.Proofs.YtnlimngkagmjpaaGreat
namespace Go.Proofs.YtnlimngkagmjpaaGreat
open Go Go.RowKit Lou Go.Shelf Go.Sort
theorem sortWorld_but {α : Type}[Inhabited α](enc : α -> Value)(w:World)(blk off m:Nat)(dk:Array α)(os:Array Obj):GrowBut (fun k=>k=blk) w (sortWorld enc w blk off m dk os):=by
 refine⟨rfl,rfl,rfl,?_,fun k hk hn => ?_⟩
 ·simp[sortWorld,grow,putRow,mapBlock,Sort.ahead]
 ·have hk2:k<(w.heap.modify blk (onCells (putCells enc off dk))).size:=by simpa using hk
  show ((w.heap.modify blk (onCells (putCells enc off dk)))++os)[k]? = w.heap[k]?
  rw[Array.getElem?_append_left hk2,Array.getElem?_modify,if_neg (fun e=>hn e.symm)]
end Go.Proofs.YtnlimngkagmjpaaGreat
namespace Go.Proofs.YtnlimngkagmjpaaGreat
open Go Go.RowKit Lou Go.Maps Go.Sort Go.Shelf
def layKR_ren:Go.Shelf.Ren:=⟨fun|7=>151|10=>189|n=>n,fun|23=>111|26=>3|3=>119|28=>148|0=>0|27=>147|33=>137|4=>4|n=>n,fun|n=>n⟩
theorem layKR:SlLaysZI.n7 Tryz.prog layKR_ren:={
 mixed:=by kernel_rfl
 f7:=⟨Tryz.f151.name,by decide,Tryz.func151.trans (congrArg some (by kernel_rfl))⟩
 f10:=⟨Tryz.f189.name,by decide,Tryz.func189.trans (congrArg some (by kernel_rfl))⟩
 t0:=Tryz.underlying0
 a0:=Tryz.isAgg0
 z0:=Tryz.sizeOf0
 v0:=Tryz.zeroValue0
 t4:=Tryz.underlying4
 a4:=Tryz.isAgg4
 z4:=Tryz.sizeOf4
 v4:=Tryz.zeroValue4
 t23:=Tryz.underlying111
 a23:=Tryz.isAgg111
 z23:=Tryz.sizeOf111
 v23:=Tryz.zeroValue111
 t26:=Tryz.underlying3
 a26:=Tryz.isAgg3
 z26:=Tryz.sizeOf3
 v26:=Tryz.zeroValue3
 t27:=Tryz.underlying147
 a27:=Tryz.isAgg147
 z27:=Tryz.sizeOf147
 v27:=Tryz.zeroValue147
 t28:=Tryz.underlying148
 a28:=Tryz.isAgg148
 z28:=Tryz.sizeOf148
 v28:=Tryz.zeroValue148
 t33:=Tryz.underlying137
 a33:=Tryz.isAgg137
 z33:=Tryz.sizeOf137
 v33:=Tryz.zeroValue137 }
def layC_ren:Go.Shelf.Ren:=⟨fun|8=>130|11=>173|n=>n,fun|26=>3|28=>148|24=>94|0=>0|33=>137|4=>4|n=>n,fun|n=>n⟩
theorem layC:SlLaysZI.n8 Tryz.prog layC_ren:={
 mixed:=by kernel_rfl
 f8:=⟨Tryz.f130.name,by decide,Tryz.func130.trans (congrArg some (by kernel_rfl))⟩
 f11:=⟨Tryz.f173.name,by decide,Tryz.func173.trans (congrArg some (by kernel_rfl))⟩
 t0:=Tryz.underlying0
 a0:=Tryz.isAgg0
 z0:=Tryz.sizeOf0
 v0:=Tryz.zeroValue0
 t24:=Tryz.underlying94
 a24:=Tryz.isAgg94
 z24:=Tryz.sizeOf94
 v24:=Tryz.zeroValue94
 t26:=Tryz.underlying3
 a26:=Tryz.isAgg3
 z26:=Tryz.sizeOf3
 v26:=Tryz.zeroValue3
 t28:=Tryz.underlying148
 a28:=Tryz.isAgg148
 z28:=Tryz.sizeOf148
 v28:=Tryz.zeroValue148
 i26:=by kernel_rfl }
def layF_ren:Go.Shelf.Ren:=⟨fun|6=>154|15=>175|14=>190|28=>205|29=>206|20=>217|21=>218|22=>219|23=>220|24=>221|25=>222|26=>223|27=>224|46=>238|47=>229|48=>230|49=>239|50=>240|57=>246|n=>n,fun|22=>94|24=>3|25=>169|3=>3|39=>229|0=>0|53=>133|55=>101|4=>4|46=>258|45=>257|50=>263|5=>5|9=>9|66=>295|70=>299|76=>308|77=>309|n=>n,fun|n=>n⟩
theorem layF:SlLaysF.n6 Tryz.prog layF_ren:={
 mixed:=by kernel_rfl
 f6:=⟨Tryz.f154.name,by decide,Tryz.func154.trans (congrArg some (by kernel_rfl))⟩
 f14:=⟨Tryz.f190.name,by decide,Tryz.func190.trans (congrArg some (by kernel_rfl))⟩
 f15:=Tryz.func175.trans (congrArg some (by kernel_rfl))
 f20:=⟨Tryz.f217.name,by decide,Tryz.func217.trans (congrArg some (by kernel_rfl))⟩
 f21:=⟨Tryz.f218.name,by decide,Tryz.func218.trans (congrArg some (by kernel_rfl))⟩
 f22:=⟨Tryz.f219.name,by decide,Tryz.func219.trans (congrArg some (by kernel_rfl))⟩
 f23:=⟨Tryz.f220.name,by decide,Tryz.func220.trans (congrArg some (by kernel_rfl))⟩
 f24:=⟨Tryz.f221.name,by decide,Tryz.func221.trans (congrArg some (by kernel_rfl))⟩
 f25:=⟨Tryz.f222.name,by decide,Tryz.func222.trans (congrArg some (by kernel_rfl))⟩
 f26:=⟨Tryz.f223.name,by decide,Tryz.func223.trans (congrArg some (by kernel_rfl))⟩
 f27:=⟨Tryz.f224.name,by decide,Tryz.func224.trans (congrArg some (by kernel_rfl))⟩
 f28:=Tryz.func205.trans (congrArg some (by kernel_rfl))
 f29:=Tryz.func206.trans (congrArg some (by kernel_rfl))
 f46:=⟨Tryz.f238.name,by decide,Tryz.func238.trans (congrArg some (by kernel_rfl))⟩
 f47:=Tryz.func229.trans (congrArg some (by kernel_rfl))
 f48:=Tryz.func230.trans (congrArg some (by kernel_rfl))
 f49:=⟨Tryz.f239.name,by decide,Tryz.func239.trans (congrArg some (by kernel_rfl))⟩
 f50:=⟨Tryz.f240.name,by decide,Tryz.func240.trans (congrArg some (by kernel_rfl))⟩
 f57:=⟨Tryz.f246.name,by decide,Tryz.func246.trans (congrArg some (by kernel_rfl))⟩
 t0:=Tryz.underlying0
 a0:=Tryz.isAgg0
 z0:=Tryz.sizeOf0
 v0:=Tryz.zeroValue0
 t3:=Tryz.underlying3
 a3:=Tryz.isAgg3
 z3:=Tryz.sizeOf3
 v3:=Tryz.zeroValue3
 t4:=Tryz.underlying4
 a4:=Tryz.isAgg4
 z4:=Tryz.sizeOf4
 v4:=Tryz.zeroValue4
 t5:=Tryz.underlying5
 a5:=Tryz.isAgg5
 z5:=Tryz.sizeOf5
 v5:=Tryz.zeroValue5
 t9:=Tryz.underlying9
 a9:=Tryz.isAgg9
 z9:=Tryz.sizeOf9
 v9:=Tryz.zeroValue9
 t22:=Tryz.underlying94
 a22:=Tryz.isAgg94
 z22:=Tryz.sizeOf94
 v22:=Tryz.zeroValue94
 a24:=Tryz.isAgg3
 z24:=Tryz.sizeOf3
 t25:=Tryz.underlying169
 a25:=Tryz.isAgg169
 z25:=Tryz.sizeOf169
 v25:=Tryz.zeroValue169
 t39:=Tryz.underlying229
 a39:=Tryz.isAgg229
 z39:=Tryz.sizeOf229
 v39:=Tryz.zeroValue229
 t45:=Tryz.underlying257
 a45:=Tryz.isAgg257
 z45:=Tryz.sizeOf257
 v45:=Tryz.zeroValue257
 t46:=Tryz.underlying258
 a46:=Tryz.isAgg258
 z46:=Tryz.sizeOf258
 v46:=Tryz.zeroValue258
 t50:=Tryz.underlying263
 a50:=Tryz.isAgg263
 z50:=Tryz.sizeOf263
 v50:=Tryz.zeroValue263
 t53:=Tryz.underlying133
 a53:=Tryz.isAgg133
 z53:=Tryz.sizeOf133
 v53:=Tryz.zeroValue133
 t55:=Tryz.underlying101
 a55:=Tryz.isAgg101
 z55:=Tryz.sizeOf101
 v55:=Tryz.zeroValue101
 t66:=Tryz.underlying295
 a66:=Tryz.isAgg295
 z66:=Tryz.sizeOf295
 v66:=Tryz.zeroValue295
 t70:=Tryz.underlying299
 a70:=Tryz.isAgg299
 z70:=Tryz.sizeOf299
 v70:=Tryz.zeroValue299
 t76:=Tryz.underlying308
 a76:=Tryz.isAgg308
 z76:=Tryz.sizeOf308
 v76:=Tryz.zeroValue308
 t77:=Tryz.underlying309
 a77:=Tryz.isAgg309
 z77:=Tryz.sizeOf309
 v77:=Tryz.zeroValue309 }
end Go.Proofs.YtnlimngkagmjpaaGreat
namespace Go.Proofs.YtnlimngkagmjpaaGreat
open Go Go.RowKit Lou Go.Shelf Go.Sort
theorem sortWorld_blk {α : Type}[Inhabited α]{enc : α -> Value}{w:World}{g off m:Nat}{T:TypeId}{cs:Array Value}(h:BlkIs w g T cs)(dk:Array α)(os:Array Obj):BlkIs (sortWorld enc w g off m dk os) g T (putCells enc off dk cs):=by
 have hg:=h.lt
 show ((w.heap.modify g (onCells (putCells enc off dk)))++os)[g]? = _
 rw[Array.getElem?_append_left (by simpa using hg),Array.getElem?_modify,if_pos rfl]
 have h':w.heap[g]? = some (.cells cs T (0,0)):=h
 rw[h']
 rfl
def encK (ks:List Int)(x : {k:Int // k∈ks}):Value:=.int .i64 x.val
theorem perm_attach {ks:List Int}{d:Array {k:Int // k∈ks}}(h:d.toList.Perm ks.attach):(d.toList.map Subtype.val).Perm ks:=by
 have:=h.map Subtype.val
 rwa [List.attach_map_subtype_val] at this
theorem sortF_gives (w:World)(g cap:Nat)(ks:List Int)(cs:Array Value)(hb:BlkIs w g 3 cs)(hr:∀j (h:j<ks.length),cs[j]? = some (.int .i64 ks[j]))(hl:ks.length<=1000000)(cf:Int->Int->Int)(hO:SWO (ltOf cf))(bg:Nat)(bl:Array Value)(eg:∀args w,(callFunc bg args).run Tryz.prog w = .ok (.enter bg args) w)
  (hc:∀W,GrowBut (fun k=>k=g) w W->∀x∈ks,∀y∈ks,Calls Tryz.prog bg (#[.int .i64 x,.int .i64 y] ++ bl) W fun e w'=>e = .returned (.int .i64 (cf x y))/\∃q os,w'=grow (W.drewN q) os) :
  Calls Tryz.prog 154 #[.slice (some ⟨g,0,none⟩) ks.length cap,.func (.func bg) #[] bl] w fun e w'=>e = .returned (.tuple #[])/\∃(ks':List Int) (cs':Array Value),ks'.Perm ks/\ks'.Pairwise (fun a b=>¬ cf b a<0)/\BlkIs w' g 3 cs'/\(∀j (h:j<ks'.length),cs'[j]? = some (.int .i64 ks'[j]))/\GrowBut (fun k=>k=g) w w':=by
 cases hks:ks with
 | nil =>
  refine(AnyF.slices_SortFunc_none (P:=Tryz.prog) (ρ:=layF_ren) { layF with } (some ⟨g,0,none⟩) cap (.func (.func bg) #[] bl) w).mono ?_
  rintro e w' ⟨rfl,rfl⟩
  exact⟨rfl,[],cs,List.Perm.refl _,List.Pairwise.nil,hb,fun j h=>absurd h (by simp),GrowBut.refl _ _⟩
 | cons k0 kr =>
  rw[<-hks]
  haveI:Inhabited {k:Int // k∈ks}:=⟨⟨k0,by rw[hks];simp⟩⟩
  obtain⟨d,hd⟩:∃d:Array {k:Int // k∈ks},d=ks.attach.toArray:=⟨_,rfl⟩
  have hsz:d.size=ks.length:=by rw[hd];simp
  have hget:∀j (h:j<ks.length),(d[j]!).val=ks[j]:=fun j h=>by
   rw[getElem!_pos d j (by omega)]
   subst hd
   simp
  have hH:Holds (encK ks) w g 0 d:=fun j hj=>⟨by rw[qK,hb.cell,hr j (by omega)];unfold encK;rw[hget j (by omega)],by rw[qK];exact hb.free j⟩
  have hS:CmpLays1 Tryz.prog bg bl (encK ks) (fun x y=>cf x.val y.val) g 0 d.size w:=fun m os dk _ x y =>
   hc _ (sortWorld_but (encK ks) w g 0 m dk os) x.val x.property y.val y.property
  have hO':SWO (ltOf fun x y : {k:Int // k∈ks}=>cf x.val y.val):=⟨fun x=>hO.irrefl x.val,fun x y z=>hO.trans x.val y.val z.val,fun x y z=>hO.ntrans x.val y.val z.val⟩
  have HS:=Any.slices_SortFunc (P:=Tryz.prog) (ρ:=layF_ren) layF (encK ks) (fun _=>rfl) (fun x y=>cf x.val y.val) hO' bg bl g 0 cap d w eg hS hH hb.lt (by omega)
  rw[hsz] at HS
  refine HS.mono ?_
  rintro e w' ⟨rfl,d',n,os,hp,hs,rfl⟩
  have hd':d'.size=ks.length:=by rw[hp.1,hsz]
  have hpl:d'.toList.Perm d.toList:=by
   have:=hp.2.2
   rw[<-hsz,<-hp.1] at this
   have e1:(d'.extract 0 d'.size).toList=d'.toList:=by simp
   have e2:(d.extract 0 d'.size).toList=d.toList:=by rw[hp.1];simp
   rwa [e1,e2] at this
  have hH2:=holds_sortWorld (encK ks) w g 0 n d d' os hb.lt hH hp.1
  have hb2:=sortWorld_blk (enc:=encK ks) (off:=0) (m:=n) hb d' os
  refine⟨rfl,d'.toList.map Subtype.val,_,perm_attach (hpl.trans (by rw[hd])),?_,hb2,fun j hj => ?_,sortWorld_but _ _ _ _ _ _ _⟩
  ·rw[List.pairwise_map,List.pairwise_iff_getElem]
   intro i j hi hj hij
   have h1:=hs i j (Nat.zero_le _) hij (by rw[<-hd'];simpa using hj)
   rw[getElem!_pos d' i (by simpa using hi),getElem!_pos d' j (by simpa using hj)] at h1
   unfold ltOf at h1
   simpa using h1
  ·have h1:=(hH2 j (by simpa using hj)).1
   rw[qK,hb2.cell] at h1
   rw[h1,getElem!_pos d' j (by simpa using hj)]
   simp[encK]
end Go.Proofs.YtnlimngkagmjpaaGreat
namespace Go.Proofs.YtnlimngkagmjpaaGreat
open Go Go.RowKit Lou Go.Maps Go.Shelf Go.Sort
theorem deleteNone_gives (gf:Nat)(lb:Array Value)(W:World):Calls Tryz.prog 152 #[.slice none 0 0,.func (.func gf) #[] lb] W fun e w'=>e = .returned (.slice none 0 0)/\w'=W:=by
 have HI:Calls Tryz.prog 125 #[.slice none 0 0,.func (.func gf) #[] lb] W fun e w'=>e = .returned (.int .i64 (-1))/\w'=W:=by
  go_enter Tryz.func125,Tryz.ntmps125
  go_wp2
  go_loopw [8] (fun i wr=>i = .int .i64 0/\wr=W) (fun _ _=>0)
  case atStart=>exact⟨rfl,rfl⟩
  case round =>
   obtain⟨rfl,rfl⟩:=hrel
   go_wp2
   go_ret
   exact⟨rfl,rfl⟩
 go_enter Tryz.func152,Tryz.ntmps152
 go_wp2_with (go_at_call 125;refine HI.mono ?_;rintro e w1 ⟨rfl,rfl⟩)
 go_ret
 exact⟨rfl,rfl⟩
def KeysSo (f:Int->Option Value)(p:Int->Bool)(cf:Int->Int->Int)(ks:List Int):Prop:=ks.Nodup/\(∀k,k∈ks↔(f k).isSome=true/\p k=true)/\ks.Pairwise fun a b=>¬ cf b a<0
def RowInts (w w':World)(A:Option Addr)(ks:List Int):Prop:=∀j (h:j<ks.length),∃g,A=some ⟨g,0,none⟩/\w.heap.size<=g/\w'.cell? ⟨g,j,none⟩=some (.int .i64 ks[j])
theorem collectR_gives (w:World)(b r many clock:Nat)(es:Array MapEntry)(f:Int->Option Value)(hb:BlkIs w b 111 #[.map (some r)])(hmi:MapIs w r es clock)(he:EnV es f)(hst:MapKept.Stamped es clock)(hlt:KeysB f many)(hm:many<=40000) :
  Calls Tryz.prog 130 #[.func (.func 189) #[] #[.pointer (some ⟨b,0,none⟩)]] w fun e w'=>∃v,∃ss:List Int,e = .returned v/\ss.Perm ((keysV f many).map fun k:Nat=>(k:Int))/\w'.ownsRow w.heap.size 3 1 v ss.length (ss.map encZ)/\(v = .slice none 0 0↔ss=[])/\Below w.heap.size w w':=by
 obtain⟨D0,hown,hsz,hperm⟩:=own_mapV hmi he hst hlt hm
 have hmax:Maps.size D0<=maxLen:=zP hsz (zP hm (by decide))
 have hbytes:Maps.size D0*8<=140737488355328:=by omega
 refine(callsIn_wide (n:=6)).1 ?_
 have hseq:SeqGives Fence.wide 4 Tryz.prog 189 #[.pointer (some ⟨b,0,none⟩)] encZ (fun ss=>ss.Perm (intKeys D0)) (Maps.size D0) w :=
  AnyZI.keys_gives (ρ:=layKR_ren) { layKR with } Fence.wide _ trivial rfl (by omega) b r many D0 _ hb.lt hb.boxed hown
 refine(AnyZI.collect_in layC Fence.wide 6 trivial trivial rfl (by omega) 189 #[.pointer (some ⟨b,0,none⟩)] trivial (enters_of Tryz.func189 (by kernel_rfl) rfl) _ _ hmax hbytes w hseq).mono ?_
 rintro e w' ⟨v,ss,rfl,hS,hrow,hnil,hB⟩
 exact⟨v,ss,rfl,hS.trans hperm,hrow,hnil,hB⟩
theorem keysR_gives (mb:Option Nat)(w:World):Calls Tryz.prog 151 #[.map mb] w fun e w'=>e = .returned (.func (.func 189) #[] #[.pointer (some ⟨w.heap.size,0,none⟩)])/\w'=w.alloc (.cells #[.map mb] 111) :=
 (callsIn_wide (n:=6)).1 (AnyZI.keys_in layKR Fence.wide 6 trivial rfl mb w)
section
variable {ρ:Operand->Value}{w:World}{o:Oper}{x y:Operand}{r clock:Nat}{k:Int}{es:Array MapEntry}{f:Int->Option Value}{v:Value}
theorem lookR (he:EnV es f)(hm:MapIs w r es clock)(hk:f k=some v)(ho:o.op = .lookup 111 x y false)(h1:ρ x = .map (some r))(h2:ρ y = .int .i64 k):(execOp ρ o).run Tryz.prog w = .ok (.value v) w :=
 x_lookupT (z0:=(.pointer none)) Tryz.underlying111 (by simp[go_sem]) he hm (by simp[hk]) ho h1 h2
theorem look0R (he:EnV es f)(hm:MapIs w r es clock)(hk:f k=none)(ho:o.op = .lookup 111 x y false)(h1:ρ x = .map (some r))(h2:ρ y = .int .i64 k):(execOp ρ o).run Tryz.prog w = .ok (.value (.pointer none)) w :=
 x_lookupT (z0:=(.pointer none)) Tryz.underlying111 (by simp[go_sem]) he hm (by simp[hk]) ho h1 h2
end
theorem notR_gives (W:World)(s1 s2 r clock:Nat)(es:Array MapEntry)(f:Int->Option Value)(sg:Nat)(sl:Array Value)(esg:∀args w,(callFunc sg args).run Tryz.prog w = .ok (.enter sg args) w)(h1:BlkIs W s1 168 #[.func (.func sg) #[] sl])(h2:BlkIs W s2 111 #[.map (some r)])(hmi:MapIs W r es clock)(he:EnV es f)(k:Int)(v:Value)(hk:f k=some v)(b:Bool)(hs:Calls Tryz.prog sg (#[v] ++ sl) W fun e w'=>e = .returned (.bool b)/\W=w') :
  Calls Tryz.prog 153 #[.int .i64 k,.pointer (some ⟨s1,0,none⟩),.pointer (some ⟨s2,0,none⟩)] W fun e w'=>e = .returned (.bool (!b))/\W=w':=by
 have c1:=h1.boxed
 have c2:=h2.boxed
 go_enter Tryz.func153,Tryz.ntmps153
 go_wp2_with (first
  | (refine wp_exec rfl (lookR he hmi hk rfl rfl rfl) ?_)
  | (refine hs.mono ?_;rintro e w' ⟨rfl,rfl⟩))
 go_ret
 exact⟨rfl,rfl⟩
theorem sortedR_gives (w:World)(r many clock:Nat)(es:Array MapEntry)(f:Int->Option Value)(hmi:MapIs w r es clock)(he:EnV es f)(hst:MapKept.Stamped es clock)(hlt:KeysB f many)(hm:many<=40000)
  (sg:Nat) (sl:Array Value) (esg:∀args w,(callFunc sg args).run Tryz.prog w = .ok (.enter sg args) w) (p:Int->Bool) (hsuch:∀W,Below w.heap.size w W->∀k v,f k=some v->Calls Tryz.prog sg (#[v] ++ sl) W fun e w'=>e = .returned (.bool (p k))/\W=w')
  (bg:Nat) (bl:Array Value) (ebg:∀args w,(callFunc bg args).run Tryz.prog w = .ok (.enter bg args) w) (cf:Int->Int->Int) (hO:SWO (ltOf cf)) (hby:∀W,Below w.heap.size w W->∀x y,(f x).isSome=true->(f y).isSome=true->p x=true->p y=true->Calls Tryz.prog bg (#[.int .i64 x,.int .i64 y] ++ bl) W fun e w'=>e = .returned (.int .i64 (cf x y))/\∃q os,w'=grow (W.drewN q) os) :
  Calls Tryz.prog 107 #[.map (some r),.func (.func sg) #[] sl,.func (.func bg) #[] bl] w fun e w'=>∃(A:Option Addr) (c:Nat) (ks:List Int),e = .returned (.slice A ks.length c)/\KeysSo f p cf ks/\RowInts w w' A ks/\Below w.heap.size w w':=by
 have hB0:Below w.heap.size w ((w.alloc (.cells #[.map (some r)] 111)).alloc (.cells #[.func (.func sg) #[] sl] 168)):=((Below.refl _ w).alloc (zG _) _).alloc (by simp) _
 have b0:BlkIs ((w.alloc (.cells #[.map (some r)] 111)).alloc (.cells #[.func (.func sg) #[] sl] 168)) w.heap.size 111 #[.map (some r)]:=(BlkIs.new w _ _).alloc _
 have b1:BlkIs ((w.alloc (.cells #[.map (some r)] 111)).alloc (.cells #[.func (.func sg) #[] sl] 168)) (w.heap.size+1) 168 #[.func (.func sg) #[] sl]:=by
  have:=BlkIs.new (w.alloc (.cells #[.map (some r)] 111)) 168 #[.func (.func sg) #[] sl]
  rwa [World.size_alloc] at this
 have c0:=b0.boxed
 have hKEY:=keysR_gives (some r)
 obtain⟨W0,hW0⟩:∃W0,W0=(w.alloc (.cells #[.map (some r)] 111)).alloc (.cells #[.func (.func sg) #[] sl] 168):=⟨_,rfl⟩
 have hs0:W0.heap.size=w.heap.size+2:=by rw[hW0];simp
 rw[<-hW0] at hB0 b0 b1 c0
 have hBA:Below W0.heap.size W0 (W0.alloc (.cells #[.map (some r)] 111)):=(Below.refl _ _).alloc (zG _) _
 have bA:BlkIs (W0.alloc (.cells #[.map (some r)] 111)) W0.heap.size 111 #[.map (some r)]:=BlkIs.new _ _ _
 have hml:=hmi.lt
 have HC:=collectR_gives _ _ r many clock es f bA ((hmi.below hB0 hml).below hBA (by omega)) he hst hlt hm
 rw[hW0] at HC
 simp only[World.size_alloc] at HC
 clear bA
 have hND:=@deleteNone_gives
 have hSN:=fun W fv=>AnyF.slices_SortFunc_none (P:=Tryz.prog) (ρ:=layF_ren) { layF with } none 0 fv W
 change ∀W fv,Calls Tryz.prog 154 _ _ _ at hSN
 go_enter Tryz.func107,Tryz.ntmps107
 go_wp2_with (first
  | (go_at_call 151;refine(hKEY _).mono ?_;rintro e w1 ⟨rfl,rfl⟩)
  | (go_at_call 130;refine HC.mono ?_;rintro e w2 ⟨v,ss,rfl,hperm,hrow,hnil,hB2⟩))
 have hmem:∀k,k∈ss↔(f k).isSome=true:=fun k=>by
  rw[hperm.mem_iff,List.mem_map]
  constructor
  ·rintro⟨a,ha,rfl⟩
   exact(keysV_mem.1 ha).2
  ·intro h
   obtain⟨v,hv⟩:=Option.isSome_iff_exists.1 h
   obtain⟨h3,h4⟩:=hlt k v hv
   have e:(k.toNat:Int)=k:=by omega
   exact⟨k.toNat,keysV_mem.2 ⟨by omega,by rw[e];exact h⟩,e⟩
 have hnd:ss.Nodup:=hperm.nodup_iff.2 (List.pairwise_map.2 ((keysV_lt f many).imp fun h e=>by omega))
 have hlen:ss.length<=many:=by
  have h1:=hperm.length_eq
  rw[qD] at h1
  have:=keysV_len f many
  omega
 have hB2':Below w.heap.size w w2:=by
  have h1:Below w.heap.size (W0.alloc (.cells #[.map (some r)] 111)) w2:=by rw[hW0];exact hB2.mono (by omega)
  exact(hB0.trans (hBA.mono (by omega))).trans h1
 by_cases hss:ss=[]
 ·rw[hnil.2 hss]
  go_wp2_with (first
   | (go_at_call 152;refine(hND _ _ _).mono ?_;rintro e w3 ⟨rfl,rfl⟩)
   | (go_at_call 154;refine(hSN _ _).mono ?_;rintro e w3 ⟨rfl,rfl⟩))
  go_ret
  refine⟨none,0,[],rfl,⟨List.nodup_nil,fun k=>⟨fun h=>absurd h (by simp),fun h => ?_⟩,List.Pairwise.nil⟩,fun j h=>absurd h (by simp),hB2'⟩
  have:=(hmem k).2 h.1
  rw[hss] at this
  exact absurd this (by simp)
 ·obtain⟨gb,cap,cur,rfl,hbase,hgb,r1,r2,r3,r4⟩:∃gb cap cur,v = .slice (some ⟨gb,0,none⟩) ss.length cap/\w.heap.size+2<gb/\BlkIs w2 gb 3 cur/\ss.length<=cap/\cap<=maxLen/\cur.size=cap*1/\cur.toList.take (ss.length*1)=ss.map encZ:=by
   rcases hrow.2 with⟨rfl,hz⟩|⟨gb,cap,cur,rfl,hbase,hgb,r1,r2,r3,r4⟩
   ·exact absurd (hnil.1 rfl) hss
   ·exact⟨gb,cap,cur,rfl,by omega,hgb,r1,r2,r3,r4⟩
  have hcells:∀j (h:j<ss.length),cur[j]? = some (.int .i64 ss[j]):=fun j hj=>by
   rw[Nat.mul_one] at r4
   have h1:(cur.toList.take ss.length)[j]? = (ss.map encZ)[j]?:=by rw[r4]
   rw[List.getElem?_take_of_lt hj,List.getElem?_map,zI hj,qE] at h1
   exact h1
  have q0:BlkIs w2 w.heap.size 111 #[.map (some r)]:=by
   have h0:=(b0.below hBA (by omega))
   rw[hW0] at h0
   exact h0.below hB2 (by omega)
  have q1:BlkIs w2 (w.heap.size+1) 168 #[.func (.func sg) #[] sl]:=by
   have h0:=(b1.below hBA (by omega))
   rw[hW0] at h0
   exact h0.below hB2 (by omega)
  have hm2:MapIs w2 r es clock:=hmi.below hB2' hml
  have HD:=delete_gives w2 153 #[.pointer (some ⟨w.heap.size+1,0,none⟩),.pointer (some ⟨w.heap.size,0,none⟩)] (enters_of Tryz.func153 (by kernel_rfl) rfl) (fun k => !p k) gb cap ss cur hgb hcells r1 (by omega) (fun W hG k hk=>by
   obtain⟨v,hv⟩:=Option.isSome_iff_exists.1 ((hmem k).1 hk)
   have n0:¬ w.heap.size=gb:=by omega
   have n1:¬ w.heap.size+1=gb:=by omega
   have n2:¬ r=gb:=by omega
   exact notR_gives W (w.heap.size+1) w.heap.size r clock es f sg sl esg (hG.blk q1 n1) (hG.blk q0 n0) ((hG.block r hm2.lt n2).trans hm2) he k v hv (p k) (hsuch W (hB2'.trans (hG.toBelow hB2'.size (fun k e=>by omega))) k v hv))
  have ef:(ss.filter fun k => !(!p k))=ss.filter p:=by congr 1;funext k;simp
  rw[ef] at HD
  have hfl:(ss.filter p).length<=ss.length:=List.length_filter_le _ _
  go_wp2_with (go_at_call 152;refine HD.mono ?_;rintro e w3 ⟨cs3,rfl,hb3,hc3,hG3⟩)
  have hB3:Below w.heap.size w w3:=hB2'.trans (hG3.toBelow hB2'.size (fun k e=>by omega))
  have HS:=sortF_gives w3 gb cap (ss.filter p) cs3 hb3 hc3 (by omega) cf hO bg bl ebg (fun W hG x hx y hy=>by
   obtain⟨hx1,hx2⟩:=List.mem_filter.1 hx
   obtain⟨hy1,hy2⟩:=List.mem_filter.1 hy
   exact hby W (hB3.trans (hG.toBelow hB3.size (fun k e=>by omega))) x y ((hmem x).1 hx1) ((hmem y).1 hy1) hx2 hy2)
  go_wp2_with (go_at_call 154;refine HS.mono ?_;rintro e w4 ⟨rfl,ks,cs4,hp4,ho4,hb4,hc4,hG4⟩)
  go_ret
  refine⟨some ⟨gb,0,none⟩,cap,ks,by rw[hp4.length_eq];rfl,⟨hp4.nodup_iff.2 (hnd.filter _),fun k=>by rw[hp4.mem_iff,List.mem_filter,hmem],ho4.imp fun h=>by omega⟩,fun j hj=>⟨gb,rfl,by omega,by rw[hb4.cell];exact hc4 j hj⟩,hB3.trans (hG4.toBelow hB3.size (fun k e=>by omega))⟩
end Go.Proofs.YtnlimngkagmjpaaGreat
namespace Go.Proofs.YtnlimngkagmjpaaGreat
open Go Go.RowKit Lou
structure RowV where
 b:Nat
 at_:Int
 A:Option Addr
 c:Nat
 y:List UInt8
 d:Bool
abbrev RowsV:=Int->Option RowV
def rowC (v:RowV):Array Value:=#[.int .i64 v.at_,.slice v.A v.y.length v.c,.bool v.d]
def caC (f:Nat)(room now:Int)(r:Nat)(hh mm:Int):Array Value:=#[.pointer (some ⟨f,0,none⟩),.int .i64 room,.int .i64 now,.map (some r),.int .i64 hh,.int .i64 mm]
def ptrV (V:RowsV):Int->Option Value:=fun k=>(V k).map fun v => .pointer (some ⟨v.b,0,none⟩)
def updV (V:RowsV)(k:Int)(x:Option RowV):RowsV:=fun j=>if j=k then x else V j
theorem ptrV_upd (V:RowsV)(k:Int)(x:Option RowV):ptrV (updV V k x)=fsetV (ptrV V) k (x.map fun v => .pointer (some ⟨v.b,0,none⟩)):=by
 funext j
 unfold ptrV updV fsetV
 split<;>rfl
theorem updV_self (V:RowsV)(k:Int)(x:Option RowV):updV V k x k=x:=if_pos rfl
theorem updV_ne {V:RowsV}{k j:Int}{x:Option RowV}(h:j≠k):updV V k x j=V j:=if_neg h
theorem ptrV_some {V:RowsV}{k:Int}{v:RowV}(h:V k=some v):ptrV V k=some (.pointer (some ⟨v.b,0,none⟩)):=by unfold ptrV;rw[h];rfl
theorem ptrV_none {V:RowsV}{k:Int}(h:V k=none):ptrV V k=none:=by unfold ptrV;rw[h];rfl
theorem ptrV_ptr {V:RowsV}{k:Int}{x:Value}(h:ptrV V k=some x):∃v,V k=some v/\x = .pointer (some ⟨v.b,0,none⟩):=by
 unfold ptrV at h
 cases hv:V k with
 | none=>rw[hv] at h;cases h
 | some v=>rw[hv] at h;injection h with h;exact⟨v,rfl,h.symm⟩
theorem ptrV_same {V:RowsV}{k:Int}{v v':RowV}(h:V k=some v)(hb:v'.b=v.b):ptrV (updV V k (some v'))=ptrV V:=by
 rw[ptrV_upd]
 funext j
 unfold fsetV
 split
 ·rename_i e
  rw[e,ptrV_some h,Option.map_some,hb]
 ·rfl
def caMu (a r:Nat)(V:RowsV)(k:Nat):Prop:=k=a∨k=r∨∃j v,V j=some v/\k=v.b
structure RowIs (W:World)(P:Nat)(now:Int)(k:Int)(v:RowV):Prop where
 blk:BlkIs W v.b 126 (rowC v)
 key:0<=k/\k<(P:Int)
 bys:InB W W.heap.size v.A v.c v.y
 len:v.y.length=512∨v.y=[]
 at0:0<=v.at_/\v.at_<=now
structure CaIs (W:World)(a f r P:Nat)(room now hh mm:Int)(V:RowsV):Prop where
 cb:BlkIs W a 118 (caC f room now r hh mm)
 mp:∃es clock,MapIs W r es clock/\EnV es (ptrV V)/\MapKept.Stamped es clock
 rows:∀k v,V k=some v->RowIs W P now k v
 inj:∀j k u v,V j=some u->V k=some v->u.b=v.b->j=k
 iat:∀j k u v,V j=some u->V k=some v->1<=u.at_->u.at_=v.at_->j=k
theorem InB.noB {W W':World}{n n' c:Nat}{A:Option Addr}(h:InB W n A c []):InB W' n' A c []:=⟨h.le,h.max,h.nil,fun h0=>absurd h0 (by simp)⟩
theorem RowIs.keepB {Mu:Nat->Prop}{W W':World}{A:Option Addr}{c:Nat}{y:List UInt8}(h:InB W W.heap.size A c y)(hl:y.length=512∨y=[])(hG:GrowBut Mu W W')(hMu:∀k,Mu k->CaBlk W k):InB W' W'.heap.size A c y:=by
 rcases hl with hl|rfl
 ·exact h.keepC (by omega) hG hMu
 ·exact h.noB
section
variable {W W':World}{a f r P:Nat}{room now hh mm:Int}{V V':RowsV}
theorem CaIs.ca (h:CaIs W a f r P room now hh mm V):∀k,caMu a r V k->CaBlk W k:=fun k hk=>by
 rcases hk with rfl|rfl|⟨j,v,hv,rfl⟩
 ·exact .inr (.inl ⟨_,_,h.cb,by show 6<=64;decide,fun n e=>by cases e⟩)
 ·obtain⟨es,c,hm,_⟩:=h.mp
  exact .inl ⟨es,c,hm⟩
 ·exact .inr (.inl ⟨_,_,(h.rows j v hv).blk,by show 3<=64;decide,fun n e=>by cases e⟩)
theorem CaIs.lts (h:CaIs W a f r P room now hh mm V):∀k,caMu a r V k->k<W.heap.size:=fun k hk=>by
 rcases hk with rfl|rfl|⟨j,v,hv,rfl⟩
 ·exact h.cb.lt
 ·obtain⟨es,c,hm,_⟩:=h.mp
  exact hm.lt
 ·exact(h.rows j v hv).blk.lt
theorem MapIs.notBlk {W:World}{r g c:Nat}{es:Array MapEntry}{T:TypeId}{cs:Array Value}(h:MapIs W r es c)(hb:BlkIs W g T cs):r≠g:=fun e=>by
 subst e
 have h1:W.heap[r]? = some (.map es c):=h
 have h2:W.heap[r]? = some (.cells cs T (0,0)):=hb
 rw[h1] at h2
 cases h2
theorem CaIs.ar (h:CaIs W a f r P room now hh mm V):r≠a:=by
 obtain⟨es,c,hm,_⟩:=h.mp
 exact hm.notBlk h.cb
theorem CaIs.rb (h:CaIs W a f r P room now hh mm V){k:Int}{v:RowV}(hv:V k=some v):r≠v.b:=by
 obtain⟨es,c,hm,_⟩:=h.mp
 exact hm.notBlk (h.rows k v hv).blk
theorem CaIs.ab (h:CaIs W a f r P room now hh mm V){k:Int}{v:RowV}(hv:V k=some v):a≠v.b:=BlkIs.ne_type h.cb (h.rows k v hv).blk (by decide)
theorem CaIs.keep {Mu:Nat->Prop}(h:CaIs W a f r P room now hh mm V)(hG:GrowBut Mu W W')(hMu:∀k,Mu k->CaBlk W k)(hn:∀k,Mu k->¬ caMu a r V k):CaIs W' a f r P room now hh mm V:=by
 obtain⟨es,c,hm,he,hs⟩:=h.mp
 refine⟨hG.blk h.cb (fun e=>hn _ e (.inl rfl)),⟨es,c,(hG.block r hm.lt (fun e=>hn _ e (.inr (.inl rfl)))).trans hm,he,hs⟩,fun k v hv => ?_,h.inj,h.iat⟩
 have hr:=h.rows k v hv
 exact⟨hG.blk hr.blk (fun e=>hn _ e (.inr (.inr ⟨k,v,hv,rfl⟩))),hr.key,RowIs.keepB hr.bys hr.len hG hMu,hr.len,hr.at0⟩
theorem CaIs.below (h:CaIs W a f r P room now hh mm V)(hB:Below W.heap.size W W'):CaIs W' a f r P room now hh mm V :=
 h.keep (Mu:=fun _=>False) (GrowBut.below hB) (fun _ e=>e.elim) (fun _ e=>e.elim)
theorem CaIs.step {now' hh' mm':Int}(h:CaIs W a f r P room now hh mm V)(hG:GrowBut (caMu a r V) W W')(cb:BlkIs W' a 118 (caC f room now' r hh' mm'))(mp:∃es clock,MapIs W' r es clock/\EnV es (ptrV V')/\MapKept.Stamped es clock)(hnow:now<=now')
  (hv:∀k v,V' k=some v->(V k=some v/\W'.heap[v.b]? = W.heap[v.b]?)∨RowIs W' P now' k v) (inj:∀j k u v,V' j=some u->V' k=some v->u.b=v.b->j=k) (iat:∀j k u v,V' j=some u->V' k=some v->1<=u.at_->u.at_=v.at_->j=k):CaIs W' a f r P room now' hh' mm' V' :=
 ⟨cb,mp,fun k v hk=>by
  rcases hv k v hk with⟨h1,h2⟩|h1
  ·have hr:=h.rows k v h1
   exact⟨h2.trans hr.blk,hr.key,RowIs.keepB hr.bys hr.len hG h.ca,hr.len,hr.at0.1,Int.le_trans hr.at0.2 hnow⟩
  ·exact h1,inj,iat⟩
theorem updV_inj (h:CaIs W a f r P room now hh mm V){k0:Int}{v0 v1:RowV}(h0:V k0=some v0)(hb:v1.b=v0.b):∀j k u v,updV V k0 (some v1) j=some u->updV V k0 (some v1) k=some v->u.b=v.b->j=k:=fun j k u v hj hk e=>by
 have aux:∀j u,updV V k0 (some v1) j=some u->∃u',V j=some u'/\u'.b=u.b:=fun j u hj=>by
  unfold updV at hj
  split at hj
  ·rename_i ej
   injection hj with hj
   rw[ej]
   exact⟨v0,h0,by rw[<-hj,hb]⟩
  ·exact⟨u,hj,rfl⟩
 obtain⟨u',h1,h2⟩:=aux j u hj
 obtain⟨v',h3,h4⟩:=aux k v hk
 exact h.inj j k u' v' h1 h3 (by rw[h2,h4,e])
theorem CaIs.setRow (h:CaIs W a f r P room now hh mm V){k0:Int}{v0 v1:RowV}(h0:V k0=some v0)(hb:v1.b=v0.b)(i:Nat)(x:Value)(hx:(rowC v0).setIfInBounds i x=rowC v1)(hB:v1.y=v0.y/\v1.A=v0.A/\v1.c=v0.c∨InB W W.heap.size v1.A v1.c v1.y/\(v1.y.length=512∨v1.y=[]))(hat:0<=v1.at_/\v1.at_<=now)(hu:1<=v1.at_->∀k v,k≠k0->V k=some v->v.at_≠v1.at_) :
  CaIs (W.setCell ⟨v0.b,i,none⟩ x) a f r P room now hh mm (updV V k0 (some v1))/\GrowBut (fun k=>k=v0.b) W (W.setCell ⟨v0.b,i,none⟩ x):=by
 have hr:=h.rows k0 v0 h0
 have hGb:GrowBut (fun k=>k=v0.b) W (W.setCell ⟨v0.b,i,none⟩ x):=GrowBut.setCell _ _ _ rfl
 have hG:GrowBut (caMu a r V) W (W.setCell ⟨v0.b,i,none⟩ x):=hGb.more (fun k e _ => .inr (.inr ⟨k0,v0,h0,e⟩))
 obtain⟨es,c,hm,he,hs⟩:=h.mp
 have hbl:=hr.blk.set i x
 rw[hx] at hbl
 refine⟨h.step hG (hGb.blk h.cb (h.ab h0)) ⟨es,c,(hGb.block r hm.lt (h.rb h0)).trans hm,by rw[ptrV_same h0 hb];exact he,hs⟩ (Int.le_refl _) (fun k v hk => ?_) (updV_inj h h0 hb) (fun j k u v hj hk h1 he => ?_),hGb⟩
 ·unfold updV at hk
  split at hk
  ·rename_i e
   injection hk with hk
   subst hk
   rw[e]
   refine .inr ⟨by rw[hb];exact hbl,hr.key,?_,?_,hat⟩
   ·rcases hB with⟨e1,e2,e3⟩|⟨hB,hl⟩
    ·rw[e1,e2,e3]
     exact RowIs.keepB hr.bys hr.len hG h.ca
    ·exact RowIs.keepB hB hl hG h.ca
   ·rcases hB with⟨e1,_,_⟩|⟨_,hl⟩
    ·rw[e1];exact hr.len
    ·exact hl
  ·rename_i e
   exact .inl ⟨hk,hGb.block v.b (h.rows k v hk).blk.lt (fun e2=>e (h.inj k k0 v v0 hk h0 e2))⟩
 ·by_cases ej:j=k0<;>by_cases ek:k=k0
  ·rw[ej,ek]
  ·subst ej
   rw[updV_self] at hj
   rw[updV_ne ek] at hk
   injection hj with hj
   subst hj
   exact absurd he.symm (hu h1 k v ek hk)
  ·subst ek
   rw[updV_self] at hk
   rw[updV_ne ej] at hj
   injection hk with hk
   subst hk
   exact absurd he (hu (he▸h1) j u ej hj)
  ·rw[updV_ne ej] at hj
   rw[updV_ne ek] at hk
   exact h.iat j k u v hj hk h1 he
theorem CaIs.setCa {now' hh' mm':Int}(h:CaIs W a f r P room now hh mm V)(i:Nat)(x:Value)(hx:(caC f room now r hh mm).setIfInBounds i x=caC f room now' r hh' mm')(hnow:now<=now') :
  CaIs (W.setCell ⟨a,i,none⟩ x) a f r P room now' hh' mm' V/\GrowBut (fun k=>k=a) W (W.setCell ⟨a,i,none⟩ x):=by
 have hGb:GrowBut (fun k=>k=a) W (W.setCell ⟨a,i,none⟩ x):=GrowBut.setCell _ _ _ rfl
 have hG:GrowBut (caMu a r V) W (W.setCell ⟨a,i,none⟩ x):=hGb.more (fun k e _ => .inl e)
 obtain⟨es,c,hm,he,hs⟩:=h.mp
 have hbl:=h.cb.set i x
 rw[hx] at hbl
 exact⟨h.step hG hbl ⟨es,c,(hGb.block r hm.lt h.ar).trans hm,he,hs⟩ hnow (fun k v hk => .inl ⟨hk,hGb.block v.b (h.rows k v hk).blk.lt (fun e=>h.ab hk e.symm)⟩) h.inj h.iat,hGb⟩
theorem CaIs.del (h:CaIs W a f r P room now hh mm V)(k0:Int){es0:Array MapEntry}{c0:Nat}(hm0:MapIs W r es0 c0)(es:Array MapEntry)(c:Nat)(he:EnV es (fsetV (ptrV V) k0 none))(hs:MapKept.Stamped es c) :
  CaIs (setMap W r es c) a f r P room now hh mm (updV V k0 none)/\GrowBut (fun k=>k=r) W (setMap W r es c):=by
 have hGb:GrowBut (fun k=>k=r) W (setMap W r es c):=GrowBut.grown (setMap_grown hm0 es c) (fun q e=>by injection e with e;exact .inl e.symm)
 have hG:GrowBut (caMu a r V) W (setMap W r es c):=hGb.more (fun k e _ => .inr (.inl e))
 have aux:∀j u,updV V k0 none j=some u->V j=some u:=fun j u hj=>by
  unfold updV at hj
  split at hj
  ·cases hj
  ·exact hj
 exact⟨h.step hG (hGb.blk h.cb (fun e=>h.ar e.symm)) ⟨es,c,hm0.set es c,by rw[ptrV_upd];exact he,hs⟩ (Int.le_refl _) (fun k v hk => .inl ⟨aux k v hk,hGb.block v.b (h.rows k v (aux k v hk)).blk.lt (fun e=>h.rb (aux k v hk) e.symm)⟩) (fun j k u v hj hk=>h.inj j k u v (aux j u hj) (aux k v hk)) (fun j k u v hj hk=>h.iat j k u v (aux j u hj) (aux k v hk)),hGb⟩
theorem CaIs.fresh (h:CaIs W a f r P room now hh mm V){k0:Int}(hk0:0<=k0/\k0<(P:Int))(h0:V k0=none)(hnow:0<=now){b:Nat}(hb:BlkIs W b 126 (rowC ⟨b,0,none,0,[],false⟩))(hbn:∀k v,V k=some v->v.b≠b){es0:Array MapEntry}{c0:Nat}(hm0:MapIs W r es0 c0)(es:Array MapEntry)(c:Nat)(he:EnV es (fsetV (ptrV V) k0 (some (.pointer (some ⟨b,0,none⟩)))))(hs:MapKept.Stamped es c) :
  CaIs (setMap W r es c) a f r P room now hh mm (updV V k0 (some ⟨b,0,none,0,[],false⟩))/\GrowBut (fun k=>k=r) W (setMap W r es c):=by
 have hGb:GrowBut (fun k=>k=r) W (setMap W r es c):=GrowBut.grown (setMap_grown hm0 es c) (fun q e=>by injection e with e;exact .inl e.symm)
 have hG:GrowBut (caMu a r V) W (setMap W r es c):=hGb.more (fun k e _ => .inr (.inl e))
 have hrb:r≠b:=hm0.notBlk hb
 have aux:∀j u,updV V k0 (some ⟨b,0,none,0,[],false⟩) j=some u->(j=k0/\u=⟨b,0,none,0,[],false⟩)∨(j≠k0/\V j=some u):=fun j u hj=>by
  unfold updV at hj
  split at hj
  ·rename_i e
   injection hj with hj
   exact .inl ⟨e,hj.symm⟩
  ·rename_i e
   exact .inr ⟨e,hj⟩
 refine⟨h.step hG (hGb.blk h.cb (fun e=>h.ar e.symm)) ⟨es,c,hm0.set es c,by rw[ptrV_upd];exact he,hs⟩ (Int.le_refl _) (fun k v hk => ?_) (fun j k u v hj hk e => ?_) (fun j k u v hj hk h1 e => ?_),hGb⟩
 ·rcases aux k v hk with⟨rfl,rfl⟩|⟨_,hk⟩
  ·exact .inr ⟨hGb.blk hb (fun e=>hrb e.symm),hk0,⟨by simp,by simp,fun _=>rfl,fun h=>absurd h (by simp)⟩,.inr rfl,Int.le_refl _,hnow⟩
  ·exact .inl ⟨hk,hGb.block v.b (h.rows k v hk).blk.lt (fun e=>h.rb hk e.symm)⟩
 ·rcases aux j u hj with⟨rfl,rfl⟩|⟨n1,hj'⟩<;>rcases aux k v hk with⟨rfl,rfl⟩|⟨n2,hk'⟩
  ·rfl
  ·exact absurd e.symm (hbn k v hk')
  ·exact absurd e (hbn j u hj')
  ·exact h.inj j k u v hj' hk' e
 ·rcases aux j u hj with⟨rfl,rfl⟩|⟨n1,hj'⟩<;>rcases aux k v hk with⟨rfl,rfl⟩|⟨n2,hk'⟩
  ·rfl
  ·exact absurd h1 (show ¬ (1:Int)<=0 by decide)
  ·rw[e] at h1
   exact absurd h1 (show ¬ (1:Int)<=0 by decide)
  ·exact h.iat j k u v hj' hk' h1 e
end
end Go.Proofs.YtnlimngkagmjpaaGreat
namespace Go.Proofs.YtnlimngkagmjpaaGreat
open Go Go.RowKit Lou Go.Shelf Go.Sort
theorem updV_updV (V:RowsV)(k:Int)(x y:Option RowV):updV (updV V k x) k y=updV V k y:=by
 funext j
 unfold updV
 split<;>rfl
def usedAt (V:RowsV)(k:Int):Int:=match V k with|some v=>v.at_|none=>0
def clV (V:RowsV)(k:Int):Bool:=match V k with|some v => !v.d|none=>true
theorem cmpZ_lt {a b:Int}:cmpZ a b<0↔a<b:=by
 unfold cmpZ
 split
 ·constructor<;>intro<;>omega
 ·split<;>constructor<;>intro<;>omega
theorem swoAt (V:RowsV):SWO (ltOf fun x y=>cmpZ (usedAt V x) (usedAt V y)):=by
 have e:∀x y,ltOf (fun x y=>cmpZ (usedAt V x) (usedAt V y)) x y=decide (usedAt V x<usedAt V y):=fun x y=>by unfold ltOf;simp only[cmpZ_lt]
 refine⟨fun x => ?_,fun x y z h1 h2 => ?_,fun x y z h1 h2 => ?_⟩<;>simp only[e,decide_eq_true_eq,decide_eq_false_iff_not] at *<;>omega
theorem clean_gives {W:World}{v:RowV}(hb:BlkIs W v.b 126 (rowC v)):Calls Tryz.prog 108 #[.pointer (some ⟨v.b,0,none⟩)] W fun e w'=>e = .returned (.bool (!v.d))/\W=w':=by
 have k2:W.cell? ⟨v.b,2,none⟩=some (.bool v.d):=by rw[hb.cell];rfl
 go_enter Tryz.func108,Tryz.ntmps108
 go_wp2
 go_ret
 exact⟨rfl,rfl⟩
theorem used_gives {W:World}{v:RowV}(hb:BlkIs W v.b 126 (rowC v))(n:Int):Calls Tryz.prog 111 #[.pointer (some ⟨v.b,0,none⟩),.int .i64 n] W fun e w'=>e = .returned (.tuple #[])/\w'=W.setCell ⟨v.b,0,none⟩ (.int .i64 n):=by
 have k2:W.cell? ⟨v.b,0,none⟩=some (.int .i64 v.at_):=by rw[hb.cell];rfl
 have k3:=hb.free 0
 go_enter Tryz.func111,Tryz.ntmps111
 go_wp2
 go_end0
 exact⟨rfl,rfl⟩
theorem older_gives {W:World}{bx a f r P:Nat}{room now hh mm:Int}{V:RowsV}(h:CaIs W a f r P room now hh mm V)(hbx:BlkIs W bx 52 #[.pointer (some ⟨a,0,none⟩)]){x y:Int}{u v:RowV}(hu:V x=some u)(hv:V y=some v) :
  Calls Tryz.prog 109 #[.int .i64 x,.int .i64 y,.pointer (some ⟨bx,0,none⟩)] W fun e w'=>e = .returned (.int .i64 (cmpZ u.at_ v.at_))/\∃q os,w'=grow (W.drewN q) os:=by
 obtain⟨es,clock,hmi,he,_⟩:=h.mp
 have k1:W.drew.cell? ⟨bx,0,none⟩=some (.pointer (some ⟨a,0,none⟩)):=hbx.boxed
 have k2:W.drew.cell? ⟨a,3,none⟩=some (.map (some r)):=(h.cb.cell _).trans rfl
 have k3:W.drew.cell? ⟨u.b,0,none⟩=some (.int .i64 u.at_):=((h.rows x u hu).blk.cell _).trans rfl
 have k4:W.drew.cell? ⟨v.b,0,none⟩=some (.int .i64 v.at_):=((h.rows y v hv).blk.cell _).trans rfl
 have k5:MapIs W.drew r es clock:=hmi
 have pu:=ptrV_some hu
 have pv:=ptrV_some hv
 have hS0:W.drew.cell? ⟨bx,0,none⟩=some (.pointer (some ⟨a,0,none⟩))/\W.drew.cell? ⟨a,3,none⟩=some (.map (some r))/\W.drew.cell? ⟨u.b,0,none⟩=some (.int .i64 u.at_)/\W.drew.cell? ⟨v.b,0,none⟩=some (.int .i64 v.at_)/\MapIs W.drew r es clock:=⟨k1,k2,k3,k4,k5⟩
 clear k1 k2 k3 k4 k5 h hbx hmi
 go_enter Tryz.func109,Tryz.ntmps109
 go_wp2_with fail
 refine RegF.start (fun W:World=>W.cell? ⟨bx,0,none⟩=some (.pointer (some ⟨a,0,none⟩))/\W.cell? ⟨a,3,none⟩=some (.map (some r))/\W.cell? ⟨u.b,0,none⟩=some (.int .i64 u.at_)/\W.cell? ⟨v.b,0,none⟩=some (.int .i64 v.at_)/\MapIs W r es clock) 99 (by kernel_rfl) ?_
 refine RegF.t0 0 (.pointer (some ⟨a,0,none⟩)) rfl hS0 (fun W ⟨e0,e1,e2,e3,e4⟩=>by go_simp) ?_
 simp only[zD,zB,Act.put,zA,zF,zE]
 refine RegF.t0 1 (.pointer (some ⟨a,0,none⟩)) rfl hS0 (fun W ⟨e0,e1,e2,e3,e4⟩=>by go_simp) ?_
 simp only[zD,zC,zB,Act.put,zA,zF,zE]
 refine RegF.t0 2 (.pointer (some ⟨a,3,none⟩)) rfl hS0 (fun W ⟨e0,e1,e2,e3,e4⟩=>by go_simp) ?_
 simp only[zD,zC,zB,Act.put,zA,zF,zE]
 refine RegF.t0 3 (.map (some r)) rfl hS0 (fun W ⟨e0,e1,e2,e3,e4⟩=>by go_simp) ?_
 simp only[zD,zC,zB,Act.put,zA,zF,zE]
 refine RegF.t0 4 (.int .i64 x) rfl hS0 (fun W ⟨e0,e1,e2,e3,e4⟩=>by go_simp) ?_
 simp only[zD,zC,zB,Act.put,zA,zF,zE]
 refine RegF.t0 5 (.pointer (some ⟨u.b,0,none⟩)) rfl hS0 (fun W hW=>lookR he hW.2.2.2.2 pu rfl rfl rfl) ?_
 simp only[zD,zC,zB,Act.put,zA,zF,zE]
 refine RegF.t0 6 (.pointer (some ⟨u.b,0,none⟩)) rfl hS0 (fun W ⟨e0,e1,e2,e3,e4⟩=>by go_simp) ?_
 simp only[zD,zC,zB,Act.put,zA,zF,zE]
 refine RegF.t0 7 (.pointer (some ⟨u.b,0,none⟩)) rfl hS0 (fun W ⟨e0,e1,e2,e3,e4⟩=>by go_simp) ?_
 simp only[zD,zC,zB,Act.put,zA,zF,zE]
 refine RegF.t0 8 (.pointer (some ⟨u.b,0,none⟩)) rfl hS0 (fun W ⟨e0,e1,e2,e3,e4⟩=>by go_simp) ?_
 simp only[zD,zC,zB,Act.put,zA,zF,zE]
 refine RegF.t0 9 (.int .i64 u.at_) rfl hS0 (fun W ⟨e0,e1,e2,e3,e4⟩=>by go_simp) ?_
 simp only[zD,zC,zB,Act.put,zA,zF,zE]
 refine RegF.t0 10 (.pointer (some ⟨a,0,none⟩)) rfl hS0 (fun W ⟨e0,e1,e2,e3,e4⟩=>by go_simp) ?_
 simp only[zD,zC,zB,Act.put,zA,zF,zE]
 refine RegF.t0 11 (.pointer (some ⟨a,0,none⟩)) rfl hS0 (fun W ⟨e0,e1,e2,e3,e4⟩=>by go_simp) ?_
 simp only[zD,zC,zB,Act.put,zA,zF,zE]
 refine RegF.t0 12 (.pointer (some ⟨a,3,none⟩)) rfl hS0 (fun W ⟨e0,e1,e2,e3,e4⟩=>by go_simp) ?_
 simp only[zD,zC,zB,Act.put,zA,zF,zE]
 refine RegF.t0 13 (.map (some r)) rfl hS0 (fun W ⟨e0,e1,e2,e3,e4⟩=>by go_simp) ?_
 simp only[zD,zC,zB,Act.put,zA,zF,zE]
 refine RegF.t0 14 (.int .i64 y) rfl hS0 (fun W ⟨e0,e1,e2,e3,e4⟩=>by go_simp) ?_
 simp only[zD,zC,zB,Act.put,zA,zF,zE]
 refine RegF.t0 15 (.pointer (some ⟨v.b,0,none⟩)) rfl hS0 (fun W hW=>lookR he hW.2.2.2.2 pv rfl rfl rfl) ?_
 simp only[zD,zC,zB,Act.put,zA,zF,zE]
 refine RegF.t0 16 (.pointer (some ⟨v.b,0,none⟩)) rfl hS0 (fun W ⟨e0,e1,e2,e3,e4⟩=>by go_simp) ?_
 simp only[zD,zC,zB,Act.put,zA,zF,zE]
 refine RegF.t0 17 (.pointer (some ⟨v.b,0,none⟩)) rfl hS0 (fun W ⟨e0,e1,e2,e3,e4⟩=>by go_simp) ?_
 simp only[zD,zC,zB,Act.put,zA,zF,zE]
 refine RegF.t0 18 (.pointer (some ⟨v.b,0,none⟩)) rfl hS0 (fun W ⟨e0,e1,e2,e3,e4⟩=>by go_simp) ?_
 simp only[zD,zC,zB,Act.put,zA,zF,zE]
 refine RegF.t0 19 (.int .i64 v.at_) rfl hS0 (fun W ⟨e0,e1,e2,e3,e4⟩=>by go_simp) ?_
 simp only[zD,zC,zB,Act.put,zA,zF,zE]
 refine RegF.one 20 (by kernel_rfl) ?_
 refine RegF.opC 110 #[.tmp 15,.tmp 25] #[3,3] rfl rfl rfl (enters_of Tryz.func110 (by kernel_rfl) rfl) #[.int .i64 u.at_,.int .i64 v.at_] (by simp only[zJ,zK,zL];rfl) ((cmpInt_gives _ _ _).mono ?_)
 rintro e w2 ⟨rfl,rfl⟩
 refine⟨_,rfl,fun _=>hS0,?_⟩
 simp only[zD,zC,zB,Act.put,zA,zF,zE]
 refine RegF.one 21 (by kernel_rfl) (RegF.opV (w':=W.drew) (.int .i64 (cmpZ u.at_ v.at_)) rfl rfl (by go_simp) ⟨fun _=>hS0,RegF.done (by kernel_rfl) ?_⟩)
 simp only[zD,zC,zB,Act.put,zA,zF,zE]
 go_wp2
 go_ret
 exact⟨rfl,1,#[],by rw[grow_empty];rfl⟩
section
variable {ops:Array Oper}{Q:Exit->Act->World->Prop}{a:Act}{w:World}{r clock:Nat}{k:Int}{es:Array MapEntry}{f:Int->Option Value}{x y z:Operand}{o:Oper}
theorem wp_putR {rest:List Oper}{l:Value}(hg:o.guard=none)(ho:o.op = .mapUpdate 111 x y z)(h1:a.eval x = .map (some r))(h2:a.eval y = .int .i64 k)(h3:a.eval z=l)(he:EnV es f)(hst:MapKept.Stamped es clock)(hm:MapIs w r es clock)
  (h:∀es' clock',EnV es' (fsetV f k (some l))->MapKept.Stamped es' clock'->wpList Tryz.prog ops Q rest (a.put o.dst undef) (setMap w r es' clock')):wpList Tryz.prog ops Q (o::rest) a w:=by
 obtain⟨es',clock',hr,he',hs'⟩:=x_putT (ρ:=a.eval) (o:=o) Tryz.underlying111 he hst hm ho h1 h2 h3
 exact wp_execS hg hr (h es' clock' he' hs')
theorem opDelR {i:Nat}{K:Act->World->Prop}(ho:ops[i]? = some o)(hg:o.guard=none)(hop:o.op = .call { callee:=.builtin .delete,args:=#[x,y],argTypes:=#[111,3] })(h1:a.eval x = .map (some r))(h2:a.eval y = .int .i64 k)(he:EnV es f)(hst:MapKept.Stamped es clock)(hm:MapIs w r es clock)
  (h:∀es',EnV es' (fsetV f k none)->MapKept.Stamped es' clock->K (a.put o.dst (.tuple #[])) (setMap w r es' clock)):wpOp Tryz.prog ops Q i K a w:=by
 obtain⟨es',hr,he',hs'⟩:=x_delT (ρ:=a.eval) (o:=o) Tryz.underlying111 he hst hm hop h1 h2
 exact RegF.opV _ ho hg hr (h es' he' hs')
end
def TakesOut (w:World)(a f r P:Nat)(room now hh mm:Int)(V:RowsV)(page:Int)(e:Ending)(w':World):Prop :=
 (∃v,V page=some v/\e = .returned (.tuple #[.pointer (some ⟨v.b,0,none⟩),.int .i64 0])/\CaIs w' a f r P room (now+1) hh mm (updV V page (some { v with at_:=now+1 }))) ∨
 (V page=none/\(((keysV (ptrV V) P).length:Int)<room)/\∃b,w.heap.size<=b/\e = .returned (.tuple #[.pointer (some ⟨b,0,none⟩),.int .i64 0])/\CaIs w' a f r P room (now+1) hh mm (updV V page (some ⟨b,now+1,none,0,[],false⟩))) ∨
 (V page=none/\room<=((keysV (ptrV V) P).length:Int)/\(∀k v,V k=some v->v.d=true)/\e = .returned (.tuple #[.pointer none,.int .i64 160])/\CaIs w' a f r P room now hh mm V) ∨
 (V page=none/\room<=((keysV (ptrV V) P).length:Int)/\∃k0 v0,V k0=some v0/\v0.d=false/\(∀k v,V k=some v->v.d=false->v0.at_<=v.at_)/\∃b,w.heap.size<=b/\e = .returned (.tuple #[.pointer (some ⟨b,0,none⟩),.int .i64 0])/\CaIs w' a f r P room (now+1) hh mm (updV (updV V k0 none) page (some ⟨b,now+1,none,0,[],false⟩)))
theorem CaIs.size {W:World}{a f r P:Nat}{room now hh mm:Int}{V:RowsV}(h:CaIs W a f r P room now hh mm V){es:Array MapEntry}(he:EnV es (ptrV V)):es.size=(keysV (ptrV V) P).length:=by
 have hp:=(he.perm (many:=P) (fun k x hx=>by obtain⟨v,hv,_⟩:=ptrV_ptr hx;exact(h.rows k v hv).key)).length_eq
 rw[qD,qD,Array.length_toList] at hp
 exact hp
theorem takes_gives (w:World)(a f r P:Nat)(room now hh mm:Int)(V:RowsV)(h:CaIs w a f r P room now hh mm V)(hP:P<=1000)(hn:0<=now/\now<=1000000)(hroom:2<=room)(page:Int)(hpg:0<=page/\page<(P:Int)) :
  Calls Tryz.prog 66 #[.pointer (some ⟨a,0,none⟩),.int .i64 page] w fun e w'=>TakesOut w a f r P room now hh mm V page e w'/\GrowBut (caMu a r V) w w':=by
 have hB0:Below w.heap.size w (w.alloc (.cells #[.pointer (some ⟨a,0,none⟩)] 52)):=(Below.refl _ w).alloc (zG _) _
 have bx0:=BlkIs.new w 52 #[.pointer (some ⟨a,0,none⟩)]
 have hxa:¬ w.heap.size=a:=fun e=>by have:=h.cb.lt;omega
 have hw:IntKind.i64.wrap (now+1)=now+1:=wrap_i64_fr _ (by omega) (by omega)
 obtain⟨W0,hW0⟩:∃W0,W0=w.alloc (.cells #[.pointer (some ⟨a,0,none⟩)] 52):=⟨_,rfl⟩
 have hs0:W0.heap.size=w.heap.size+1:=by rw[hW0];simp
 rw[<-hW0] at hB0 bx0
 have h0:=h.below hB0
 have k0:=bx0.boxed
 have k3:W0.cell? ⟨a,3,none⟩=some (.map (some r)):=(h0.cb.cell _).trans rfl
 obtain⟨es,clock,hmi,he,hst⟩:=h0.mp
 have hG0:GrowBut (fun k=>caMu a r V k∨w.heap.size<=k) w W0:=GrowBut.below hB0
 have hout:∀{W':World},GrowBut (fun k=>caMu a r V k∨w.heap.size<=k) w W'->GrowBut (caMu a r V) w W':=fun hG=>hG.more (fun k e hk=>by
  rcases e with e|e
  ·exact e
  ·omega)
 have HW0:=Lib.hid hW0.symm
 clear hW0
 have hwp:=hw
 cases hpv:V page with
 | some v =>
  have hl:=ptrV_some hpv
  have ka0:W0.cell? ⟨a,2,none⟩=some (.int .i64 now):=(h0.cb.cell _).trans rfl
  have kf0:=h0.cb.free 2
  go_enter Tryz.func66,Tryz.ntmps66
  go_wp2_with (first
   | (rw[HW0.out])
   | (refine wp_exec rfl (lookR he hmi hl rfl rfl rfl) ?_))
  have h1:=h0
  have bx:=bx0
  have hg:=hG0
  have hv1:=hpv
  obtain⟨v1,ev1⟩:∃v1,v1=v:=⟨_,rfl⟩
  rw[<-ev1] at hv1 ⊢
  have hvb:caMu a r V v1.b∨w.heap.size<=v1.b:=.inl (.inr (.inr ⟨page,v1,hv1,rfl⟩))
  obtain⟨W,eW⟩:∃W,W=W0:=⟨_,rfl⟩
  rw[<-eW] at h1 bx hg ⊢
  clear eW
  have hs1:=h1.setCa 2 (.int .i64 (now+1)) (now':=now+1) (hh':=hh) (mm':=mm) rfl (by omega)
  have bx1:=hs1.2.blk bx (show ¬ w.heap.size=a from hxa)
  obtain⟨hC2,hG2⟩:=hs1
  have hr1:=h1.rows page v1 hv1
  have HT:=hC2.below (W':=(W.setCell ⟨a,2,none⟩ (.int .i64 (now+1))).drew) (Below.refl _ _).drew
  have hU:=used_gives (W:=(W.setCell ⟨a,2,none⟩ (.int .i64 (now+1))).drew) (HT.rows page v1 hv1).blk (now+1)
  have HS:=HT.setRow (v1:={ v1 with at_:=now+1 }) hv1 rfl 0 (.int .i64 (now+1)) rfl (.inl ⟨rfl,rfl,rfl⟩) ⟨by show 0<=now+1;omega,Int.le_refl _⟩ (fun _ k v hk hv=>by
   have:=(h1.rows k v hv).at0.2
   show v.at_≠now+1
   omega)
  have hS0:(W.setCell ⟨a,2,none⟩ (.int .i64 (now+1))).drew.cell? ⟨w.heap.size,0,none⟩=some (.pointer (some ⟨a,0,none⟩))/\(W.setCell ⟨a,2,none⟩ (.int .i64 (now+1))).drew.cell? ⟨a,2,none⟩=some (.int .i64 (now+1)):=⟨bx1.boxed,(HT.cb.cell _).trans rfl⟩
  have hgrow:GrowBut (fun k=>caMu a r V k∨w.heap.size<=k) w (((W.setCell ⟨a,2,none⟩ (.int .i64 (now+1))).drew).setCell ⟨v1.b,0,none⟩ (.int .i64 (now+1))):=((hg.trans (hG2.more (fun k e _ => .inl (.inl e)))).trans (GrowBut.below (Below.refl _ _).drew)).trans (HS.2.more (fun k e _=>by rw[e];exact hvb))
  clear hC2 hG2 HT hr1 bx bx1
  refine RegF.start (fun W:World=>W.cell? ⟨w.heap.size,0,none⟩=some (.pointer (some ⟨a,0,none⟩))/\W.cell? ⟨a,2,none⟩=some (.int .i64 (now+1))) 7 (by kernel_rfl) ?_
  refine RegF.t1 0 (.pointer (some ⟨v1.b,0,none⟩)) rfl hS0 (fun W ⟨e0,e1⟩=>by go_simp) ?_
  simp only[zD,zB,Act.put,zA,zF,zE]
  refine RegF.t1 1 (.pointer (some ⟨v1.b,0,none⟩)) rfl hS0 (fun W ⟨e0,e1⟩=>by go_simp) ?_
  simp only[zD,zC,zB,Act.put,zA,zF,zE]
  refine RegF.t1 2 (.pointer (some ⟨v1.b,0,none⟩)) rfl hS0 (fun W ⟨e0,e1⟩=>by go_simp) ?_
  simp only[zD,zC,zB,Act.put,zA,zF,zE]
  refine RegF.t1 3 (.pointer (some ⟨a,0,none⟩)) rfl hS0 (fun W ⟨e0,e1⟩=>by go_simp) ?_
  simp only[zD,zC,zB,Act.put,zA,zF,zE]
  refine RegF.t1 4 (.pointer (some ⟨a,0,none⟩)) rfl hS0 (fun W ⟨e0,e1⟩=>by go_simp) ?_
  simp only[zD,zC,zB,Act.put,zA,zF,zE]
  refine RegF.t1 5 (.pointer (some ⟨a,2,none⟩)) rfl hS0 (fun W ⟨e0,e1⟩=>by go_simp) ?_
  simp only[zD,zC,zB,Act.put,zA,zF,zE]
  refine RegF.t1 6 (.int .i64 (now+1)) rfl hS0 (fun W ⟨e0,e1⟩=>by go_simp) ?_
  simp only[zD,zC,zB,Act.put,zA,zF,zE]
  refine RegF.one 7 (by kernel_rfl) ?_
  refine RegF.opC 111 #[.tmp 58,.tmp 62] #[124,3] rfl rfl rfl (enters_of Tryz.func111 (by kernel_rfl) rfl) #[.pointer (some ⟨v1.b,0,none⟩),.int .i64 (now+1)] (by simp only[zJ,zK,zL];rfl) (hU.mono ?_)
  rintro e w9 ⟨rfl,rfl⟩
  refine⟨_,rfl,fun h=>absurd rfl h,RegF.done (by kernel_rfl) ?_⟩
  simp only[zD,zC,zB,Act.put,zA,zF,zE]
  clear hS0
  go_wp2
  exact bodyPost_ret (results_tmp2 rfl _ _ _) rfl ⟨.inl ⟨v1,hv1,rfl,HS.1⟩,hout hgrow⟩
 | none =>
  have hl:=ptrV_none hpv
  have hsz:=h0.size he
  obtain⟨n,hn9⟩:∃n,n=(keysV (ptrV V) P).length:=⟨_,rfl⟩
  have hnP:n<=P:=by rw[hn9];exact keysV_len _ _
  rw[<-hn9] at hsz
  have kr0:W0.drew.cell? ⟨a,1,none⟩=some (.int .i64 room):=(h0.cb.cell _).trans rfl
  have hB1:Below W0.heap.size W0 W0.drew:=(Below.refl _ _).drew
  have h1:=h0.below hB1
  have bx1:BlkIs W0.drew w.heap.size 52 #[.pointer (some ⟨a,0,none⟩)]:=bx0.below hB1 bx0.lt
  have hm1:MapIs W0.drew r es clock:=hmi
  have hS0:W0.drew.cell? ⟨w.heap.size,0,none⟩=some (.pointer (some ⟨a,0,none⟩))/\W0.drew.cell? ⟨a,3,none⟩=some (.map (some r))/\W0.drew.cell? ⟨a,1,none⟩=some (.int .i64 room)/\MapIs W0.drew r es clock:=⟨k0,k3,kr0,hmi⟩
  go_enter Tryz.func66,Tryz.ntmps66
  go_wp2_with (first
   | (rw[HW0.out])
   | (refine wp_exec rfl (look0R he hmi hl rfl rfl rfl) ?_))
  refine RegF.start (fun W:World=>W.cell? ⟨w.heap.size,0,none⟩=some (.pointer (some ⟨a,0,none⟩))/\W.cell? ⟨a,3,none⟩=some (.map (some r))/\W.cell? ⟨a,1,none⟩=some (.int .i64 room)/\MapIs W r es clock) 99 (by kernel_rfl) ?_
  refine RegF.t0 0 (.pointer (some ⟨a,0,none⟩)) rfl hS0 (fun W ⟨e0,e1,e2,e3⟩=>by go_simp) ?_
  simp only[zD,zB,Act.put,zA,zF,zE]
  refine RegF.t0 1 (.pointer (some ⟨a,0,none⟩)) rfl hS0 (fun W ⟨e0,e1,e2,e3⟩=>by go_simp) ?_
  simp only[zD,zC,zB,Act.put,zA,zF,zE]
  refine RegF.t0 2 (.pointer (some ⟨a,3,none⟩)) rfl hS0 (fun W ⟨e0,e1,e2,e3⟩=>by go_simp) ?_
  simp only[zD,zC,zB,Act.put,zA,zF,zE]
  refine RegF.t0 3 (.map (some r)) rfl hS0 (fun W ⟨e0,e1,e2,e3⟩=>by go_simp) ?_
  simp only[zD,zC,zB,Act.put,zA,zF,zE]
  refine RegF.t0 4 (.int .i64 (es.size:Int)) rfl hS0 (fun W hW=>x_lenT Tryz.underlying111 hW.2.2.2 rfl rfl) ?_
  simp only[zD,zC,zB,Act.put,zA,zF,zE]
  refine RegF.t0 5 (.pointer (some ⟨a,0,none⟩)) rfl hS0 (fun W ⟨e0,e1,e2,e3⟩=>by go_simp) ?_
  simp only[zD,zC,zB,Act.put,zA,zF,zE]
  refine RegF.t0 6 (.pointer (some ⟨a,0,none⟩)) rfl hS0 (fun W ⟨e0,e1,e2,e3⟩=>by go_simp) ?_
  simp only[zD,zC,zB,Act.put,zA,zF,zE]
  refine RegF.t0 7 (.pointer (some ⟨a,1,none⟩)) rfl hS0 (fun W ⟨e0,e1,e2,e3⟩=>by go_simp) ?_
  simp only[zD,zC,zB,Act.put,zA,zF,zE]
  refine RegF.t0 8 (.int .i64 room) rfl hS0 (fun W ⟨e0,e1,e2,e3⟩=>by go_simp) ?_
  simp only[zD,zC,zB,Act.put,zA,zF,zE]
  refine RegF.one 9 (by kernel_rfl) (RegF.opV (w':=W0.drew) (.bool (decide ((es.size:Int) ≥ room))) rfl rfl (by go_simp) ⟨fun _=>hS0,RegF.done (by kernel_rfl) ?_⟩)
  simp only[zD,zC,zB,Act.put,zA,zF,zE]
  clear hS0
  obtain⟨W1,eW1⟩:∃W1,W1=W0.drew:=⟨_,rfl⟩
  rw[<-eW1] at h1 bx1 hm1 hB1 ⊢
  clear eW1
  have hG1:GrowBut (fun k=>caMu a r V k∨w.heap.size<=k) w W1:=hG0.trans (GrowBut.below hB1)
  by_cases hfull:room<=(n:Int)
  ·rw[show decide ((es.size:Int) ≥ room)=true from decide_eq_true (by omega)]
   have k1:=bx1.boxed
   have k13:W1.cell? ⟨a,3,none⟩=some (.map (some r)):=(h1.cb.cell _).trans rfl
   have HSR:=sortedR_gives W1 r P clock es (ptrV V) hm1 he hst (fun k x hx=>by obtain⟨v,hv,_⟩:=ptrV_ptr hx;exact(h1.rows k v hv).key) (by omega) 108 #[] (enters_of Tryz.func108 (by kernel_rfl) rfl) (clV V)
    (fun W hW k x hx=>by
     obtain⟨v,hv,rfl⟩:=ptrV_ptr hx
     have hcl:clV V k = !v.d:=by unfold clV;rw[hv]
     rw[hcl]
     exact clean_gives ((h1.below hW).rows k v hv).blk)
    109 #[.pointer (some ⟨w.heap.size,0,none⟩)] (enters_of Tryz.func109 (by kernel_rfl) rfl) _ (swoAt V)
    (fun W hW x y hx hy _ _=>by
     obtain⟨u',hu'⟩:=Option.isSome_iff_exists.1 hx
     obtain⟨v',hv'⟩:=Option.isSome_iff_exists.1 hy
     obtain⟨u,hu,_⟩:=ptrV_ptr hu'
     obtain⟨v,hv,_⟩:=ptrV_ptr hv'
     have e1:usedAt V x=u.at_:=by unfold usedAt;rw[hu]
     have e2:usedAt V y=v.at_:=by unfold usedAt;rw[hv]
     rw[e1,e2]
     exact older_gives (h1.below hW) (bx1.below hW bx1.lt) hu hv)
   by_cases hall:∀k v,V k=some v->v.d=true
   ·have HS0:=HSR.mono (R':=fun e w'=>∃A c,e = .returned (.slice A 0 c)/\Below W1.heap.size W1 w') (by
     rintro e W2 ⟨A,c,ks,rfl,⟨hnd,hmem,hord⟩,hri,hB2⟩
     have hks:ks=[]:=List.eq_nil_iff_forall_not_mem.2 (fun k hk=>by
      obtain⟨h1,h2⟩:=(hmem k).1 hk
      obtain⟨x,hx⟩:=Option.isSome_iff_exists.1 h1
      obtain⟨v,hv,_⟩:=ptrV_ptr hx
      have:=hall k v hv
      simp[clV,hv,this] at h2)
     subst hks
     exact⟨A,c,rfl,hB2⟩)
    clear HSR
    go_wp2_with (go_at_call 107;refine HS0.mono ?_;rintro e W2 ⟨A,c,rfl,hB2⟩)
    exact bodyPost_ret (results_tmp2 rfl _ _ _) rfl ⟨.inr (.inr (.inl ⟨hpv,by omega,hall,rfl,h1.below hB2⟩)),hout (hG1.trans (GrowBut.below hB2))⟩
   ·have HS0:=HSR.mono (R':=fun e w'=>∃g c N k0 v0,e = .returned (.slice (some ⟨g,0,none⟩) N c)/\0<N/\V k0=some v0/\v0.d=false/\(∀k v,V k=some v->v.d=false->v0.at_<=v.at_)/\w'.cell? ⟨g,0,none⟩=some (.int .i64 k0)/\Below W1.heap.size W1 w') (by
     rintro e W2 ⟨A,c,ks,rfl,⟨hnd,hmem,hord⟩,hri,hB2⟩
     have hin:∀k v,V k=some v->v.d=false->k∈ks:=fun k v hv hd=>(hmem k).2 ⟨by rw[ptrV_some hv];rfl,by simp[clV,hv,hd]⟩
     cases ks with
     | nil =>
      refine absurd (fun k v hv => ?_) hall
      cases hd:v.d with
      | true=>rfl
      | false=>exact absurd (hin k v hv hd) (by simp)
     | cons k0 kr =>
      obtain⟨g,rfl,_,hc⟩:=hri 0 (by simp)
      obtain⟨h1,h2⟩:=(hmem k0).1 (by simp)
      obtain⟨x,hx⟩:=Option.isSome_iff_exists.1 h1
      obtain⟨v0,hv0,_⟩:=ptrV_ptr hx
      have hd0:v0.d=false:=by
       simpa[clV,hv0] using h2
      refine⟨g,c,_,k0,v0,rfl,by simp,hv0,hd0,fun k v hv hd => ?_,hc,hB2⟩
      have e1:usedAt V k0=v0.at_:=by unfold usedAt;rw[hv0]
      have e2:usedAt V k=v.at_:=by unfold usedAt;rw[hv]
      have hk:=hin k v hv hd
      rcases List.mem_cons.1 hk with rfl|hk
      ·rw[hv0] at hv
       injection hv with hv
       rw[hv]
       exact Int.le_refl _
      ·have:=(List.pairwise_cons.1 hord).1 k hk
       rw[cmpZ_lt,e1,e2] at this
       omega)
    clear HSR
    go_wp2_with (go_at_call 107;refine HS0.mono ?_;rintro e W2 ⟨g,c,N,k0,v0,rfl,hN,hv0,hd0,hleast,hck,hB2⟩;have hN0:¬ (N:Int)=0:=by omega)
    have hBd:Below W1.heap.size W1 W2.drew:=hB2.drew
    have h2:=h1.below hBd
    have bx2:=bx1.below hBd bx1.lt
    have hm2:MapIs W2.drew r es clock:=hm1.below hBd hm1.lt
    have hS0:W2.drew.cell? ⟨w.heap.size,0,none⟩=some (.pointer (some ⟨a,0,none⟩))/\W2.drew.cell? ⟨a,3,none⟩=some (.map (some r))/\W2.drew.cell? ⟨g,0,none⟩=some (.int .i64 k0):=⟨bx2.boxed,(h2.cb.cell _).trans rfl,hck⟩
    have hG2:=hG1.trans (GrowBut.below (Mu:=fun k=>caMu a r V k∨w.heap.size<=k) hBd)
    refine RegF.start (fun W:World=>W.cell? ⟨w.heap.size,0,none⟩=some (.pointer (some ⟨a,0,none⟩))/\W.cell? ⟨a,3,none⟩=some (.map (some r))/\W.cell? ⟨g,0,none⟩=some (.int .i64 k0)) 7 (by kernel_rfl) ?_
    refine RegF.t1 0 (.pointer (some ⟨a,0,none⟩)) rfl hS0 (fun W ⟨e0,e1,e2⟩=>by go_simp) ?_
    simp only[zD,zB,Act.put,zA,zF,zE]
    refine RegF.t1 1 (.pointer (some ⟨a,0,none⟩)) rfl hS0 (fun W ⟨e0,e1,e2⟩=>by go_simp) ?_
    simp only[zD,zC,zB,Act.put,zA,zF,zE]
    refine RegF.t1 2 (.pointer (some ⟨a,3,none⟩)) rfl hS0 (fun W ⟨e0,e1,e2⟩=>by go_simp) ?_
    simp only[zD,zC,zB,Act.put,zA,zF,zE]
    refine RegF.t1 3 (.map (some r)) rfl hS0 (fun W ⟨e0,e1,e2⟩=>by go_simp) ?_
    simp only[zD,zC,zB,Act.put,zA,zF,zE]
    refine RegF.t1 4 (.slice (some ⟨g,0,none⟩) N c) rfl hS0 (fun W ⟨e0,e1,e2⟩=>by go_simp) ?_
    simp only[zD,zC,zB,Act.put,zA,zF,zE]
    refine RegF.t1 5 (.pointer (some ⟨g,0,none⟩)) rfl hS0 (fun W ⟨e0,e1,e2⟩=>by go_simp) ?_
    simp only[zD,zC,zB,Act.put,zA,zF,zE]
    refine RegF.t1 6 (.int .i64 k0) rfl hS0 (fun W ⟨e0,e1,e2⟩=>by go_simp) ?_
    simp only[zD,zC,zB,Act.put,zA,zF,zE]
    refine RegF.one 7 (by kernel_rfl) ?_
    refine opDelR rfl rfl rfl rfl rfl he hst hm2 (fun es3 he3 hs3 => ?_)
    refine⟨fun h=>absurd rfl h,RegF.done (by kernel_rfl) ?_⟩
    simp only[zD,zC,zB,Act.put]
    have HDL:=h2.del k0 hm2 es3 clock he3 hs3
    have hd:=HDL.1
    have hdm:=hm2.set es3 clock
    have hde:EnV es3 (ptrV (updV V k0 none)):=by rw[ptrV_upd];exact he3
    have hds:=hs3
    have bxd:=HDL.2.blk bx2 (fun e=>hm2.notBlk bx2 e.symm)
    have h0p:updV V k0 none page=none:=by
     unfold updV
     split
     ·rfl
     ·exact hpv
    have hgd:=hG2.trans (HDL.2.more (Nu:=fun k=>caMu a r V k∨w.heap.size<=k) (fun k e _ => .inl (.inr (.inl e))))
    clear hS0 HDL
    obtain⟨W1,eW1⟩:∃W1,W1=setMap W2.drew r es3 clock:=⟨_,rfl⟩
    rw[<-eW1] at hd hdm bxd hgd ⊢
    clear eW1
    have hfB:Below W1.heap.size W1 (W1.alloc (.cells #[.int .i64 0,.slice none 0 0,.bool false] 126)):=(Below.refl _ _).alloc (zG _) _
    have hfb:=BlkIs.new W1 126 #[.int .i64 0,.slice none 0 0,.bool false]
    have hbq:w.heap.size<=W1.heap.size:=hgd.size
    obtain⟨Wf,eWf⟩:∃Wf,Wf=W1.alloc (.cells #[.int .i64 0,.slice none 0 0,.bool false] 126):=⟨_,rfl⟩
    rw[<-eWf] at hfB hfb
    have hf:=hd.below hfB
    have hfm:MapIs Wf r _ _:=hdm.below hfB hdm.lt
    have bxf:=bxd.below hfB bxd.lt
    have hgf:=hgd.trans (GrowBut.below (Mu:=fun k=>caMu a r V k∨w.heap.size<=k) hfB)
    have HWf:=Lib.hid eWf.symm
    clear eWf
    have kbf:=bxf.boxed
    have k3f:Wf.cell? ⟨a,3,none⟩=some (.map (some r)):=(hf.cb.cell _).trans rfl
    have hne:∀k v,updV V k0 none k=some v->v.b≠W1.heap.size:=fun k v hv e=>by
     have:=(hd.rows k v hv).blk.lt
     omega
    obtain⟨b1,eb1⟩:∃b1,b1=W1.heap.size:=⟨_,rfl⟩
    rw[<-eb1] at hfb hne hbq
    go_wp2_with (first
     | (rw[HWf.out])
     | (rw[<-eb1])
     | (refine wp_putR rfl rfl rfl rfl rfl hde hds hfm ?_
        intro es2 ck2 he2 hs2
        have HFR:=hf.fresh hpg h0p hn.1 hfb hne hfm es2 ck2 he2 hs2
        have bx:=HFR.2.blk bxf (fun e=>hfm.notBlk bxf e.symm)
        have h1:=HFR.1
        have hg:=hgf.trans (HFR.2.more (Nu:=fun k=>caMu a r V k∨w.heap.size<=k) (fun k e _ => .inl (.inr (.inl e))))
        clear HFR
        obtain⟨W,eW⟩:∃W,W=setMap Wf r es2 ck2:=⟨_,rfl⟩
        rw[<-eW] at bx h1 hg ⊢
        clear eW
        have kbx:=bx.boxed
        have ka0:W.cell? ⟨a,2,none⟩=some (.int .i64 now):=(h1.cb.cell _).trans rfl
        have kf0:=h1.cb.free 2))
    obtain⟨v1,ev1⟩:∃v1:RowV,v1=⟨b1,0,none,0,[],false⟩:=⟨_,rfl⟩
    rw[<-ev1] at h1
    have evb:v1.b=b1:=by rw[ev1]
    rw[<-evb]
    have hv1:=updV_self (updV V k0 none) page (some v1)
    have hvb:caMu a r V v1.b∨w.heap.size<=v1.b:=.inr (by rw[evb];exact hbq)
    have hs1:=h1.setCa 2 (.int .i64 (now+1)) (now':=now+1) (hh':=hh) (mm':=mm) rfl (by omega)
    have bx1:=hs1.2.blk bx (show ¬ w.heap.size=a from hxa)
    obtain⟨hC2,hG2⟩:=hs1
    have hr1:=h1.rows page v1 hv1
    have HT:=hC2.below (W':=(W.setCell ⟨a,2,none⟩ (.int .i64 (now+1))).drew) (Below.refl _ _).drew
    have hU:=used_gives (W:=(W.setCell ⟨a,2,none⟩ (.int .i64 (now+1))).drew) (HT.rows page v1 hv1).blk (now+1)
    have HS:=HT.setRow (v1:={ v1 with at_:=now+1 }) hv1 rfl 0 (.int .i64 (now+1)) rfl (.inl ⟨rfl,rfl,rfl⟩) ⟨by show 0<=now+1;omega,Int.le_refl _⟩ (fun _ k v hk hv=>by
     have:=(h1.rows k v hv).at0.2
     show v.at_≠now+1
     omega)
    have hS0:(W.setCell ⟨a,2,none⟩ (.int .i64 (now+1))).drew.cell? ⟨w.heap.size,0,none⟩=some (.pointer (some ⟨a,0,none⟩))/\(W.setCell ⟨a,2,none⟩ (.int .i64 (now+1))).drew.cell? ⟨a,2,none⟩=some (.int .i64 (now+1)):=⟨bx1.boxed,(HT.cb.cell _).trans rfl⟩
    have hgrow:GrowBut (fun k=>caMu a r V k∨w.heap.size<=k) w (((W.setCell ⟨a,2,none⟩ (.int .i64 (now+1))).drew).setCell ⟨v1.b,0,none⟩ (.int .i64 (now+1))):=((hg.trans (hG2.more (fun k e _ => .inl (.inl e)))).trans (GrowBut.below (Below.refl _ _).drew)).trans (HS.2.more (fun k e _=>by rw[e];exact hvb))
    clear hC2 hG2 HT hr1 bx bx1
    refine RegF.start (fun W:World=>W.cell? ⟨w.heap.size,0,none⟩=some (.pointer (some ⟨a,0,none⟩))/\W.cell? ⟨a,2,none⟩=some (.int .i64 (now+1))) 7 (by kernel_rfl) ?_
    refine RegF.t1 0 (.pointer (some ⟨v1.b,0,none⟩)) rfl hS0 (fun W ⟨e0,e1⟩=>by go_simp) ?_
    simp only[zD,zB,Act.put,zA,zF,zE]
    refine RegF.t1 1 (.pointer (some ⟨v1.b,0,none⟩)) rfl hS0 (fun W ⟨e0,e1⟩=>by go_simp) ?_
    simp only[zD,zC,zB,Act.put,zA,zF,zE]
    refine RegF.t1 2 (.pointer (some ⟨v1.b,0,none⟩)) rfl hS0 (fun W ⟨e0,e1⟩=>by go_simp) ?_
    simp only[zD,zC,zB,Act.put,zA,zF,zE]
    refine RegF.t1 3 (.pointer (some ⟨a,0,none⟩)) rfl hS0 (fun W ⟨e0,e1⟩=>by go_simp) ?_
    simp only[zD,zC,zB,Act.put,zA,zF,zE]
    refine RegF.t1 4 (.pointer (some ⟨a,0,none⟩)) rfl hS0 (fun W ⟨e0,e1⟩=>by go_simp) ?_
    simp only[zD,zC,zB,Act.put,zA,zF,zE]
    refine RegF.t1 5 (.pointer (some ⟨a,2,none⟩)) rfl hS0 (fun W ⟨e0,e1⟩=>by go_simp) ?_
    simp only[zD,zC,zB,Act.put,zA,zF,zE]
    refine RegF.t1 6 (.int .i64 (now+1)) rfl hS0 (fun W ⟨e0,e1⟩=>by go_simp) ?_
    simp only[zD,zC,zB,Act.put,zA,zF,zE]
    refine RegF.one 7 (by kernel_rfl) ?_
    refine RegF.opC 111 #[.tmp 58,.tmp 62] #[124,3] rfl rfl rfl (enters_of Tryz.func111 (by kernel_rfl) rfl) #[.pointer (some ⟨v1.b,0,none⟩),.int .i64 (now+1)] (by simp only[zJ,zK,zL];rfl) (hU.mono ?_)
    rintro e w9 ⟨rfl,rfl⟩
    refine⟨_,rfl,fun h=>absurd rfl h,RegF.done (by kernel_rfl) ?_⟩
    simp only[zD,zC,zB,Act.put,zA,zF,zE]
    clear hS0
    go_wp2
    have hQ:=HS.1
    rw[updV_updV] at hQ
    subst ev1
    exact bodyPost_ret (results_tmp2 rfl _ _ _) rfl ⟨.inr (.inr (.inr ⟨hpv,by omega,k0,v0,hv0,hd0,hleast,b1,hbq,rfl,hQ⟩)),hout hgrow⟩
  ·rw[show decide ((es.size:Int) ≥ room)=false from decide_eq_false (by omega)]
   have hd:=h1
   have hdm:=hm1
   have hde:=he
   have hds:=hst
   have bxd:=bx1
   have h0p:=hpv
   have hgd:=hG1
   have hfB:Below W1.heap.size W1 (W1.alloc (.cells #[.int .i64 0,.slice none 0 0,.bool false] 126)):=(Below.refl _ _).alloc (zG _) _
   have hfb:=BlkIs.new W1 126 #[.int .i64 0,.slice none 0 0,.bool false]
   have hbq:w.heap.size<=W1.heap.size:=hgd.size
   obtain⟨Wf,eWf⟩:∃Wf,Wf=W1.alloc (.cells #[.int .i64 0,.slice none 0 0,.bool false] 126):=⟨_,rfl⟩
   rw[<-eWf] at hfB hfb
   have hf:=hd.below hfB
   have hfm:MapIs Wf r _ _:=hdm.below hfB hdm.lt
   have bxf:=bxd.below hfB bxd.lt
   have hgf:=hgd.trans (GrowBut.below (Mu:=fun k=>caMu a r V k∨w.heap.size<=k) hfB)
   have HWf:=Lib.hid eWf.symm
   clear eWf
   have kbf:=bxf.boxed
   have k3f:Wf.cell? ⟨a,3,none⟩=some (.map (some r)):=(hf.cb.cell _).trans rfl
   have hne:∀k v,V k=some v->v.b≠W1.heap.size:=fun k v hv e=>by
    have:=(hd.rows k v hv).blk.lt
    omega
   obtain⟨b1,eb1⟩:∃b1,b1=W1.heap.size:=⟨_,rfl⟩
   rw[<-eb1] at hfb hne hbq
   go_wp2_with (first
    | (rw[HWf.out])
    | (rw[<-eb1])
    | (refine wp_putR rfl rfl rfl rfl rfl hde hds hfm ?_
       intro es2 ck2 he2 hs2
       have HFR:=hf.fresh hpg h0p hn.1 hfb hne hfm es2 ck2 he2 hs2
       have bx:=HFR.2.blk bxf (fun e=>hfm.notBlk bxf e.symm)
       have h1:=HFR.1
       have hg:=hgf.trans (HFR.2.more (Nu:=fun k=>caMu a r V k∨w.heap.size<=k) (fun k e _ => .inl (.inr (.inl e))))
       clear HFR
       obtain⟨W,eW⟩:∃W,W=setMap Wf r es2 ck2:=⟨_,rfl⟩
       rw[<-eW] at bx h1 hg ⊢
       clear eW
       have kbx:=bx.boxed
       have ka0:W.cell? ⟨a,2,none⟩=some (.int .i64 now):=(h1.cb.cell _).trans rfl
       have kf0:=h1.cb.free 2))
   obtain⟨v1,ev1⟩:∃v1:RowV,v1=⟨b1,0,none,0,[],false⟩:=⟨_,rfl⟩
   rw[<-ev1] at h1
   have evb:v1.b=b1:=by rw[ev1]
   rw[<-evb]
   have hv1:=updV_self (V) page (some v1)
   have hvb:caMu a r V v1.b∨w.heap.size<=v1.b:=.inr (by rw[evb];exact hbq)
   have hs1:=h1.setCa 2 (.int .i64 (now+1)) (now':=now+1) (hh':=hh) (mm':=mm) rfl (by omega)
   have bx1:=hs1.2.blk bx (show ¬ w.heap.size=a from hxa)
   obtain⟨hC2,hG2⟩:=hs1
   have hr1:=h1.rows page v1 hv1
   have HT:=hC2.below (W':=(W.setCell ⟨a,2,none⟩ (.int .i64 (now+1))).drew) (Below.refl _ _).drew
   have hU:=used_gives (W:=(W.setCell ⟨a,2,none⟩ (.int .i64 (now+1))).drew) (HT.rows page v1 hv1).blk (now+1)
   have HS:=HT.setRow (v1:={ v1 with at_:=now+1 }) hv1 rfl 0 (.int .i64 (now+1)) rfl (.inl ⟨rfl,rfl,rfl⟩) ⟨by show 0<=now+1;omega,Int.le_refl _⟩ (fun _ k v hk hv=>by
    have:=(h1.rows k v hv).at0.2
    show v.at_≠now+1
    omega)
   have hS0:(W.setCell ⟨a,2,none⟩ (.int .i64 (now+1))).drew.cell? ⟨w.heap.size,0,none⟩=some (.pointer (some ⟨a,0,none⟩))/\(W.setCell ⟨a,2,none⟩ (.int .i64 (now+1))).drew.cell? ⟨a,2,none⟩=some (.int .i64 (now+1)):=⟨bx1.boxed,(HT.cb.cell _).trans rfl⟩
   have hgrow:GrowBut (fun k=>caMu a r V k∨w.heap.size<=k) w (((W.setCell ⟨a,2,none⟩ (.int .i64 (now+1))).drew).setCell ⟨v1.b,0,none⟩ (.int .i64 (now+1))):=((hg.trans (hG2.more (fun k e _ => .inl (.inl e)))).trans (GrowBut.below (Below.refl _ _).drew)).trans (HS.2.more (fun k e _=>by rw[e];exact hvb))
   clear hC2 hG2 HT hr1 bx bx1
   refine RegF.start (fun W:World=>W.cell? ⟨w.heap.size,0,none⟩=some (.pointer (some ⟨a,0,none⟩))/\W.cell? ⟨a,2,none⟩=some (.int .i64 (now+1))) 7 (by kernel_rfl) ?_
   refine RegF.t1 0 (.pointer (some ⟨v1.b,0,none⟩)) rfl hS0 (fun W ⟨e0,e1⟩=>by go_simp) ?_
   simp only[zD,zB,Act.put,zA,zF,zE]
   refine RegF.t1 1 (.pointer (some ⟨v1.b,0,none⟩)) rfl hS0 (fun W ⟨e0,e1⟩=>by go_simp) ?_
   simp only[zD,zC,zB,Act.put,zA,zF,zE]
   refine RegF.t1 2 (.pointer (some ⟨v1.b,0,none⟩)) rfl hS0 (fun W ⟨e0,e1⟩=>by go_simp) ?_
   simp only[zD,zC,zB,Act.put,zA,zF,zE]
   refine RegF.t1 3 (.pointer (some ⟨a,0,none⟩)) rfl hS0 (fun W ⟨e0,e1⟩=>by go_simp) ?_
   simp only[zD,zC,zB,Act.put,zA,zF,zE]
   refine RegF.t1 4 (.pointer (some ⟨a,0,none⟩)) rfl hS0 (fun W ⟨e0,e1⟩=>by go_simp) ?_
   simp only[zD,zC,zB,Act.put,zA,zF,zE]
   refine RegF.t1 5 (.pointer (some ⟨a,2,none⟩)) rfl hS0 (fun W ⟨e0,e1⟩=>by go_simp) ?_
   simp only[zD,zC,zB,Act.put,zA,zF,zE]
   refine RegF.t1 6 (.int .i64 (now+1)) rfl hS0 (fun W ⟨e0,e1⟩=>by go_simp) ?_
   simp only[zD,zC,zB,Act.put,zA,zF,zE]
   refine RegF.one 7 (by kernel_rfl) ?_
   refine RegF.opC 111 #[.tmp 58,.tmp 62] #[124,3] rfl rfl rfl (enters_of Tryz.func111 (by kernel_rfl) rfl) #[.pointer (some ⟨v1.b,0,none⟩),.int .i64 (now+1)] (by simp only[zJ,zK,zL];rfl) (hU.mono ?_)
   rintro e w9 ⟨rfl,rfl⟩
   refine⟨_,rfl,fun h=>absurd rfl h,RegF.done (by kernel_rfl) ?_⟩
   simp only[zD,zC,zB,Act.put,zA,zF,zE]
   clear hS0
   go_wp2
   have hQ:=HS.1
   rw[updV_updV] at hQ
   subst ev1
   exact bodyPost_ret (results_tmp2 rfl _ _ _) rfl ⟨.inr (.inl ⟨hpv,by omega,b1,hbq,rfl,hQ⟩),hout hgrow⟩
end Go.Proofs.YtnlimngkagmjpaaGreat
namespace Go.Proofs.YtnlimngkagmjpaaGreat
open Go Go.RowKit Lou
theorem fdisk_gives {w:World}{f l d:Nat}{fr pg:Int}{S:LgS}(hb:BlkIs w f 75 (flFC l fr pg))(hL:LogIs w l d fr pg S):Calls Tryz.prog 62 #[.pointer (some ⟨f,0,none⟩)] w fun e w'=>e = .returned (.pointer (some ⟨d,0,none⟩))/\w=w':=by
 have HN:=fnone_gives hb
 obtain⟨_,A,c,vs,hlg,_⟩:=hL
 have HD:=ldisk_gives hlg
 have c0:w.cell? ⟨f,0,none⟩=some (.pointer (some ⟨l,0,none⟩)):=by rw[hb.cell];rfl
 go_enter Tryz.func62,Tryz.ntmps62
 go_wp2_with (first
  | (go_at_call 63;refine HN.mono ?_;rintro e w' ⟨rfl,rfl⟩)
  | (go_at_call 105;refine HD.mono ?_;rintro e w' ⟨rfl,rfl⟩))
 go_ret
 exact⟨rfl,rfl⟩
theorem fplan_gives {w:World}{f l:Nat}{fr pg:Int}(hb:BlkIs w f 75 (flFC l fr pg)):Calls Tryz.prog 43 #[.pointer (some ⟨f,0,none⟩)] w fun e w'=>e = .returned (.agg #[.int .i64 fr,.int .i64 pg])/\Below w.heap.size w w':=by
 have hB:Below w.heap.size w (w.alloc (.cells #[.int .i64 0,.int .i64 0] 25)):=(Below.refl _ w).alloc (zG _) _
 have b2:=BlkIs.new w 25 #[.int .i64 0,.int .i64 0]
 have hbf:=hb.below hB hb.lt
 have HN:=fnone_gives hbf
 have hpl:(w.alloc (.cells #[.int .i64 0,.int .i64 0] 25)).rangeAt f 1 [.int .i64 fr,.int .i64 pg]:=fun j v hj=>by
  rw[hbf.cell]
  match j,hj with
  | 0,hj=>exact hj
  | 1,hj=>exact hj
  | j+2,hj=>exact absurd hj (by simp)
 go_enter Tryz.func43,Tryz.ntmps43
 go_wp2_with (first
  | (go_at_call 63;refine HN.mono ?_;rintro e w' ⟨rfl,rfl⟩)
  | (refine wp_exec rfl (x_loadM rowPlan hpl rfl rfl rfl) ?_)
  | (fail;refine wp_storeW rfl 25 (.tmp 2) (.tmp 9) rfl w.heap.size rfl rfl rowPlan b2 (by rfl) (by rfl) (two_oneR rfl rfl) ?_))
 exact bodyPost_ret_by (results_cellW 2 rfl rfl rowPlan (BlkIs.new w _ _) (by rfl)) rfl ⟨rfl,(Below.refl _ w).alloc (zG _) _⟩
theorem cloneP_gives (w:World)(A:Option Addr)(c:Nat)(y:List UInt8)(h:InB w w.heap.size A c y)(hl:y.length<=100000):Calls Tryz.prog 67 #[.slice A y.length c] w fun e w'=>∃A' c',e = .returned (.slice A' y.length c')/\InB w' w'.heap.size A' c' y/\(∀g o,A'=some ⟨g,o,none⟩->w.heap.size<=g)/\TyB w' A'/\Below w.heap.size w w':=by
 refine(clone_gives w A c y h (by omega)).mono ?_
 rintro e w' ⟨v,rfl,own,hBc⟩
 have hge:=ownG_ge own
 have hty:=ownG_ty own
 obtain⟨A',c',rfl,hin⟩:=own.inB
 exact⟨A',c',rfl,hin,fun g o e=>by subst e;exact hge g rfl,fun g o e=>by subst e;exact hty g rfl,hBc⟩
theorem cnone_gives {w:World}{a f r:Nat}{room now hh mm:Int}(hb:BlkIs w a 118 (caC f room now r hh mm)):Calls Tryz.prog 65 #[.pointer (some ⟨a,0,none⟩)] w fun e w'=>e = .returned (.bool false)/\w=w':=by
 have c0:w.cell? ⟨a,3,none⟩=some (.map (some r)):=by rw[hb.cell];rfl
 have hq:=fun W=>run_eql_map_nil (P:=Tryz.prog) W 111 _ _ (some r) Tryz.underlying111
 go_enter Tryz.func65,Tryz.ntmps65
 go_wp2
 go_ret
 exact⟨rfl,rfl⟩
theorem add1_gives {w:World}{a:Addr}{x:Int}(hc:w.cell? a=some (.int .i64 x))(hf:w.frozen? a=false)(ha:a.spot=none)(hx : -1000000000<=x/\x<=1000000000):Calls Tryz.prog 71 #[.pointer (some a),.int .i64 1] w fun e w'=>e = .returned (.int .i64 (x+1))/\w'=w.setCell a (.int .i64 (x+1)):=by
 obtain⟨g,o,s⟩:=a
 subst ha
 have hw:IntKind.i64.wrap (x+1)=x+1:=wrap_i64_fr _ (by omega) (by omega)
 have hadd:=run_call_add (P:=Tryz.prog) Tryz.func120 (by kernel_rfl) (by kernel_rfl) (by kernel_rfl) .i64 (by kernel_rfl) (y:=1) (s:=x+1) hc hf (by simp[go_sem,hw])
 go_enter Tryz.func71,Tryz.ntmps71
 go_wp2
 go_ret
 exact⟨rfl,rfl⟩
end Go.Proofs.YtnlimngkagmjpaaGreat
