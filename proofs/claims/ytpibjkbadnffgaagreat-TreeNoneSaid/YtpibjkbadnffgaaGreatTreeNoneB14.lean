/- Texts that the proof of TreeNone leans on, part 14. -/
import Derived.Sort.CutIn
import Derived.Lib.Builder
import Derived.Test.YtpibjkbadnffgaaGreatTreeNoneB13
open List renaming getElem_toArray → zE, getElem_cons_zero → zB, setIfInBounds_toArray → zA, set_cons_zero → zG, set_cons_succ → zF, getElem_cons_succ → zD, mem_singleton → qN, replicate → zR, size_toArray → zT, length_cons → zP, length_nil → qE, push_toArray → qD, append_toArray → qA, nil_append → zV, cons_append → qB
open Nat renaming le_refl → zH, reduceAdd → qO, reduceSub → qP
open Array renaming replicate_succ → zX, replicate_zero → zY, getElem?_eq_some_iff → zI
set_option linter.unusedVariables false
set_option maxRecDepth 100000
set_option maxHeartbeats 8000000

namespace Go.Proofs.YtpibjkbadnffgaaGreat
open Go Go.RowKit Lou
section
variable {W0 W W':World}{K:PgK}{p t:Nat}{k:Int}{v v':PgV}{st last st' last':PgSt}{under:Bool}{mk mk':Value}{ms:List MkT}
theorem TrAt.keepBs {Mu:Nat->Prop}(h:TrAt W0 K p t k v st last under mk ms W)(i:GrowBut Mu W W')(g:∀j,Mu j->∃T cs,BlkIs W j T cs/\cs.size<=64/\(∀n,cs[0]? ≠ some (.int .u64 n))/\W0.heap.size<=j/\Boxy T):TrAt W0 K p t k v st last under mk ms W':=by
 have m:∀j,Mu j->SmBlk W j:=λj c=>by
  obtain⟨T,cs,a,hs,u,_⟩:=g j c
  exact SmBlk.of a hs u
 have o:∀j,Mu j->¬ pgMu K p v j:=λj c=>by
  obtain⟨T,cs,a,_,_,_,d⟩:=g j c
  exact h.notB a d
 refine⟨⟨h.pa.ca.keep i m (λj c => ?_) (λj c=>⟨λe=>o j c (.inr e),λe => ?_⟩),i.blk h.pa.pb (λe=>o _ e (.inl rfl)),h.pa.np,h.pa.hs,h.pa.hl⟩,⟨h.mm.row.keep i (λj c e => ?_),λx s => ?_⟩,i.blk h.tb (λe => ?_)⟩
 ·obtain⟨_,_,_,_,_,w,_⟩:=g j c
  exact w
 ·obtain⟨T,cs,a,_,_,_,d⟩:=g j c
  exact BlkIs.ne_type a h.pa.ca.cs.fh.fb d.2.2.2.2.2.1 e
 ·obtain⟨T,cs,a,_,_,_,d⟩:=g j e
  exact(h.mm.row.blk j c).1.notTy a ⟨d.2.2.2.2.2.2.2.1,d.2.2.2.2.2.2.2.2⟩
 ·obtain⟨h1,h2,r⟩:=h.mm.maps x s
  refine⟨h1.keepS i m (λe => ?_),h2,r⟩
  obtain⟨T,cs,a,_⟩:=g _ e
  obtain⟨z,A,f,q,_⟩:=h1.has
  exact q.notBlk a rfl
 ·obtain⟨T,cs,a,_,_,_,d⟩:=g _ e
  exact BlkIs.ne_type a h.tb d.2.2.2.2.2.2.1 rfl
theorem twalk_leaf (h:TrAt W0 K p t k v st last under mk ms W)(hK:K.Ok)(hN:v.N<=800000)(n:Int)(hn:1<=n/\n<st.size)(hP:n<(K.P:Int))(hT:¬ Tight K v.D)(x:Nod)(C:PgNod K v n x)(aS:x.leaf=true)(kk u:ByteArray)(aW:x.cells=[⟨kk,u,0,0⟩])
  {a b c s:Nat} (ha:BlkIs W a 3 #[.int .i64 0]) (z:BlkIs W b 3 #[.int .i64 0]) (hc:BlkIs W c 3 #[.int .i64 0]) (hs:BlkIs W s 74 #[.pointer (some ⟨t,0,none⟩)]) (aN:a≠b) (aO:a≠c) (aT:b≠c) (ga:W0.heap.size<=a) (gb:W0.heap.size<=b) (gc:W0.heap.size<=c) :
  Calls Tryz.prog 39 #[.agg #[.pointer (some ⟨t,0,none⟩)],.int .i64 n,.int .i64 1,.func (.func 40) #[] #[.pointer (some ⟨a,0,none⟩),.pointer (some ⟨b,0,none⟩),.pointer (some ⟨c,0,none⟩),.pointer (some ⟨s,0,none⟩)]] W λe w'=>∃v',e = .returned (.bool true)/\TrAt W0 K p t k v' st last under mk ms w'/\KeptP K v v'/\(BlkIs w' a 3 #[.int .i64 1]/\BlkIs w' b 3 #[.int .i64 1]/\BlkIs w' c 3 #[.int .i64 1])/\GrowBut (λj=>pgMu K p v j∨(j=a∨j=b∨j=c)) W w':=by
 obtain⟨aZ,aK,_⟩:=C.fits.1.leaf aS
 have eg:=enters_of Tryz.func40 (by kernel_rfl) rfl
 obtain⟨W1,w⟩:∃W1,W1=W.alloc (.cells #[.pointer (some ⟨t,0,none⟩)] 74):=⟨_,rfl⟩
 have f:Below W.heap.size W W1:=by rw[w];exact below1 _ _
 have Z:BlkIs W1 W.heap.size 74 #[.pointer (some ⟨t,0,none⟩)]:=by rw[w];exact BlkIs.new W _ _
 have h1:=h.grow f
 have aC:=tnode_gives h1 hK hN n hn hP hT x C
 have E:=ha.below f ha.lt
 have L:=z.below f z.lt
 have U:=hc.below f hc.lt
 have T:=hs.below f hs.lt
 have la:=ha.lt
 have lb:=z.lt
 have lc:=hc.lt
 have aY:=f.size
 have aD:=Z.boxed
 rw[w] at aD
 have na:=h1.notB E (by unfold Boxy;decide)
 have nb:=h1.notB L (by unfold Boxy;decide)
 have nc:=h1.notB U (by unfold Boxy;decide)
 have ns:=h1.notB T (by unfold Boxy;decide)
 have aM:=Lib.hid w.symm
 clear w h ha z hc hs C
 go_enter Tryz.func39,Tryz.ntmps39
 go_wp2_with fail
 rw[aM.out]
 refine aC.mono ?_
 rintro e d ⟨v',Ac,cc,Ak,ck,X,ci,rfl,n2,h2,aL,aV,o⟩
 obtain⟨N,q⟩:∃N,N=nodC x Ac cc Ak ck X ci:=⟨_,rfl⟩
 have aI:N.size=4:=by rw[q];rfl
 have aQ:∀u∈N.toList,u.oneCell'=true:=by rw[q];exact four_oneC rfl rfl rfl rfl
 rw[<-q]
 have G:=o.blk E na
 have S:=o.blk L nb
 have M:=o.blk U nc
 have H:=o.blk T ns
 have aX:=o.size
 obtain⟨W3,B⟩:∃W3,W3=d.alloc (.cells #[.bool false,.slice none 0 0,.slice none 0 0,.slice none 0 0] 43):=⟨_,rfl⟩
 have aE:BlkIs W3 d.heap.size 43 #[.bool false,.slice none 0 0,.slice none 0 0,.slice none 0 0]:=by rw[B];exact BlkIs.new d _ _
 have aG:Below d.heap.size d W3:=by rw[B];exact below1 _ _
 have g:Below d.heap.size d (W3.setRow d.heap.size N):=below_setRow aG (zH _) _
 have O:=aE.setRow N
 generalize aB:W3.setRow d.heap.size N=W4 at *
 have h4:=h2.grow g
 have n4:=n2.grow g
 have I:=G.below g G.lt
 have V:=S.below g S.lt
 have F:=M.below g M.lt
 have aF:=H.below g H.lt
 have Q:=tcheck2_one W4 (P:=.pointer (some ⟨t,0,none⟩)) I V F aF aN aO aT n4 kk u aW n
 rw[<-q] at Q
 have aR:=Lib.hid q
 have aU:=Lib.hid B.symm
 have aP:=Lib.hid aB
 have aA:GrowBut (λj=>pgMu K p v j∨(j=a∨j=b∨j=c)) W W4:=((GrowBut.below f).trans (o.more λj r _ => .inl r)).trans (GrowBut.below g)
 clear q B aB h1 h2 n2 n4 Z aD E L U T G S M H hn hT aC aG o aV na nb nc ns f g
 go_wp2_with (first
  | (rw[aU.out];refine wp_storeW rfl 43 (.tmp 9) (.tmp 14) rfl d.heap.size rfl rfl rowNod aE rfl aI aQ ?_;rw[aP.out])
  | (refine wp_loadW rfl 43 (.tmp 9) rfl d.heap.size rfl rowNod O aI ?_))
 refine Q.mono ?_
 rintro e w5 ⟨rfl,aH,A⟩
 have aJ:=A.blk O (by omega)
 have h5:=h4.keepBs A (λj r=>by
  rcases r with rfl|rfl|rfl
  ·exact⟨_,_,I,by decide,(λm e=>by cases e),ga,by unfold Boxy;decide⟩
  ·exact⟨_,_,V,by decide,(λm e=>by cases e),gb,by unfold Boxy;decide⟩
  ·exact⟨_,_,F,by decide,(λm e=>by cases e),gc,by unfold Boxy;decide⟩)
 have hG:GrowBut (λj=>pgMu K p v j∨(j=a∨j=b∨j=c)) W w5:=aA.trans (A.more λj r _ => .inr r)
 have d3:w5.cell? ⟨d.heap.size,3,none⟩=some (.slice X 0 ci):=by rw[aJ.cell,aR.out];simp[nodC,aK]
 have HV:=Lib.hid aH
 clear Q h4 I V F aF O aJ aA A aH eg
 go_wp2
 go_loopw [24] (λi wr=>i = .int .i64 0/\wr=w5) (λ_ _=>0)
 case atStart=>exact⟨rfl,rfl⟩
 case round =>
  obtain⟨rfl,rfl⟩:=hrel
  go_wp2
  go_ret
  exact⟨v',rfl,h5,aL,HV.out,hG⟩
end
section
variable {W0 W W':World}{K:PgK}{p t:Nat}{v v':PgV}{st last st' last':PgSt}{under:Bool}{mk mk':Value}{ms:List MkT}
theorem tcheck_leaf (h:TrAt W0 K p t 0 v st last under mk ms W)(hK:K.Ok)(hN:v.N<=800000)(n:Int)(hn:1<=n/\n<st.size)(hP:n<(K.P:Int))(hT:¬ Tight K v.D)(h0:st.roots[0]? = some n)(x:Nod)(hx:PgNod K v n x)(bH:x.leaf=true)(kk u:ByteArray)(bP:x.cells=[⟨kk,u,0,0⟩]) :
  Calls Tryz.prog 10 #[.pointer (some ⟨t,0,none⟩)] W λe w'=>e = .returned (.tuple #[.int .i64 1,.int .i64 1,.int .i64 1,.int .i64 0])/\∃v',TrAt W0 K p t 0 v' st last under mk ms w'/\KeptP K v v':=by
 have bU:=h.up
 have bT:¬ n=0:=by omega
 obtain⟨W1,d⟩:∃W1,W1=(((W.alloc (.cells #[.int .i64 0] 3)).alloc (.cells #[.int .i64 0] 3)).alloc (.cells #[.int .i64 0] 3)).alloc (.cells #[.int .i64 0] 27):=⟨_,rfl⟩
 have bD:Below W.heap.size W W1:=by rw[d];exact below4 _ _ _ _ _
 have T:BlkIs W1 W.heap.size 3 #[.int .i64 0]:=by rw[d];exact(((BlkIs.new W _ _).alloc _).alloc _).alloc _
 have U:BlkIs W1 (W.heap.size+1) 3 #[.int .i64 0]:=by
  have:=((BlkIs.new (W.alloc (.cells #[.int .i64 0] 3)) 3 #[.int .i64 0]).alloc (.cells #[.int .i64 0] 3)).alloc (.cells #[.int .i64 0] 27)
  rw[World.size_alloc] at this
  rw[d]
  exact this
 have b4:BlkIs W1 (W.heap.size+1+1) 3 #[.int .i64 0]:=by
  have:=(BlkIs.new ((W.alloc (.cells #[.int .i64 0] 3)).alloc (.cells #[.int .i64 0] 3)) 3 #[.int .i64 0]).alloc (.cells #[.int .i64 0] 27)
  rw[World.size_alloc,World.size_alloc] at this
  rw[d]
  exact this
 have b5:BlkIs W1 (W.heap.size+1+1+1) 27 #[.int .i64 0]:=by
  have:=BlkIs.new (((W.alloc (.cells #[.int .i64 0] 3)).alloc (.cells #[.int .i64 0] 3)).alloc (.cells #[.int .i64 0] 3)) 27 #[.int .i64 0]
  rw[World.size_alloc,World.size_alloc,World.size_alloc] at this
  rw[d]
  exact this
 have bO:W1.heap.size=W.heap.size+1+1+1+1:=by rw[d,World.size_alloc,World.size_alloc,World.size_alloc,World.size_alloc]
 have h1:=h.grow bD
 have bK:=h1.none
 obtain⟨W2,M⟩:∃W2,W2=W1.alloc (.cells #[.pointer (some ⟨t,0,none⟩)] 74):=⟨_,rfl⟩
 have z:Below W1.heap.size W1 W2:=by rw[M];exact below1 _ _
 have O:BlkIs W2 (W.heap.size+1+1+1+1) 74 #[.pointer (some ⟨t,0,none⟩)]:=by rw[M,<-bO];exact BlkIs.new W1 _ _
 have h2:=h1.grow z
 have HR:=troot_gives h2 (i:=0) rfl h0
 have aN:=T.below z T.lt
 have V:=U.below z U.lt
 have X:=b4.below z b4.lt
 have aP:=b5.below z b5.lt
 have a7:=O.boxed
 rw[M] at a7
 have bR:=z.size
 have bB:=Lib.hid d.symm
 have bM:=Lib.hid M.symm
 clear d M h h1 h0 T U b4 b5
 go_enter_defers Tryz.func10,Tryz.ntmps10
 go_wp2_with (first
  | (go_at_call 26;rw[bB.out];refine bK.mono ?_;rintro e w2 ⟨rfl,rfl⟩))
 rw[bM.out]
 refine HR.mono ?_
 rintro e w3 ⟨rfl,A⟩
 have h3:=h2.grow A
 have a3:=aN.below A aN.lt
 have aS:=V.below A V.lt
 have a8:=X.below A X.lt
 have aG:=aP.below A aP.lt
 have aB:=O.below A O.lt
 have bI:=aB.boxed
 have a6:=twalk_leaf h3 hK hN n hn hP hT x hx bH kk u bP a3 aS a8 aB (by omega) (by omega) (by omega) (by omega) (by omega) (by omega)
 have bA:=h3.notB aG (by unfold Boxy;decide)
 clear HR h2 aN V X aP O a7 hx hT hn
 go_wp2_with fail
 refine a6.mono ?_
 rintro e r ⟨v',rfl,h4,bL,⟨aI,aD,Z⟩,aU⟩
 have aH:=aU.blk aG (λe=>by
  rcases e with e|e
  ·exact bA e
  ·omega)
 have s:Below r.heap.size r r.drew:=(Below.refl _ _).drew
 have aQ:=h4.grow s
 have L:=aI.below s aI.lt
 have aJ:=aD.below s aD.lt
 have aO:=Z.below s Z.lt
 have aZ:=aH.below s aH.lt
 clear a6 h3 a3 aS a8 aG aB bI h4 aI aD Z aH aU s
 have S:r.drew.cell? ⟨W.heap.size,0,none⟩=some (.int .i64 1)/\r.drew.cell? ⟨W.heap.size+1,0,none⟩=some (.int .i64 1)/\r.drew.cell? ⟨W.heap.size+1+1,0,none⟩=some (.int .i64 1):=⟨L.boxed,aJ.boxed,aO.boxed⟩
 go_wp2_with fail
 refine Code.wp_mono (Q:=noPan _) (λe a w h=>noPan_of h) ?_
 refine RegF.start (λW':World=>W'.cell? ⟨W.heap.size,0,none⟩=some (.int .i64 1)/\W'.cell? ⟨W.heap.size+1,0,none⟩=some (.int .i64 1)/\W'.cell? ⟨W.heap.size+1+1,0,none⟩=some (.int .i64 1)) 99 (by kernel_rfl) ?_
 generalize r.drew=g at *
 refine RegF.t0 0 (.int .i64 1) rfl S (λW ⟨e0,e1,e2⟩=>by go_simp) ?_
 simp only[zE,zB,Act.put,zA,zG,zF]
 refine RegF.t0 1 (.int .i64 1) rfl S (λW ⟨e0,e1,e2⟩=>by go_simp) ?_
 simp only[zE,zD,zB,Act.put,zA,zG,zF]
 refine RegF.t0 2 (.int .i64 1) rfl S (λW ⟨e0,e1,e2⟩=>by go_simp) ?_
 simp only[zE,zD,zB,Act.put,zA,zG,zF]
 have bE:=L.free 0
 have I:GrowBut (λj=>j=W.heap.size) g (g.setCell ⟨W.heap.size,0,none⟩ (.int .i64 1)):=GrowBut.setCell _ _ _ rfl
 have a1:=aQ.keepB I L (by decide) (λm e=>by cases e) (by omega) (by unfold Boxy;decide)
 have aF:BlkIs (g.setCell ⟨W.heap.size,0,none⟩ (.int .i64 1)) (W.heap.size) _ #[.int .i64 1]:=L.set 0 _
 have H:=I.blk aJ (by omega)
 have aE:=I.blk aO (by omega)
 have aR:=I.blk aZ (by omega)
 have a2:(g.setCell ⟨W.heap.size,0,none⟩ (.int .i64 1)).cell? ⟨W.heap.size,0,none⟩=some (.int .i64 1)/\(g.setCell ⟨W.heap.size,0,none⟩ (.int .i64 1)).cell? ⟨W.heap.size+1,0,none⟩=some (.int .i64 1)/\(g.setCell ⟨W.heap.size,0,none⟩ (.int .i64 1)).cell? ⟨W.heap.size+1+1,0,none⟩=some (.int .i64 1):=⟨aF.boxed,H.boxed,aE.boxed⟩
 refine RegF.one 3 (by kernel_rfl) (RegF.opS (w':=g.setCell ⟨W.heap.size,0,none⟩ (.int .i64 1)) rfl rfl (by go_simp) ⟨λ_=>a2,?_⟩)
 simp only[zE,zD,zB,Act.put]
 generalize g.setCell ⟨W.heap.size,0,none⟩ (.int .i64 1)=o at *
 have bF:=H.free 0
 have F:GrowBut (λj=>j=W.heap.size+1) o (o.setCell ⟨W.heap.size+1,0,none⟩ (.int .i64 1)):=GrowBut.setCell _ _ _ rfl
 have aX:=a1.keepB F H (by decide) (λm e=>by cases e) (by omega) (by unfold Boxy;decide)
 have aM:=F.blk aF (by omega)
 have aK:BlkIs (o.setCell ⟨W.heap.size+1,0,none⟩ (.int .i64 1)) (W.heap.size+1) _ #[.int .i64 1]:=H.set 0 _
 have B:=F.blk aE (by omega)
 have a9:=F.blk aR (by omega)
 have aW:(o.setCell ⟨W.heap.size+1,0,none⟩ (.int .i64 1)).cell? ⟨W.heap.size,0,none⟩=some (.int .i64 1)/\(o.setCell ⟨W.heap.size+1,0,none⟩ (.int .i64 1)).cell? ⟨W.heap.size+1,0,none⟩=some (.int .i64 1)/\(o.setCell ⟨W.heap.size+1,0,none⟩ (.int .i64 1)).cell? ⟨W.heap.size+1+1,0,none⟩=some (.int .i64 1):=⟨aM.boxed,aK.boxed,B.boxed⟩
 refine RegF.one 4 (by kernel_rfl) (RegF.opS (w':=o.setCell ⟨W.heap.size+1,0,none⟩ (.int .i64 1)) rfl rfl (by go_simp) ⟨λ_=>aW,?_⟩)
 simp only[zE,zD,zB,Act.put]
 generalize o.setCell ⟨W.heap.size+1,0,none⟩ (.int .i64 1)=c at *
 have bG:=B.free 0
 have C:GrowBut (λj=>j=W.heap.size+1+1) c (c.setCell ⟨W.heap.size+1+1,0,none⟩ (.int .i64 1)):=GrowBut.setCell _ _ _ rfl
 have aV:=aX.keepB C B (by decide) (λm e=>by cases e) (by omega) (by unfold Boxy;decide)
 have aL:=C.blk aM (by omega)
 have aC:=C.blk aK (by omega)
 have aA:BlkIs (c.setCell ⟨W.heap.size+1+1,0,none⟩ (.int .i64 1)) (W.heap.size+1+1) _ #[.int .i64 1]:=B.set 0 _
 have E:=C.blk a9 (by omega)
 have a5:(c.setCell ⟨W.heap.size+1+1,0,none⟩ (.int .i64 1)).cell? ⟨W.heap.size,0,none⟩=some (.int .i64 1)/\(c.setCell ⟨W.heap.size+1+1,0,none⟩ (.int .i64 1)).cell? ⟨W.heap.size+1,0,none⟩=some (.int .i64 1)/\(c.setCell ⟨W.heap.size+1+1,0,none⟩ (.int .i64 1)).cell? ⟨W.heap.size+1+1,0,none⟩=some (.int .i64 1):=⟨aL.boxed,aC.boxed,aA.boxed⟩
 refine RegF.one 5 (by kernel_rfl) (RegF.opS (w':=c.setCell ⟨W.heap.size+1+1,0,none⟩ (.int .i64 1)) rfl rfl (by go_simp) ⟨λ_=>a5,?_⟩)
 simp only[zE,zD,zB,Act.put]
 generalize c.setCell ⟨W.heap.size+1+1,0,none⟩ (.int .i64 1)=q at *
 have bC:=E.free 0
 have bS:=E.boxed
 have G:GrowBut (λj=>j=W.heap.size+1+1+1) q (q.setCell ⟨W.heap.size+1+1+1,0,none⟩ (.int .i64 0)):=GrowBut.setCell _ _ _ rfl
 have bN:=aV.keepB G E (by decide) (λm e=>by cases e) (by omega) (by unfold Boxy;decide)
 have a0:=G.blk aL (by omega)
 have a4:=G.blk aC (by omega)
 have aT:=G.blk aA (by omega)
 have bJ:BlkIs (q.setCell ⟨W.heap.size+1+1+1,0,none⟩ (.int .i64 0)) (W.heap.size+1+1+1) _ #[.int .i64 0]:=E.set 0 _
 have aY:(q.setCell ⟨W.heap.size+1+1+1,0,none⟩ (.int .i64 0)).cell? ⟨W.heap.size,0,none⟩=some (.int .i64 1)/\(q.setCell ⟨W.heap.size+1+1+1,0,none⟩ (.int .i64 0)).cell? ⟨W.heap.size+1,0,none⟩=some (.int .i64 1)/\(q.setCell ⟨W.heap.size+1+1+1,0,none⟩ (.int .i64 0)).cell? ⟨W.heap.size+1+1,0,none⟩=some (.int .i64 1):=⟨a0.boxed,a4.boxed,aT.boxed⟩
 refine RegF.one 6 (by kernel_rfl) (RegF.opS (w':=q.setCell ⟨W.heap.size+1+1+1,0,none⟩ (.int .i64 0)) rfl rfl (by go_simp) ⟨λ_=>aY,?_⟩)
 simp only[zE,zD,zB,Act.put]
 generalize q.setCell ⟨W.heap.size+1+1+1,0,none⟩ (.int .i64 0)=bQ at *
 refine RegF.done (by kernel_rfl) ?_
 refine noPan_in ?_
 clear S a2 aW a5 aY bE bF bG bC I F C G L aJ aO aZ aF H aE aR aM aK B a9 aL aC aA E aQ a1 aX aV
 go_wp2
 refine leaves_cons (f:=27) (args:=#[.pointer (some ⟨W.heap.size+1+1+1,0,none⟩),.func (.func 38) #[] #[.pointer (some ⟨W.heap.size,0,none⟩),.pointer (some ⟨W.heap.size+1,0,none⟩),.pointer (some ⟨W.heap.size+1+1,0,none⟩)]]) (by simp) (by simp[go_sem]) ?_
 refine(tcaught_idle _ _ _).mono ?_
 rintro e u' wz ⟨rfl,rfl,rfl⟩
 exact⟨_,results_four rfl (rval_cell (p:=⟨W.heap.size,0,none⟩) 2 rfl (by simp[go_sem]) a0.boxed) (rval_cell (p:=⟨W.heap.size+1,0,none⟩) 3 rfl (by simp[go_sem]) a4.boxed) (rval_cell (p:=⟨W.heap.size+1+1,0,none⟩) 4 rfl (by simp[go_sem]) aT.boxed) (rval_cell (p:=⟨W.heap.size+1+1+1,0,none⟩) 5 rfl (by simp[go_sem]) bJ.boxed),rfl,v',bN,bL⟩
end
def ndX1:Nod:=leaf1 (str [98]) (str [49])
def ndX2:Nod:=⟨true,putIn ndX1.cells 0 ⟨str [97],str [50],0,0⟩,[],[]⟩
def ndX3:Nod:=⟨true,cutOut ndX2.cells 1,[],[]⟩
theorem right1 (c:Cel)(h1:shortS c.key=true)(h2:rightB c=true):RightP ⟨true,[c],[],[]⟩:=by
 refine⟨λj h => ?_,λj h => ?_,λs hs => ?_,λ_=>⟨rfl,rfl,λx a => ?_⟩,λh=>by cases h⟩
 ·simp[nkeys] at h
 ·simp[nkeys] at h
 ·simp[nkeys] at hs
  subst hs
  exact h1
 ·obtain rfl:=qN.1 a
  exact h2
theorem ndX1_right:RightP ndX1:=right1 _ (by decide +kernel) (by decide +kernel)
theorem ndX3_right:RightP ndX3:=right1 ⟨str [97],str [50],0,0⟩ (by decide +kernel) (by decide +kernel)
theorem ndX2_right:RightP ndX2:=by
 have e:ndX2=⟨true,[⟨str [97],str [50],0,0⟩,⟨str [98],str [49],0,0⟩],[],[]⟩:=rfl
 rw[e]
 refine⟨λj h => ?_,λj h => ?_,λs hs => ?_,λ_=>⟨rfl,rfl,λx a => ?_⟩,λh=>by cases h⟩
 ·simp[nkeys] at h
  obtain rfl:j=0:=by omega
  show ltS (str [98]) (str [97])=false
  decide +kernel
 ·simp[nkeys] at h
  obtain rfl:j=0:=by omega
  show ((str [98]).toList == (str [97]).toList)=false
  decide +kernel
 ·simp[nkeys] at hs
  rcases hs with rfl|rfl<;>decide +kernel
 ·simp only[List.mem_cons,List.not_mem_nil,or_false] at a
  rcases a with rfl|rfl<;>decide +kernel
theorem ndX1_len:(laidB ndX1).length<=512:=by decide +kernel
theorem ndX2_len:(laidB ndX2).length<=512:=by decide +kernel
theorem ndX3_len:(laidB ndX3).length<=512:=by decide +kernel
theorem ndX1_rd:rdNod (pageN ndX1)=some ndX1:=by kernel_rfl
theorem ndX2_rd:rdNod (pageN ndX2)=some ndX2:=by kernel_rfl
theorem ndX3_rd:rdNod (pageN ndX3)=some ndX3:=by kernel_rfl
section
variable {K:PgK}{v v':PgV}
theorem PutP.nod {n:Int}{x:Nod}{c:Nat}(h:PutP K v n x c v')(f:0<=n)(a:RightP x)(hl:(laidB x).length<=512)(d:rdNod (pageN x)=some x):PgNod K v' n x:=by
 have e:v'.view K n.toNat=pageN x:=by
  rw[PgV.view_eq,h.2.2.2.2]
  have:((n.toNat:Nat):Int)=n:=by omega
  simp[this]
 exact⟨by rw[h.2.2.2.2];simp,by rw[e];exact⟨a,hl,rfl⟩,by rw[e];exact d⟩
theorem PutP.sup {n:Int}{x:Nod}{c:Nat}(h:PutP K v n x c v'){l:List Nat}(hs:Sup v.D l)(hn:n.toNat∈l):Sup v'.D l:=by rw[h.2.2.2.2];exact hs.putIn hn _
end
def stT:PgSt:=⟨2,0,0,1::zR 15 0⟩
theorem works13_gives (w:World):Calls Tryz.prog 4 #[] w λe w'=>e = .returned (.bool true)/\Below w.heap.size w w':=by
 have z:planOk 400 40=true:=by decide
 go_enter Tryz.func4,Tryz.ntmps4
 go_wp2_with fail
 refine(begun13_gives w 40 40 40 z rfl (by decide) (by decide) (by decide)).mono ?_
 rintro e U ⟨K,p,v0,rfl,⟨j,M,_,I⟩,f⟩
 have g:=f.ok
 have u:=f.is
 have V:=f.nn
 have A:=f.dd
 have i:Sup v0.D [1]:=by rw[A];exact λp b e=>by cases e
 clear f z A
 go_wp2_with fail
 refine(topen_gives u (MksIs.nil _ _ _ _) (by decide) 0 0 rfl).mono ?_
 rintro e w2 ⟨t,rfl,h2,_⟩
 replace h2:TrAt w K p t 0 v0 st01 st01 true (.slice none 0 0) [] w2:=h2
 clear u
 go_wp2_with (first
  | (go_at_call 7;refine(num13_gives _ _).mono ?_;rintro e N ⟨rfl,rfl⟩)
  | (go_at_call 14;fail))
 have c:((1:Nat):Int)<K.room:=by rw[I];decide
 refine(tput_new h2 g (by decide) (by omega) ⟨by decide,by rw[M];decide⟩ rfl ⟨by decide,by decide⟩ (i.loose c) ((i.putIn (n:=st01.size) (by decide) zeroB).loose c) rfl (str [98]) (str [49]) (by decide) (by decide) ndX1_right ndX1_len).mono ?_
 rintro e w3 ⟨rfl,v1,L,h,d⟩
 replace h:TrAt w K p t 0 v1 stT st01 true L [] w3:=h
 replace d:PutP K v0 1 ndX1 4 v1:=d
 have m:=d.sup i (by decide)
 have B:=d.nod (by decide) ndX1_right ndX1_len ndX1_rd
 have P:=d.1
 clear h2 i d
 go_wp2_with fail
 refine(tput_leaf1 h g (by decide) (by omega) 1 ⟨by decide,by decide⟩ (by rw[j];decide) (m.loose c) rfl ndX1 B rfl (str [97]) (str [50]) (by decide) (by decide) 0 (by decide +kernel) (by decide +kernel) (by decide) (by decide) ndX2_right ndX2_len).mono ?_
 rintro e Z ⟨rfl,v2,O,x,P2⟩
 replace P2:PutP K v1 1 ndX2 6 v2:=P2
 have o:=P2.sup m (by decide)
 have r:=P2.nod (by decide) ndX2_right ndX2_len ndX2_rd
 have T:=P2.1
 clear h m P2 B
 go_wp2_with fail
 refine(tget_is x g (by omega) 1 ⟨by decide,by decide⟩ (by rw[j];decide) (o.loose c) rfl ndX2 r rfl (str [97]) (by decide) 0 (by decide +kernel) (by decide +kernel) (by decide) (by decide) (str [97]) ⟨#[50]⟩ rfl (by decide)).mono ?_
 rintro e w5 ⟨rfl,v3,C,k3⟩
 have q:Sup v3.D [1]:=by rw[k3.dd];exact o
 have s:=r.kept k3
 have Q:=k3.nn
 clear x o r k3
 go_wp2_with fail
 refine(tdelete_leaf C g (by decide) (by omega) 1 ⟨by decide,by decide⟩ (by rw[j];decide) (q.loose c) rfl ndX2 s rfl (str [98]) (by decide) 1 (by decide +kernel) (by decide +kernel) (by decide) (by decide) (by decide) (str [98]) (str [49]) rfl ndX3_right ndX3_len).mono ?_
 rintro e w6 ⟨rfl,v4,S,E,a⟩
 replace a:PutP K v3 1 ndX3 6 v4:=a
 have G:=a.sup q (by decide)
 have F:=a.nod (by decide) ndX3_right ndX3_len ndX3_rd
 have X:=a.1
 clear C q a s
 go_wp2_with fail
 refine(tcheck_leaf E g (by omega) 1 ⟨by decide,by decide⟩ (by rw[j];decide) (G.loose c) rfl ndX3 F rfl (str [97]) (str [50]) rfl).mono ?_
 rintro e w7 ⟨rfl,v5,H,_⟩
 clear E G F
 go_wp2_with (first
  | (go_at_call 7;refine(num13_gives _ _).mono ?_;rintro e N ⟨rfl,rfl⟩))
 go_ret
 exact⟨rfl,H.pa.ca.cs.fh.up⟩
end Go.Proofs.YtpibjkbadnffgaaGreat
namespace Go.Proofs.YtpibjkbadnffgaaGreat
open Go Go.RowKit Lou Go.Shelf
attribute [local go_sem] Oper.semAt_some
@[local go_sem] theorem run_eqFseq (w:World) (f:Fn) (xs ys:Array Value):(binOp .eql 149 (.func f xs ys) .nilFunc).run Tryz.prog w = .ok (.bool false) w:=by
 have h:=run_eqF_nil (P:=Tryz.prog) 9999 149 w f xs ys Tryz.underlying149
 have e:binOp .eql 149 (.func f xs ys) .nilFunc=(do pure (.bool (<-Op.equalIn (9999+1) 149 (.func f xs ys) .nilFunc))):=rfl
 rw[e]
 simp only[Sem.run_bind,h,Result.andThen,Sem.run_pure]
theorem wpIn_rangeFunc_no {F:Fence}{n:Nat}{P:Program}{w:World}{g:Operand}{i:Array Tmp}{body:Code}{Q:Exit->Act->World->Prop}{a:Act}
  (u:F.round=none) (h1:1<=n) {gf:Nat} {lb:Array Value} (E:a.eval g = .func (.func gf) #[] lb) (z:F.fn gf) (G:∀args w,(callFunc gf args).run P w = .ok (.enter gf args) w)
  {f:Unit->Array Value} (C:SeqR F (n - 1) P gf lb f (λ_=>False) (λ_ _ _=>False) (λM=>M=[]) (λ_=>False) w) (o:∀x,(f x).size=i.size)
  (L:∀(D:Nat) (V:World),w.heap.size<=D->Below w.heap.size w V->V.heap[D]? = some (.deferred (some []))->Q .normal { a with defers:={ target:=.collected D,args:=#[] }::a.defers } V) :
  (Code.rangeFunc g i .skip body).wpIn F n P Q a w:=by
 refine wpIn_rangeFunc_R u h1 E z G C (Below.refl _ _) o
  (λd V=>Below w.heap.size w V) (λ_ _ _=>False)
  (λd X Y row h A I=>below_abN (B:=w.heap.size) (zH _) h.size h A I) (λc d X Y row h _ _=>h) (λd x s X Y row h _ _=>h) (Below.refl _ _)
  (λx => { tmps:=(i.zip (f x)).foldl (λt (p,v)=>t.setIfInBounds p v) a.tmps,defers:=[] }) ?_ ?_ ?_ ?_
 ·intro q x V K e
  gi_wp2
  simpa[o x] using e
 ·intro q d x V j H
  exact H.elim
 ·intro D xs V m r j e
  exact L D V m j e
 ·intro D c d V m r h
  exact h.elim
end Go.Proofs.YtpibjkbadnffgaaGreat
namespace Go.Proofs.YtpibjkbadnffgaaGreat
open Go Go.RowKit Lou Go.Shelf
theorem GrU.two {a b c:World}(h:Below a.heap.size a b)(k:Below b.heap.size b c):Below a.heap.size a c:=h.trans (k.mono h.size)
theorem GrU.chain6 {a b c d e f g:World}(h1:Below a.heap.size a b)(h2:Below b.heap.size b c)(i:Below c.heap.size c d)(h:Below d.heap.size d e)(m:Below e.heap.size e f)(j:Below f.heap.size f g):Below a.heap.size a g:=GrU.two (GrU.two (GrU.two (GrU.two (GrU.two h1 h2) i) h) m) j
theorem run_eqFseq13 (w:World)(f:Fn)(xs a:Array Value):(binOp .eql 51 (.func f xs a) .nilFunc).run Tryz.prog w = .ok (.bool false) w:=by
 have h:=run_eqF_nil (P:=Tryz.prog) 9999 51 w f xs a Tryz.underlying51
 have e:binOp .eql 51 (.func f xs a) .nilFunc=(do pure (.bool (<-Op.equalIn (9999+1) 51 (.func f xs a) .nilFunc))):=rfl
 rw[e]
 simp only[Sem.run_bind,h,Result.andThen,Sem.run_pure]
theorem roots01 {i:Nat}(a:i<16):st01.roots[i]? = some 0:=by
 show (zR 16 (0:Int))[i]? = some 0
 rw[List.getElem?_replicate,if_pos a]
section
variable {W0 W W':World}{K:PgK}{p t:Nat}{k:Int}{v v':PgV}{st last:PgSt}{mk:Value}{ms:List MkT}
theorem trat_rolled (h:TrAt W0 K p t k v st last true mk ms W)(a:PaIs W0 K p v' last last false (.slice none 0 0) W')(c:GrowBut (pgMu K p v) W W'):TrAt W0 K p t k v' last last false (.slice none 0 0) [] W' :=
 ⟨a,MksIs.nil _ _ _ _,c.blk h.tb h.notMu⟩
end
attribute [local go_sem] Oper.semAt_some
theorem lawTN_big (m:Nat)(s:8<=m)(w:World)(n:Int)(key val:ByteArray)(h:¬ (key.size<=100/\val.size<=100)) :
  CallsIn Fence.wide m Tryz.prog 3 #[.int .i64 n,.string key,.string val] w λe w'=>e = .returned (.bool true)/\Below w.heap.size w w':=by
 obtain⟨V0,c⟩:∃V0,V0=w.alloc (.cells #[.bool false] 4):=⟨_,rfl⟩
 have f:BlkIs V0 w.heap.size 4 #[.bool false]:=by rw[c];exact BlkIs.new w _ _
 have g:Below w.heap.size w V0:=by rw[c];exact below1 _ _
 have r:1<=m:=by omega
 have i:(100:Int)<(key.size:Int)∨(¬ (100:Int)<(key.size:Int)/\(100:Int)<(val.size:Int)):=by omega
 clear h
 refine callsIn_of_wp_marks Tryz.func3 rfl trivial ?_ rfl
 simp only[Tryz.ntmps3,zT,zP,qE,qO,qP,zX,zY,qD,qA,zV,qB]
 rcases i with h1|⟨h1,h2⟩
 all_goals
  gi_wp2_with (first
   | (refine⟨trivial,?_⟩;gi_at_call 4;rw[<-c];refine(callsIn_wide.2 (works13_gives _)).mono ?_;rintro e q ⟨rfl,d⟩;have a:=f.below d f.lt;have k2:=a.boxed;have u:=a.free 0))
  have j:=a.set 0 (.bool true)
  have o:=(g.trans (d.mono g.size)).setCell (p:=⟨w.heap.size,0,none⟩) (by simp) (.bool true)
  exact⟨.bool true,results_cellQ (p:=⟨w.heap.size,0,none⟩) 6 rfl rfl (by simp[go_sem]) j.boxed,rfl,o⟩
end Go.Proofs.YtpibjkbadnffgaaGreat
namespace Go.Proofs.YtpibjkbadnffgaaGreat
open Go Go.RowKit Lou Go.Shelf
attribute [local go_sem] run_eqFseq13 Oper.semAt_some
theorem lawTN_in1 (m:Nat)(hm:10<=m)(w:World)(c:Int)(key val:ByteArray)(hk:key.size<=100)(hv:val.size<=100)(hr:0<=c/\c<16)(aS:¬ Int.tmod c 2=1) :
  CallsIn Fence.wide m Tryz.prog 3 #[.int .i64 c,.string key,.string val] w λe w'=>e = .returned (.bool true)/\Below w.heap.size w w':=by
 obtain⟨V0,U⟩:∃V0,V0=w.alloc (.cells #[.bool false] 4):=⟨_,rfl⟩
 have Q:BlkIs V0 w.heap.size 4 #[.bool false]:=by rw[U];exact BlkIs.new w _ _
 have f:Below w.heap.size w V0:=by rw[U];exact below1 _ _
 have bH:1<=m:=by omega
 have bL:¬ (100:Int)<(key.size:Int):=by omega
 have bM:¬ (100:Int)<(val.size:Int):=by omega
 have aO:val.size<=4000:=by omega
 have aY:∀W,Calls Tryz.prog 5 #[.int .i64 40,.int .i64 40] W λe w'=>∃K p v,e = .returned (.tuple #[.pointer (some ⟨p,0,none⟩),.bool true])/\(K.P=40/\K.pg=40/\K.fr=400/\K.room=40)/\NewP W K p v w':=λW=>begun13_gives W 40 40 40 (by decide) rfl (by decide) (by decide) (by decide)
 have aV:∀K p v W,PaIs V0 K p v st01 st01 true (.slice none 0 0) W->Calls Tryz.prog 6 #[.pointer (some ⟨p,0,none⟩),.int .i64 c] W λe w'=>∃t,e = .returned (.tuple #[.pointer (some ⟨t,0,none⟩),.int .i64 0])/\TrAt V0 K p t c v st01 st01 true (.slice none 0 0) [] w'/\Below W.heap.size W w':=λK p v W hp=>by
  obtain⟨i,rfl⟩:∃i:Nat,c=(i:Int):=⟨c.toNat,by omega⟩
  exact topen_gives hp (MksIs.nil _ _ _ _) (by decide) i 0 (roots01 (by omega))
 have bD:=hr.1
 have bI:=hr.2
 have bG:¬ c % 2=1:=by
  have h1:=aS
  rw[Int.tmod_eq_emod_of_nonneg (by omega)] at h1
  exact h1
 have HV:=Lib.hid aO
 clear hk hv aO hr
 refine callsIn_of_wp_marks Tryz.func3 rfl trivial ?_ rfl
 simp only[Tryz.ntmps3,zT,zP,qE,qO,qP,zX,zY,qD,qA,zV,qB]
 gi_wp2_with (first
  | (refine⟨trivial,?_⟩;gi_at_call 5;rw[<-U];refine(callsIn_wide.2 (aY _)).mono ?_;rintro e W1 ⟨K,p,v0,rfl,a6,aT⟩)
  | (refine⟨trivial,?_⟩;gi_at_call 6;fail))
 have O:=aT.is
 have aA:=O.ca.cs.fh.up
 refine⟨trivial,(callsIn_wide.2 (aV _ _ _ _ O)).mono ?_⟩
 rintro e W5 ⟨t,rfl,h5,a1⟩
 have s:Below V0.heap.size V0 W5:=aA.trans (a1.mono aA.size)
 have B5:=Q.below s Q.lt
 clear aV aY aT O aA a6 Q
 gi_wp2_with (first
  | (refine⟨trivial,?_⟩;gi_at_call 7;refine(callsIn_wide.2 (num13_gives _ _)).mono ?_;rintro e W' ⟨rfl,rfl⟩)
  | (refine⟨trivial,?_⟩;fail_if_success (refine callsIn_wide.2 ?_)))
 obtain⟨W6,aL⟩:∃W6,W6=W5:=⟨_,rfl⟩
 have z:Below W5.heap.size W5 W6:=by rw[aL];exact Below.refl _ _
 obtain⟨T,N⟩:∃T:Option Addr,T=none:=⟨_,rfl⟩
 have hN:NoneT W6 T:=.inl N
 rw[<-aL,<-N]
 have X:=B5.below z B5.lt
 have aG:Below w.heap.size w W6:=(f.trans (s.mono f.size)).trans (z.mono (by have:=f.size;have:=s.size;omega))
 have h6:=h5.grow z
 clear h5 a1
 clear aL N B5 s z bD aS bI bG
 gi_wp2_with (first
  | (refine⟨trivial,?_⟩;gi_at_call 8;refine(callsIn_wide.2 (nGet_gives hN key)).mono ?_;rintro e U1 ⟨rfl,aJ⟩;have N1:=hN.grow aJ)
  | (refine⟨trivial,?_⟩;gi_at_call 9;refine(callsIn_wide.2 (nDelete_gives N1 key)).mono ?_;rintro e U2 ⟨rfl,F⟩;have N2:=N1.grow F)
  | (refine⟨trivial,?_⟩;gi_at_call 10;refine(callsIn_wide.2 (nCheck_gives N2)).mono ?_;rintro e U3 ⟨rfl,aK⟩;have I:=N2.grow aK)
  | (refine⟨trivial,?_⟩;gi_at_call 11;refine(callsIn_wide.2 (nNode_gives I 1)).mono ?_;rintro e U4 ⟨rfl,aD⟩;have L:=I.grow aD)
  | (refine⟨trivial,?_⟩;gi_at_call 12;refine(callsIn_wide.2 (nValue_gives (L.grow (below1 _ _)) _ _ _ _)).mono ?_;rintro e U5 ⟨rfl,a3⟩;have aI:=GrU.two (below1 U4 _) a3;have N5:=L.grow aI)
  | (refine⟨trivial,?_⟩;gi_at_call 6;refine(callsIn_wide.2 (topen_nil _ c)).mono ?_;rintro e u ⟨rfl,rfl⟩)
  | (refine⟨trivial,?_⟩;gi_at_call 13;refine(callsIn_wide.2 nAll_gives).mono ?_;rintro e u ⟨q,rfl,hq,aH⟩;have N6:=N5.grow aH)
  | (refine⟨trivial,?_⟩;fail_if_success (refine callsIn_wide.2 ?_)))
 have B:=GrU.chain6 aJ F aK aD aI aH
 have A:=X.below B X.lt
 have G:=aG.trans (B.mono aG.size)
 have h7:=h6.grow B
 clear h6 B
 clear aJ F aK aD a3 aI aH N1 N2 I L N5 X aG hN
 refine wpI_stopB (λa0 a V=>∃D,a = { a0 with defers:={ target:=.collected D,args:=#[] }::a0.defers }/\V.heap[D]? = some (.deferred (some []))/\u.heap.size<=D/\Below u.heap.size u V) ?_ ?_
 ·intro Q' hQ
  exact wpIn_rangeFunc_no rfl bH (gf:=46) (lb:=#[.pointer (some ⟨q,0,none⟩)]) rfl trivial (enters_of Tryz.func46 (by kernel_rfl) rfl)
   (all1N_seq (m - 1) (by omega) q hq N6) (λ_=>rfl) (λD V hD hB h=>hQ _ _ ⟨D,rfl,h,hD,hB⟩)
 rintro a V ⟨D,rfl,h,hD,n⟩
 have S:=A.below n A.lt
 have M:=N6.grow n
 have bF:=G.trans (n.mono G.size)
 have hV:=h7.grow n
 clear h7
 gi_wp2_with (first
  | (refine⟨trivial,?_⟩;gi_at_call 7;refine(callsIn_wide.2 (num13_gives _ _)).mono ?_;rintro e W' ⟨rfl,rfl⟩)
  | (refine⟨trivial,?_⟩;gi_at_call 14;refine(callsIn_wide.2 (nPut_gives M key val)).mono ?_;rintro e aQ ⟨rfl,o⟩;have r:=M.grow o)
  | (refine⟨trivial,?_⟩;gi_at_call 15;refine(callsIn_wide.2 (nClear_gives r)).mono ?_;rintro e W' ⟨rfl,rfl⟩)
  | (refine⟨trivial,?_⟩;gi_at_call 16;refine(callsIn_wide.2 (nPager_gives r)).mono ?_;rintro e W' ⟨rfl,rfl⟩)
  | (refine⟨trivial,?_⟩;gi_at_call 17;refine(callsIn_wide.2 (nRoot_gives r)).mono ?_;rintro e W' ⟨rfl,rfl⟩)
  | (refine⟨trivial,?_⟩;fail_if_success (refine callsIn_wide.2 ?_)))
 have d:=hV.grow o
 have H:=S.below o S.lt
 have j:aQ.heap[D]? = some (.deferred (some [])):=(Below.block o D (zI.1 h).1).trans h
 have aN:=d.notB H (by unfold Boxy;decide)
 have a2:¬ pgMu K p v0 D:=λe=>by
  rcases e with e|e
  ·have hb:aQ.heap[p]? = some (.cells _ _ (0,0)):=d.pa.pb
   rw[<-e,j] at hb
   cases hb
  ·exact d.pa.ca.cs.ca.notDfL j e
 clear hV S h o r M N6 bF n
 refine⟨trivial,(callsIn_wide.2 (prollback_gives d.pa)).mono ?_⟩
 rintro e U12 ⟨v',rfl,aM,_,_,_,_,_,_,E⟩
 have aB:=trat_rolled d aM E
 have aR:=E.blk H aN
 have a5:U12.heap[D]? = some (.deferred (some [])):=(E.block D (zI.1 j).1 a2).trans j
 have a4:Below w.heap.size w U12:=f.trans (aB.pa.ca.cs.fh.up.mono f.size)
 have bJ:w.heap.size<D:=by have:=A.lt;omega
 clear d H j aN a2 aM E f G A hD hq
 rcases Nat.lt_or_ge 81 key.size with C|C
 all_goals
  have aF:=idelete_gives aB key
  have aC:∀W,TrAt V0 K p t c v' st01 st01 false (.slice none 0 0) [] W->_:=λW hW=>iput_gives hW key val HV.out
  first
   | (have a7:¬ (81:Int)<(key.size:Int):=by omega
      simp only[if_neg (Nat.not_lt.2 C)] at aF aC)
   | (have a7:(81:Int)<(key.size:Int):=by omega
      simp only[if_pos C] at aF aC)
  clear C
  gi_wp2_with (first
   | (refine⟨trivial,?_⟩;gi_at_call 7;refine(callsIn_wide.2 (num13_gives _ _)).mono ?_;rintro e W' ⟨rfl,rfl⟩)
   | (refine⟨trivial,?_⟩;gi_at_call 9;refine(callsIn_wide.2 aF).mono ?_;rintro e bO ⟨rfl,aW⟩;have aZ:=aB.grow aW)
   | (refine⟨trivial,?_⟩;gi_at_call 14;refine(callsIn_wide.2 (aC _ aZ)).mono ?_;rintro e bN ⟨rfl,aX⟩;have a8:=aZ.grow aX)
   | (refine⟨trivial,?_⟩;gi_at_call 15;refine(callsIn_wide.2 (iclear_gives a8)).mono ?_;rintro e bK ⟨rfl,bE⟩)
   | (refine⟨trivial,?_⟩;gi_at_call 4;refine(callsIn_wide.2 (works13_gives _)).mono ?_;rintro e x ⟨rfl,bA⟩;have aE:=GrU.two (GrU.two (GrU.two aW aX) bE) bA;have BZ:=aR.below aE aR.lt;have kZ:=BZ.boxed;have fZ:=BZ.free 0))
  have aU:x.heap[D]? = some (.deferred (some [])):=(Below.block aE D (zI.1 a5).1).trans a5
  have a9:=BZ.set 0 (.bool true)
  have bB:Below w.heap.size w (x.setCell ⟨w.heap.size,0,none⟩ (.bool true)):=(a4.trans (aE.mono a4.size)).setCell (p:=⟨w.heap.size,0,none⟩) (by simp) _
  have aP:=(Below.heap_setCell x ⟨w.heap.size,0,none⟩ (.bool true) D (by simp;omega)).trans aU
  clear kZ fZ aU
  generalize x.setCell ⟨w.heap.size,0,none⟩ (.bool true)=Z at *
  refine⟨by simp,.inl ⟨D,_,rfl,run_takeDeferred aP,?_⟩⟩
  have bC:BlkIs (Z.putObj D (.deferred none)) w.heap.size 4 #[.bool true]:=(putObj_oth Z D (.deferred none) (g:=w.heap.size) (by omega)).trans a9
  exact⟨.bool true,results_cellQ (p:=⟨w.heap.size,0,none⟩) 6 rfl rfl (by simp[go_sem]) bC.boxed,rfl,bB.trans (belowK_b (w:=w) (zH _) Z D _ _ (by omega) aP rfl rfl)⟩
end Go.Proofs.YtpibjkbadnffgaaGreat
namespace Go.Proofs.YtpibjkbadnffgaaGreat
open Go Go.RowKit Lou Go.Shelf
attribute [local go_sem] run_eqFseq13 Oper.semAt_some
theorem lawTN_in2 (m:Nat)(hm:10<=m)(w:World)(c:Int)(key val:ByteArray)(hk:key.size<=100)(hv:val.size<=100)(hr:0<=c/\c<16)(aR:Int.tmod c 2=1) :
  CallsIn Fence.wide m Tryz.prog 3 #[.int .i64 c,.string key,.string val] w λe w'=>e = .returned (.bool true)/\Below w.heap.size w w':=by
 obtain⟨V0,X⟩:∃V0,V0=w.alloc (.cells #[.bool false] 4):=⟨_,rfl⟩
 have S:BlkIs V0 w.heap.size 4 #[.bool false]:=by rw[X];exact BlkIs.new w _ _
 have f:Below w.heap.size w V0:=by rw[X];exact below1 _ _
 have bG:1<=m:=by omega
 have bK:¬ (100:Int)<(key.size:Int):=by omega
 have bL:¬ (100:Int)<(val.size:Int):=by omega
 have aN:val.size<=4000:=by omega
 have aX:∀W,Calls Tryz.prog 5 #[.int .i64 40,.int .i64 40] W λe w'=>∃K p v,e = .returned (.tuple #[.pointer (some ⟨p,0,none⟩),.bool true])/\(K.P=40/\K.pg=40/\K.fr=400/\K.room=40)/\NewP W K p v w':=λW=>begun13_gives W 40 40 40 (by decide) rfl (by decide) (by decide) (by decide)
 have aU:∀K p v W,PaIs V0 K p v st01 st01 true (.slice none 0 0) W->Calls Tryz.prog 6 #[.pointer (some ⟨p,0,none⟩),.int .i64 c] W λe w'=>∃t,e = .returned (.tuple #[.pointer (some ⟨t,0,none⟩),.int .i64 0])/\TrAt V0 K p t c v st01 st01 true (.slice none 0 0) [] w'/\Below W.heap.size W w':=λK p v W hp=>by
  obtain⟨i,rfl⟩:∃i:Nat,c=(i:Int):=⟨c.toNat,by omega⟩
  exact topen_gives hp (MksIs.nil _ _ _ _) (by decide) i 0 (roots01 (by omega))
 have bC:=hr.1
 have bH:=hr.2
 have bF:c % 2=1:=by
  have h1:=aR
  rw[Int.tmod_eq_emod_of_nonneg (by omega)] at h1
  exact h1
 have HV:=Lib.hid aN
 clear hk hv aN hr
 refine callsIn_of_wp_marks Tryz.func3 rfl trivial ?_ rfl
 simp only[Tryz.ntmps3,zT,zP,qE,qO,qP,zX,zY,qD,qA,zV,qB]
 gi_wp2_with (first
  | (refine⟨trivial,?_⟩;gi_at_call 5;rw[<-X];refine(callsIn_wide.2 (aX _)).mono ?_;rintro e W1 ⟨K,p,v0,rfl,a5,aS⟩)
  | (refine⟨trivial,?_⟩;gi_at_call 6;fail))
 have Q:=aS.is
 have aA:=Q.ca.cs.fh.up
 refine⟨trivial,(callsIn_wide.2 (aU _ _ _ _ Q)).mono ?_⟩
 rintro e W5 ⟨t,rfl,h5,aZ⟩
 have s:Below V0.heap.size V0 W5:=aA.trans (aZ.mono aA.size)
 have B5:=S.below s S.lt
 clear aU aX aS Q aA a5 S
 gi_wp2_with (first
  | (refine⟨trivial,?_⟩;gi_at_call 7;refine(callsIn_wide.2 (num13_gives _ _)).mono ?_;rintro e W' ⟨rfl,rfl⟩)
  | (refine⟨trivial,?_⟩;fail_if_success (refine callsIn_wide.2 ?_)))
 obtain⟨W6,A⟩:∃W6,W6=W5.alloc (.cells #[.pointer none,.int .i64 0] 32):=⟨_,rfl⟩
 have z:Below W5.heap.size W5 W6:=by rw[A];exact below1 _ _
 obtain⟨T,O⟩:∃T:Option Addr,T=some ⟨W5.heap.size,0,none⟩:=⟨_,rfl⟩
 have hN:NoneT W6 T:=.inr ⟨_,O,by rw[A,(BlkIs.new W5 _ _).cell];rfl⟩
 rw[<-A,<-O]
 have B6:=B5.below z B5.lt
 have aG:Below w.heap.size w W6:=(f.trans (s.mono f.size)).trans (z.mono (by have:=f.size;have:=s.size;omega))
 have h6:=h5.grow z
 clear h5 aZ
 clear A O B5 s z bC aR bH bF
 gi_wp2_with (first
  | (refine⟨trivial,?_⟩;gi_at_call 8;refine(callsIn_wide.2 (nGet_gives hN key)).mono ?_;rintro e U1 ⟨rfl,aJ⟩;have N1:=hN.grow aJ)
  | (refine⟨trivial,?_⟩;gi_at_call 9;refine(callsIn_wide.2 (nDelete_gives N1 key)).mono ?_;rintro e U2 ⟨rfl,G⟩;have N2:=N1.grow G)
  | (refine⟨trivial,?_⟩;gi_at_call 10;refine(callsIn_wide.2 (nCheck_gives N2)).mono ?_;rintro e U3 ⟨rfl,aK⟩;have L:=N2.grow aK)
  | (refine⟨trivial,?_⟩;gi_at_call 11;refine(callsIn_wide.2 (nNode_gives L 1)).mono ?_;rintro e U4 ⟨rfl,aD⟩;have M:=L.grow aD)
  | (refine⟨trivial,?_⟩;gi_at_call 12;refine(callsIn_wide.2 (nValue_gives (M.grow (below1 _ _)) _ _ _ _)).mono ?_;rintro e U5 ⟨rfl,a2⟩;have aI:=GrU.two (below1 U4 _) a2;have N5:=M.grow aI)
  | (refine⟨trivial,?_⟩;gi_at_call 6;refine(callsIn_wide.2 (topen_nil _ c)).mono ?_;rintro e u ⟨rfl,rfl⟩)
  | (refine⟨trivial,?_⟩;gi_at_call 13;refine(callsIn_wide.2 nAll_gives).mono ?_;rintro e u ⟨q,rfl,hq,aH⟩;have N6:=N5.grow aH)
  | (refine⟨trivial,?_⟩;fail_if_success (refine callsIn_wide.2 ?_)))
 have C:=GrU.chain6 aJ G aK aD aI aH
 have B:=B6.below C B6.lt
 have H:=aG.trans (C.mono aG.size)
 have h7:=h6.grow C
 clear h6 C
 clear aJ G aK aD a2 aI aH N1 N2 L M N5 B6 aG hN
 refine wpI_stopB (λa0 a V=>∃D,a = { a0 with defers:={ target:=.collected D,args:=#[] }::a0.defers }/\V.heap[D]? = some (.deferred (some []))/\u.heap.size<=D/\Below u.heap.size u V) ?_ ?_
 ·intro Q' hQ
  exact wpIn_rangeFunc_no rfl bG (gf:=46) (lb:=#[.pointer (some ⟨q,0,none⟩)]) rfl trivial (enters_of Tryz.func46 (by kernel_rfl) rfl)
   (all1N_seq (m - 1) (by omega) q hq N6) (λ_=>rfl) (λD V hD hB h=>hQ _ _ ⟨D,rfl,h,hD,hB⟩)
 rintro a V ⟨D,rfl,h,hD,n⟩
 have U:=B.below n B.lt
 have N:=N6.grow n
 have bE:=H.trans (n.mono H.size)
 have hV:=h7.grow n
 clear h7
 gi_wp2_with (first
  | (refine⟨trivial,?_⟩;gi_at_call 7;refine(callsIn_wide.2 (num13_gives _ _)).mono ?_;rintro e W' ⟨rfl,rfl⟩)
  | (refine⟨trivial,?_⟩;gi_at_call 14;refine(callsIn_wide.2 (nPut_gives N key val)).mono ?_;rintro e aP ⟨rfl,o⟩;have r:=N.grow o)
  | (refine⟨trivial,?_⟩;gi_at_call 15;refine(callsIn_wide.2 (nClear_gives r)).mono ?_;rintro e W' ⟨rfl,rfl⟩)
  | (refine⟨trivial,?_⟩;gi_at_call 16;refine(callsIn_wide.2 (nPager_gives r)).mono ?_;rintro e W' ⟨rfl,rfl⟩)
  | (refine⟨trivial,?_⟩;gi_at_call 17;refine(callsIn_wide.2 (nRoot_gives r)).mono ?_;rintro e W' ⟨rfl,rfl⟩)
  | (refine⟨trivial,?_⟩;fail_if_success (refine callsIn_wide.2 ?_)))
 have d:=hV.grow o
 have I:=U.below o U.lt
 have j:aP.heap[D]? = some (.deferred (some [])):=(Below.block o D (zI.1 h).1).trans h
 have aM:=d.notB I (by unfold Boxy;decide)
 have a1:¬ pgMu K p v0 D:=λe=>by
  rcases e with e|e
  ·have hb:aP.heap[p]? = some (.cells _ _ (0,0)):=d.pa.pb
   rw[<-e,j] at hb
   cases hb
  ·exact d.pa.ca.cs.ca.notDfL j e
 clear hV U h o r N N6 bE n
 refine⟨trivial,(callsIn_wide.2 (prollback_gives d.pa)).mono ?_⟩
 rintro e U12 ⟨v',rfl,aL,_,_,_,_,_,_,F⟩
 have aB:=trat_rolled d aL F
 have aQ:=F.blk I aM
 have a4:U12.heap[D]? = some (.deferred (some [])):=(F.block D (zI.1 j).1 a1).trans j
 have a3:Below w.heap.size w U12:=f.trans (aB.pa.ca.cs.fh.up.mono f.size)
 have bI:w.heap.size<D:=by have:=B.lt;omega
 clear d I j aM a1 aL F f H B hD hq
 rcases Nat.lt_or_ge 81 key.size with E|E
 all_goals
  have aF:=idelete_gives aB key
  have aC:∀W,TrAt V0 K p t c v' st01 st01 false (.slice none 0 0) [] W->_:=λW hW=>iput_gives hW key val HV.out
  first
   | (have a6:¬ (81:Int)<(key.size:Int):=by omega
      simp only[if_neg (Nat.not_lt.2 E)] at aF aC)
   | (have a6:(81:Int)<(key.size:Int):=by omega
      simp only[if_pos E] at aF aC)
  clear E
  gi_wp2_with (first
   | (refine⟨trivial,?_⟩;gi_at_call 7;refine(callsIn_wide.2 (num13_gives _ _)).mono ?_;rintro e W' ⟨rfl,rfl⟩)
   | (refine⟨trivial,?_⟩;gi_at_call 9;refine(callsIn_wide.2 aF).mono ?_;rintro e bN ⟨rfl,aV⟩;have aY:=aB.grow aV)
   | (refine⟨trivial,?_⟩;gi_at_call 14;refine(callsIn_wide.2 (aC _ aY)).mono ?_;rintro e bM ⟨rfl,aW⟩;have a7:=aY.grow aW)
   | (refine⟨trivial,?_⟩;gi_at_call 15;refine(callsIn_wide.2 (iclear_gives a7)).mono ?_;rintro e bJ ⟨rfl,bD⟩)
   | (refine⟨trivial,?_⟩;gi_at_call 4;refine(callsIn_wide.2 (works13_gives _)).mono ?_;rintro e x ⟨rfl,a9⟩;have aE:=GrU.two (GrU.two (GrU.two aV aW) bD) a9;have BZ:=aQ.below aE aQ.lt;have kZ:=BZ.boxed;have fZ:=BZ.free 0))
  have aT:x.heap[D]? = some (.deferred (some [])):=(Below.block aE D (zI.1 a4).1).trans a4
  have a8:=BZ.set 0 (.bool true)
  have bA:Below w.heap.size w (x.setCell ⟨w.heap.size,0,none⟩ (.bool true)):=(a3.trans (aE.mono a3.size)).setCell (p:=⟨w.heap.size,0,none⟩) (by simp) _
  have aO:=(Below.heap_setCell x ⟨w.heap.size,0,none⟩ (.bool true) D (by simp;omega)).trans aT
  clear kZ fZ aT
  generalize x.setCell ⟨w.heap.size,0,none⟩ (.bool true)=Z at *
  refine⟨by simp,.inl ⟨D,_,rfl,run_takeDeferred aO,?_⟩⟩
  have bB:BlkIs (Z.putObj D (.deferred none)) w.heap.size 4 #[.bool true]:=(putObj_oth Z D (.deferred none) (g:=w.heap.size) (by omega)).trans a8
  exact⟨.bool true,results_cellQ (p:=⟨w.heap.size,0,none⟩) 6 rfl rfl (by simp[go_sem]) bB.boxed,rfl,bA.trans (belowK_b (w:=w) (zH _) Z D _ _ (by omega) aO rfl rfl)⟩
end Go.Proofs.YtpibjkbadnffgaaGreat
namespace Go.Proofs.YtpibjkbadnffgaaGreat
open Go Go.RowKit Lou Go.Shelf
attribute [local go_sem] run_eqFseq13 Oper.semAt_some
theorem lawTN_in3 (m:Nat)(hm:10<=m)(w:World)(root:Int)(key val:ByteArray)(hk:key.size<=100)(hv:val.size<=100)(hr:16<=root)(aE:¬ Int.tmod root 2=1) :
  CallsIn Fence.wide m Tryz.prog 3 #[.int .i64 root,.string key,.string val] w λe w'=>e = .returned (.bool true)/\Below w.heap.size w w':=by
 obtain⟨V0,x⟩:∃V0,V0=w.alloc (.cells #[.bool false] 4):=⟨_,rfl⟩
 have u:BlkIs V0 w.heap.size 4 #[.bool false]:=by rw[x];exact BlkIs.new w _ _
 have B:Below w.heap.size w V0:=by rw[x];exact below1 _ _
 have aT:1<=m:=by omega
 have aW:¬ (100:Int)<(key.size:Int):=by omega
 have aY:¬ (100:Int)<(val.size:Int):=by omega
 have aA:val.size<=4000:=by omega
 have aI:∀W,Calls Tryz.prog 5 #[.int .i64 40,.int .i64 40] W λe w'=>∃K p v,e = .returned (.tuple #[.pointer (some ⟨p,0,none⟩),.bool true])/\(K.P=40/\K.pg=40/\K.fr=400/\K.room=40)/\NewP W K p v w':=λW=>begun13_gives W 40 40 40 (by decide) rfl (by decide) (by decide) (by decide)
 have aH:∀K p v W,PaIs V0 K p v st01 st01 true (.slice none 0 0) W->Calls Tryz.prog 6 #[.pointer (some ⟨p,0,none⟩),.int .i64 root] W λe w'=>e = .returned (.tuple #[.pointer none,.int .i64 2])/\W=w':=λK p v W hp=>topen_out hp (by decide) root (by omega)
 have aR:0<=root:=by omega
 have aU:¬ root<16:=by omega
 have aS:¬ root % 2=1:=by
  have h1:=aE
  rw[Int.tmod_eq_emod_of_nonneg (by omega)] at h1
  exact h1
 have HV:=Lib.hid aA
 clear hk hv aA hr
 refine callsIn_of_wp_marks Tryz.func3 rfl trivial ?_ rfl
 simp only[Tryz.ntmps3,zT,zP,qE,qO,qP,zX,zY,qD,qA,zV,qB]
 gi_wp2_with (first
  | (refine⟨trivial,?_⟩;gi_at_call 5;rw[<-x];refine(callsIn_wide.2 (aI _)).mono ?_;rintro e W5 ⟨K,p,v0,rfl,aM,aF⟩)
  | (refine⟨trivial,?_⟩;gi_at_call 6;fail))
 have s:=aF.is
 have aD:=s.ca.cs.fh.up
 refine⟨trivial,(callsIn_wide.2 (aH _ _ _ _ s)).mono ?_⟩
 rintro e Wz ⟨rfl,rfl⟩
 have d:=aD
 have A:=u.below d u.lt
 clear aH aI aF s aD aM u
 gi_wp2_with (first
  | (refine⟨trivial,?_⟩;gi_at_call 7;refine(callsIn_wide.2 (num13_gives _ _)).mono ?_;rintro e W' ⟨rfl,rfl⟩)
  | (refine⟨trivial,?_⟩;fail_if_success (refine callsIn_wide.2 ?_)))
 obtain⟨W6,Q⟩:∃W6,W6=W5:=⟨_,rfl⟩
 have M:Below W5.heap.size W5 W6:=by rw[Q];exact Below.refl _ _
 obtain⟨T,r⟩:∃T:Option Addr,T=none:=⟨_,rfl⟩
 have hN:NoneT W6 T:=.inl r
 rw[<-Q,<-r]
 have z:=A.below M A.lt
 have H:Below w.heap.size w W6:=(B.trans (d.mono B.size)).trans (M.mono (by have:=B.size;have:=d.size;omega))
 clear Q r A d M aR aE aU aS
 gi_wp2_with (first
  | (refine⟨trivial,?_⟩;gi_at_call 8;refine(callsIn_wide.2 (nGet_gives hN key)).mono ?_;rintro e U1 ⟨rfl,N⟩;have E:=hN.grow N)
  | (refine⟨trivial,?_⟩;gi_at_call 9;refine(callsIn_wide.2 (nDelete_gives E key)).mono ?_;rintro e U2 ⟨rfl,i⟩;have N2:=E.grow i)
  | (refine⟨trivial,?_⟩;gi_at_call 10;refine(callsIn_wide.2 (nCheck_gives N2)).mono ?_;rintro e U3 ⟨rfl,O⟩;have n:=N2.grow O)
  | (refine⟨trivial,?_⟩;gi_at_call 11;refine(callsIn_wide.2 (nNode_gives n 1)).mono ?_;rintro e U4 ⟨rfl,C⟩;have o:=n.grow C)
  | (refine⟨trivial,?_⟩;gi_at_call 12;refine(callsIn_wide.2 (nValue_gives (o.grow (below1 _ _)) _ _ _ _)).mono ?_;rintro e U5 ⟨rfl,aJ⟩;have L:=GrU.two (below1 U4 _) aJ;have N5:=o.grow L)
  | (refine⟨trivial,?_⟩;gi_at_call 6;refine(callsIn_wide.2 (topen_nil _ root)).mono ?_;rintro e f ⟨rfl,rfl⟩)
  | (refine⟨trivial,?_⟩;gi_at_call 13;refine(callsIn_wide.2 nAll_gives).mono ?_;rintro e f ⟨q,rfl,hq,I⟩;have N6:=N5.grow I)
  | (refine⟨trivial,?_⟩;fail_if_success (refine callsIn_wide.2 ?_)))
 have U:=GrU.chain6 N i O C L I
 have S:=z.below U z.lt
 have aB:=H.trans (U.mono H.size)
 clear U
 clear N i O C aJ L I E N2 n o N5 z H hN
 refine wpI_stopB (λa0 a V=>∃D,a = { a0 with defers:={ target:=.collected D,args:=#[] }::a0.defers }/\V.heap[D]? = some (.deferred (some []))/\f.heap.size<=D/\Below f.heap.size f V) ?_ ?_
 ·intro Q' hQ
  exact wpIn_rangeFunc_no rfl aT (gf:=46) (lb:=#[.pointer (some ⟨q,0,none⟩)]) rfl trivial (enters_of Tryz.func46 (by kernel_rfl) rfl)
   (all1N_seq (m - 1) (by omega) q hq N6) (λ_=>rfl) (λD V hD hB c=>hQ _ _ ⟨D,rfl,c,hD,hB⟩)
 rintro a V ⟨D,rfl,c,hD,X⟩
 have BV:=S.below X S.lt
 have NV:=N6.grow X
 have aK:=aB.trans (X.mono aB.size)
 gi_wp2_with (first
  | (refine⟨trivial,?_⟩;gi_at_call 7;refine(callsIn_wide.2 (num13_gives _ _)).mono ?_;rintro e W' ⟨rfl,rfl⟩)
  | (refine⟨trivial,?_⟩;gi_at_call 14;refine(callsIn_wide.2 (nPut_gives NV key val)).mono ?_;rintro e aX ⟨rfl,aL⟩;have j:=NV.grow aL)
  | (refine⟨trivial,?_⟩;gi_at_call 15;refine(callsIn_wide.2 (nClear_gives j)).mono ?_;rintro e W' ⟨rfl,rfl⟩)
  | (refine⟨trivial,?_⟩;gi_at_call 16;refine(callsIn_wide.2 (nPager_gives j)).mono ?_;rintro e W' ⟨rfl,rfl⟩)
  | (refine⟨trivial,?_⟩;gi_at_call 17;refine(callsIn_wide.2 (nRoot_gives j)).mono ?_;rintro e W' ⟨rfl,rfl⟩)
  | (refine⟨trivial,?_⟩;gi_at_call 4;refine(callsIn_wide.2 (works13_gives _)).mono ?_;rintro e h ⟨rfl,aO⟩;have F:=GrU.two aL aO;have G:=BV.below F BV.lt;have kZ:=G.boxed;have fZ:=G.free 0))
 have aG:h.heap[D]? = some (.deferred (some [])):=(Below.block F D (zI.1 c).1).trans c
 have aN:=G.set 0 (.bool true)
 have aP:Below w.heap.size w (h.setCell ⟨w.heap.size,0,none⟩ (.bool true)):=(aK.trans (F.mono aK.size)).setCell (p:=⟨w.heap.size,0,none⟩) (by simp) _
 have aV:w.heap.size<D:=by have:=S.lt;omega
 have aC:=(Below.heap_setCell h ⟨w.heap.size,0,none⟩ (.bool true) D (by simp;omega)).trans aG
 clear kZ fZ aG c
 generalize h.setCell ⟨w.heap.size,0,none⟩ (.bool true)=Z at *
 refine⟨by simp,.inl ⟨D,_,rfl,run_takeDeferred aC,?_⟩⟩
 have aQ:BlkIs (Z.putObj D (.deferred none)) w.heap.size 4 #[.bool true]:=(putObj_oth Z D (.deferred none) (g:=w.heap.size) (by omega)).trans aN
 exact⟨.bool true,results_cellQ (p:=⟨w.heap.size,0,none⟩) 6 rfl rfl (by simp[go_sem]) aQ.boxed,rfl,aP.trans (belowK_b (w:=w) (zH _) Z D _ _ (by omega) aC rfl rfl)⟩
end Go.Proofs.YtpibjkbadnffgaaGreat
namespace Go.Proofs.YtpibjkbadnffgaaGreat
open Go Go.RowKit Lou Go.Shelf
attribute [local go_sem] run_eqFseq13 Oper.semAt_some
theorem lawTN_in4 (m:Nat)(hm:10<=m)(w:World)(root:Int)(key val:ByteArray)(hk:key.size<=100)(hv:val.size<=100)(hr:16<=root)(aF:Int.tmod root 2=1) :
  CallsIn Fence.wide m Tryz.prog 3 #[.int .i64 root,.string key,.string val] w λe w'=>e = .returned (.bool true)/\Below w.heap.size w w':=by
 obtain⟨V0,A⟩:∃V0,V0=w.alloc (.cells #[.bool false] 4):=⟨_,rfl⟩
 have z:BlkIs V0 w.heap.size 4 #[.bool false]:=by rw[A];exact BlkIs.new w _ _
 have E:Below w.heap.size w V0:=by rw[A];exact below1 _ _
 have aU:1<=m:=by omega
 have aX:¬ (100:Int)<(key.size:Int):=by omega
 have aZ:¬ (100:Int)<(val.size:Int):=by omega
 have aB:val.size<=4000:=by omega
 have aJ:∀W,Calls Tryz.prog 5 #[.int .i64 40,.int .i64 40] W λe w'=>∃K p v,e = .returned (.tuple #[.pointer (some ⟨p,0,none⟩),.bool true])/\(K.P=40/\K.pg=40/\K.fr=400/\K.room=40)/\NewP W K p v w':=λW=>begun13_gives W 40 40 40 (by decide) rfl (by decide) (by decide) (by decide)
 have aI:∀K p v W,PaIs V0 K p v st01 st01 true (.slice none 0 0) W->Calls Tryz.prog 6 #[.pointer (some ⟨p,0,none⟩),.int .i64 root] W λe w'=>e = .returned (.tuple #[.pointer none,.int .i64 2])/\W=w':=λK p v W hp=>topen_out hp (by decide) root (by omega)
 have aS:0<=root:=by omega
 have aV:¬ root<16:=by omega
 have aT:root % 2=1:=by
  have h1:=aF
  rw[Int.tmod_eq_emod_of_nonneg (by omega)] at h1
  exact h1
 have HV:=Lib.hid aB
 clear hk hv aB hr
 refine callsIn_of_wp_marks Tryz.func3 rfl trivial ?_ rfl
 simp only[Tryz.ntmps3,zT,zP,qE,qO,qP,zX,zY,qD,qA,zV,qB]
 gi_wp2_with (first
  | (refine⟨trivial,?_⟩;gi_at_call 5;rw[<-A];refine(callsIn_wide.2 (aJ _)).mono ?_;rintro e d ⟨K,p,v0,rfl,aN,aG⟩)
  | (refine⟨trivial,?_⟩;gi_at_call 6;fail))
 have x:=aG.is
 have aE:=x.ca.cs.fh.up
 refine⟨trivial,(callsIn_wide.2 (aI _ _ _ _ x)).mono ?_⟩
 rintro e Wz ⟨rfl,rfl⟩
 have f:=aE
 have C:=z.below f z.lt
 clear aI aJ aG x aE aN z
 gi_wp2_with (first
  | (refine⟨trivial,?_⟩;gi_at_call 7;refine(callsIn_wide.2 (num13_gives _ _)).mono ?_;rintro e W' ⟨rfl,rfl⟩)
  | (refine⟨trivial,?_⟩;fail_if_success (refine callsIn_wide.2 ?_)))
 obtain⟨W6,j⟩:∃W6,W6=d.alloc (.cells #[.pointer none,.int .i64 0] 32):=⟨_,rfl⟩
 have O:Below d.heap.size d W6:=by rw[j];exact below1 _ _
 obtain⟨T,u⟩:∃T:Option Addr,T=some ⟨d.heap.size,0,none⟩:=⟨_,rfl⟩
 have hN:NoneT W6 T:=.inr ⟨_,u,by rw[j,(BlkIs.new d _ _).cell];rfl⟩
 rw[<-j,<-u]
 have B:=C.below O C.lt
 have L:Below w.heap.size w W6:=(E.trans (f.mono E.size)).trans (O.mono (by have:=E.size;have:=f.size;omega))
 clear j u C f O aS aF aV aT
 gi_wp2_with (first
  | (refine⟨trivial,?_⟩;gi_at_call 8;refine(callsIn_wide.2 (nGet_gives hN key)).mono ?_;rintro e U1 ⟨rfl,Q⟩;have G:=hN.grow Q)
  | (refine⟨trivial,?_⟩;gi_at_call 9;refine(callsIn_wide.2 (nDelete_gives G key)).mono ?_;rintro e U2 ⟨rfl,n⟩;have N2:=G.grow n)
  | (refine⟨trivial,?_⟩;gi_at_call 10;refine(callsIn_wide.2 (nCheck_gives N2)).mono ?_;rintro e U3 ⟨rfl,S⟩;have r:=N2.grow S)
  | (refine⟨trivial,?_⟩;gi_at_call 11;refine(callsIn_wide.2 (nNode_gives r 1)).mono ?_;rintro e U4 ⟨rfl,F⟩;have s:=r.grow F)
  | (refine⟨trivial,?_⟩;gi_at_call 12;refine(callsIn_wide.2 (nValue_gives (s.grow (below1 _ _)) _ _ _ _)).mono ?_;rintro e U5 ⟨rfl,aK⟩;have N:=GrU.two (below1 U4 _) aK;have N5:=s.grow N)
  | (refine⟨trivial,?_⟩;gi_at_call 6;refine(callsIn_wide.2 (topen_nil _ root)).mono ?_;rintro e h ⟨rfl,rfl⟩)
  | (refine⟨trivial,?_⟩;gi_at_call 13;refine(callsIn_wide.2 nAll_gives).mono ?_;rintro e h ⟨q,rfl,hq,M⟩;have N6:=N5.grow M)
  | (refine⟨trivial,?_⟩;fail_if_success (refine callsIn_wide.2 ?_)))
 have X:=GrU.chain6 Q n S F N M
 have U:=B.below X B.lt
 have aC:=L.trans (X.mono L.size)
 clear X
 clear Q n S F aK N M G N2 r s N5 B L hN
 refine wpI_stopB (λa0 a V=>∃D,a = { a0 with defers:={ target:=.collected D,args:=#[] }::a0.defers }/\V.heap[D]? = some (.deferred (some []))/\h.heap.size<=D/\Below h.heap.size h V) ?_ ?_
 ·intro Q' hQ
  exact wpIn_rangeFunc_no rfl aU (gf:=46) (lb:=#[.pointer (some ⟨q,0,none⟩)]) rfl trivial (enters_of Tryz.func46 (by kernel_rfl) rfl)
   (all1N_seq (m - 1) (by omega) q hq N6) (λ_=>rfl) (λD V hD hB c=>hQ _ _ ⟨D,rfl,c,hD,hB⟩)
 rintro a V ⟨D,rfl,c,hD,aA⟩
 have BV:=U.below aA U.lt
 have NV:=N6.grow aA
 have aL:=aC.trans (aA.mono aC.size)
 gi_wp2_with (first
  | (refine⟨trivial,?_⟩;gi_at_call 7;refine(callsIn_wide.2 (num13_gives _ _)).mono ?_;rintro e W' ⟨rfl,rfl⟩)
  | (refine⟨trivial,?_⟩;gi_at_call 14;refine(callsIn_wide.2 (nPut_gives NV key val)).mono ?_;rintro e aY ⟨rfl,aM⟩;have o:=NV.grow aM)
  | (refine⟨trivial,?_⟩;gi_at_call 15;refine(callsIn_wide.2 (nClear_gives o)).mono ?_;rintro e W' ⟨rfl,rfl⟩)
  | (refine⟨trivial,?_⟩;gi_at_call 16;refine(callsIn_wide.2 (nPager_gives o)).mono ?_;rintro e W' ⟨rfl,rfl⟩)
  | (refine⟨trivial,?_⟩;gi_at_call 17;refine(callsIn_wide.2 (nRoot_gives o)).mono ?_;rintro e W' ⟨rfl,rfl⟩)
  | (refine⟨trivial,?_⟩;gi_at_call 4;refine(callsIn_wide.2 (works13_gives _)).mono ?_;rintro e i ⟨rfl,aP⟩;have H:=GrU.two aM aP;have I:=BV.below H BV.lt;have kZ:=I.boxed;have fZ:=I.free 0))
 have aH:i.heap[D]? = some (.deferred (some [])):=(Below.block H D (zI.1 c).1).trans c
 have aO:=I.set 0 (.bool true)
 have aQ:Below w.heap.size w (i.setCell ⟨w.heap.size,0,none⟩ (.bool true)):=(aL.trans (H.mono aL.size)).setCell (p:=⟨w.heap.size,0,none⟩) (by simp) _
 have aW:w.heap.size<D:=by have:=U.lt;omega
 have aD:=(Below.heap_setCell i ⟨w.heap.size,0,none⟩ (.bool true) D (by simp;omega)).trans aH
 clear kZ fZ aH c
 generalize i.setCell ⟨w.heap.size,0,none⟩ (.bool true)=Z at *
 refine⟨by simp,.inl ⟨D,_,rfl,run_takeDeferred aD,?_⟩⟩
 have aR:BlkIs (Z.putObj D (.deferred none)) w.heap.size 4 #[.bool true]:=(putObj_oth Z D (.deferred none) (g:=w.heap.size) (by omega)).trans aO
 exact⟨.bool true,results_cellQ (p:=⟨w.heap.size,0,none⟩) 6 rfl rfl (by simp[go_sem]) aR.boxed,rfl,aQ.trans (belowK_b (w:=w) (zH _) Z D _ _ (by omega) aD rfl rfl)⟩
end Go.Proofs.YtpibjkbadnffgaaGreat
namespace Go.Proofs.YtpibjkbadnffgaaGreat
open Go Go.RowKit Lou Go.Shelf
attribute [local go_sem] run_eqFseq13 Oper.semAt_some
theorem lawTN_in5 (m:Nat)(hm:10<=m)(w:World)(root:Int)(key val:ByteArray)(hk:key.size<=100)(hv:val.size<=100)(hr:root<0)(aN:¬ Int.tmod root 2=1) :
  CallsIn Fence.wide m Tryz.prog 3 #[.int .i64 root,.string key,.string val] w λe w'=>e = .returned (.bool true)/\Below w.heap.size w w':=by
 obtain⟨V0,x⟩:∃V0,V0=w.alloc (.cells #[.bool false] 4):=⟨_,rfl⟩
 have u:BlkIs V0 w.heap.size 4 #[.bool false]:=by rw[x];exact BlkIs.new w _ _
 have B:Below w.heap.size w V0:=by rw[x];exact below1 _ _
 have aS:1<=m:=by omega
 have aU:¬ (100:Int)<(key.size:Int):=by omega
 have aW:¬ (100:Int)<(val.size:Int):=by omega
 have aA:val.size<=4000:=by omega
 have aH:∀W,Calls Tryz.prog 5 #[.int .i64 40,.int .i64 40] W λe w'=>∃K p v,e = .returned (.tuple #[.pointer (some ⟨p,0,none⟩),.bool true])/\(K.P=40/\K.pg=40/\K.fr=400/\K.room=40)/\NewP W K p v w':=λW=>begun13_gives W 40 40 40 (by decide) rfl (by decide) (by decide) (by decide)
 have aG:∀K p v W,PaIs V0 K p v st01 st01 true (.slice none 0 0) W->Calls Tryz.prog 6 #[.pointer (some ⟨p,0,none⟩),.int .i64 root] W λe w'=>e = .returned (.tuple #[.pointer none,.int .i64 2])/\W=w':=λK p v W hp=>topen_out hp (by decide) root (by omega)
 have aR:¬ 0<=root:=by omega
 have HV:=Lib.hid aA
 clear hk hv aA hr
 refine callsIn_of_wp_marks Tryz.func3 rfl trivial ?_ rfl
 simp only[Tryz.ntmps3,zT,zP,qE,qO,qP,zX,zY,qD,qA,zV,qB]
 gi_wp2_with (first
  | (refine⟨trivial,?_⟩;gi_at_call 5;rw[<-x];refine(callsIn_wide.2 (aH _)).mono ?_;rintro e W5 ⟨K,p,v0,rfl,aL,aE⟩)
  | (refine⟨trivial,?_⟩;gi_at_call 6;fail))
 have s:=aE.is
 have aD:=s.ca.cs.fh.up
 refine⟨trivial,(callsIn_wide.2 (aG _ _ _ _ s)).mono ?_⟩
 rintro e Wz ⟨rfl,rfl⟩
 have d:=aD
 have A:=u.below d u.lt
 clear aG aH aE s aD aL u
 gi_wp2_with (first
  | (refine⟨trivial,?_⟩;gi_at_call 7;refine(callsIn_wide.2 (num13_gives _ _)).mono ?_;rintro e W' ⟨rfl,rfl⟩)
  | (refine⟨trivial,?_⟩;fail_if_success (refine callsIn_wide.2 ?_)))
 obtain⟨W6,Q⟩:∃W6,W6=W5:=⟨_,rfl⟩
 have M:Below W5.heap.size W5 W6:=by rw[Q];exact Below.refl _ _
 obtain⟨T,r⟩:∃T:Option Addr,T=none:=⟨_,rfl⟩
 have hN:NoneT W6 T:=.inl r
 rw[<-Q,<-r]
 have z:=A.below M A.lt
 have H:Below w.heap.size w W6:=(B.trans (d.mono B.size)).trans (M.mono (by have:=B.size;have:=d.size;omega))
 clear Q r A d M aR aN
 gi_wp2_with (first
  | (refine⟨trivial,?_⟩;gi_at_call 8;refine(callsIn_wide.2 (nGet_gives hN key)).mono ?_;rintro e U1 ⟨rfl,N⟩;have E:=hN.grow N)
  | (refine⟨trivial,?_⟩;gi_at_call 9;refine(callsIn_wide.2 (nDelete_gives E key)).mono ?_;rintro e U2 ⟨rfl,i⟩;have N2:=E.grow i)
  | (refine⟨trivial,?_⟩;gi_at_call 10;refine(callsIn_wide.2 (nCheck_gives N2)).mono ?_;rintro e U3 ⟨rfl,O⟩;have n:=N2.grow O)
  | (refine⟨trivial,?_⟩;gi_at_call 11;refine(callsIn_wide.2 (nNode_gives n 1)).mono ?_;rintro e U4 ⟨rfl,C⟩;have o:=n.grow C)
  | (refine⟨trivial,?_⟩;gi_at_call 12;refine(callsIn_wide.2 (nValue_gives (o.grow (below1 _ _)) _ _ _ _)).mono ?_;rintro e U5 ⟨rfl,aI⟩;have L:=GrU.two (below1 U4 _) aI;have N5:=o.grow L)
  | (refine⟨trivial,?_⟩;gi_at_call 6;refine(callsIn_wide.2 (topen_nil _ root)).mono ?_;rintro e f ⟨rfl,rfl⟩)
  | (refine⟨trivial,?_⟩;gi_at_call 13;refine(callsIn_wide.2 nAll_gives).mono ?_;rintro e f ⟨q,rfl,hq,I⟩;have N6:=N5.grow I)
  | (refine⟨trivial,?_⟩;fail_if_success (refine callsIn_wide.2 ?_)))
 have U:=GrU.chain6 N i O C L I
 have S:=z.below U z.lt
 have aB:=H.trans (U.mono H.size)
 clear U
 clear N i O C aI L I E N2 n o N5 z H hN
 refine wpI_stopB (λa0 a V=>∃D,a = { a0 with defers:={ target:=.collected D,args:=#[] }::a0.defers }/\V.heap[D]? = some (.deferred (some []))/\f.heap.size<=D/\Below f.heap.size f V) ?_ ?_
 ·intro Q' hQ
  exact wpIn_rangeFunc_no rfl aS (gf:=46) (lb:=#[.pointer (some ⟨q,0,none⟩)]) rfl trivial (enters_of Tryz.func46 (by kernel_rfl) rfl)
   (all1N_seq (m - 1) (by omega) q hq N6) (λ_=>rfl) (λD V hD hB c=>hQ _ _ ⟨D,rfl,c,hD,hB⟩)
 rintro a V ⟨D,rfl,c,hD,X⟩
 have BV:=S.below X S.lt
 have NV:=N6.grow X
 have aJ:=aB.trans (X.mono aB.size)
 gi_wp2_with (first
  | (refine⟨trivial,?_⟩;gi_at_call 7;refine(callsIn_wide.2 (num13_gives _ _)).mono ?_;rintro e W' ⟨rfl,rfl⟩)
  | (refine⟨trivial,?_⟩;gi_at_call 14;refine(callsIn_wide.2 (nPut_gives NV key val)).mono ?_;rintro e aV ⟨rfl,aK⟩;have j:=NV.grow aK)
  | (refine⟨trivial,?_⟩;gi_at_call 15;refine(callsIn_wide.2 (nClear_gives j)).mono ?_;rintro e W' ⟨rfl,rfl⟩)
  | (refine⟨trivial,?_⟩;gi_at_call 16;refine(callsIn_wide.2 (nPager_gives j)).mono ?_;rintro e W' ⟨rfl,rfl⟩)
  | (refine⟨trivial,?_⟩;gi_at_call 17;refine(callsIn_wide.2 (nRoot_gives j)).mono ?_;rintro e W' ⟨rfl,rfl⟩)
  | (refine⟨trivial,?_⟩;gi_at_call 4;refine(callsIn_wide.2 (works13_gives _)).mono ?_;rintro e h ⟨rfl,aO⟩;have F:=GrU.two aK aO;have G:=BV.below F BV.lt;have kZ:=G.boxed;have fZ:=G.free 0))
 have aF:h.heap[D]? = some (.deferred (some [])):=(Below.block F D (zI.1 c).1).trans c
 have aM:=G.set 0 (.bool true)
 have aP:Below w.heap.size w (h.setCell ⟨w.heap.size,0,none⟩ (.bool true)):=(aJ.trans (F.mono aJ.size)).setCell (p:=⟨w.heap.size,0,none⟩) (by simp) _
 have aT:w.heap.size<D:=by have:=S.lt;omega
 have aC:=(Below.heap_setCell h ⟨w.heap.size,0,none⟩ (.bool true) D (by simp;omega)).trans aF
 clear kZ fZ aF c
 generalize h.setCell ⟨w.heap.size,0,none⟩ (.bool true)=Z at *
 refine⟨by simp,.inl ⟨D,_,rfl,run_takeDeferred aC,?_⟩⟩
 have aQ:BlkIs (Z.putObj D (.deferred none)) w.heap.size 4 #[.bool true]:=(putObj_oth Z D (.deferred none) (g:=w.heap.size) (by omega)).trans aM
 exact⟨.bool true,results_cellQ (p:=⟨w.heap.size,0,none⟩) 6 rfl rfl (by simp[go_sem]) aQ.boxed,rfl,aP.trans (belowK_b (w:=w) (zH _) Z D _ _ (by omega) aC rfl rfl)⟩
end Go.Proofs.YtpibjkbadnffgaaGreat
namespace Go.Proofs.YtpibjkbadnffgaaGreat
open Go Go.RowKit Lou
theorem lawTN_walk (w:World)(c:Int)(key val:ByteArray) :
  Calls Tryz.prog 3 #[.int .i64 c,.string key,.string val] w λe w'=>e = .returned (.bool true)/\Below w.heap.size w w':=by
 by_cases h:key.size<=100/\val.size<=100
 ·rcases(by omega:(0<=c/\c<16)∨16<=c∨c<0) with hr|hr|hr<;>by_cases d:Int.tmod c 2=1
  ·exact callsIn_wide.1 (lawTN_in2 10 (zH _) w c key val h.1 h.2 hr d)
  ·exact callsIn_wide.1 (lawTN_in1 10 (zH _) w c key val h.1 h.2 hr d)
  ·exact callsIn_wide.1 (lawTN_in4 10 (zH _) w c key val h.1 h.2 hr d)
  ·exact callsIn_wide.1 (lawTN_in3 10 (zH _) w c key val h.1 h.2 hr d)
  ·exfalso
   have h1:Int.tmod c 2 = -(Int.tmod (-c) 2):=by rw[Int.neg_tmod,Int.neg_neg]
   have h2:=Int.tmod_eq_emod_of_nonneg (a:=-c) (b:=2) (by omega)
   rw[h1,h2] at d
   omega
  ·exact callsIn_wide.1 (lawTN_in5 10 (zH _) w c key val h.1 h.2 hr d)
 ·exact callsIn_wide.1 (lawTN_big 10 (by decide) w c key val h)
end Go.Proofs.YtpibjkbadnffgaaGreat
