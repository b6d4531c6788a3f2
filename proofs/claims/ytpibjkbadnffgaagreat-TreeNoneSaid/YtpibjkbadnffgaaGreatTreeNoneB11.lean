/- Texts that the proof of TreeNone leans on, part 11. -/
import Derived.Test.YtpibjkbadnffgaaGreatTreeNoneB10
open List renaming size_toArray → zT, length_cons → zP, length_nil → qE, push_toArray → qD, append_toArray → qA, nil_append → zV, cons_append → qB, map_cons → zL, length_append → zJ, take_succ_eq_append_getElem → zW, length_take → qG, replicate → zR, take_of_length_le → qI, setIfInBounds_toArray → zA, set_cons_succ → zF, getElem_mem → qF, mem_append → qK, mem_singleton → qN, eq_nil_of_length_eq_zero → zZ, length_drop → qQ, getElem_toArray → zE, getElem_cons_succ → zD, getElem_cons_zero → zB, set_cons_zero → zG, map_toArray → zK, map_nil → zN
open Nat renaming le_trans → zU, le_refl → zH, reduceAdd → qO, reduceSub → qP, lt_of_lt_of_le → zO, zero_add → qC
open Array renaming replicate_succ → zX, replicate_zero → zY, getElem?_eq_some_iff → zI, length_toList → qL
set_option linter.unusedVariables false
set_option maxRecDepth 100000
set_option maxHeartbeats 8000000

namespace Go.Proofs.YtpibjkbadnffgaaGreat
open Go Go.RowKit Lou
theorem ansNone {w:World}{p a:Nat}(hc:w.cell? ⟨p,19,none⟩=some (.pointer (some ⟨a,0,none⟩)))(d:p<w.heap.size):AnsF w 69 #[.pointer (some ⟨p,0,none⟩)] false :=
 ⟨enters_of Tryz.func69 (by kernel_rfl) rfl,λW c=>by
  refine(pnone_gives ((c.cell (p:=⟨p,19,none⟩) d).trans hc)).mono ?_
  rintro e w' ⟨rfl,rfl⟩
  exact⟨rfl,Below.refl _ _⟩⟩
theorem ansUnder {w:World}{c a p:Nat}{b u:Bool}(h:w.cell? ⟨c,0,none⟩=some (.pointer (some ⟨p,0,none⟩)))(h1:w.cell? ⟨a,0,none⟩=some (.bool u))(h2:w.cell? ⟨p,39,none⟩=some (.bool b))(g:c<w.heap.size)(e:a<w.heap.size)(f:p<w.heap.size):AnsF w 100 #[.pointer (some ⟨c,0,none⟩),.pointer (some ⟨a,0,none⟩)] (b != u) :=
 ⟨enters_of Tryz.func100 (by kernel_rfl) rfl,λW d=>pasked1_gives ((d.cell (p:=⟨c,0,none⟩) g).trans h) ((d.cell (p:=⟨a,0,none⟩) e).trans h1) ((d.cell (p:=⟨p,39,none⟩) f).trans h2)⟩
theorem ansThere {w:World}{d a e p:Nat}{n f size:Int}(r:w.cell? ⟨d,0,none⟩=some (.int .i64 n))(h1:w.cell? ⟨a,0,none⟩=some (.int .i64 f))(h2:w.cell? ⟨e,0,none⟩=some (.pointer (some ⟨p,0,none⟩)))(h:w.cell? ⟨p,0,none⟩=some (.int .i64 size))(q:d<w.heap.size)(g:a<w.heap.size)(m:e<w.heap.size)(x:p<w.heap.size):AnsF w 138 #[.pointer (some ⟨d,0,none⟩),.pointer (some ⟨a,0,none⟩),.pointer (some ⟨e,0,none⟩)] (decide (n<f∨size<=n)) :=
 ⟨enters_of Tryz.func138 (by kernel_rfl) rfl,λW c=>pthere1_gives ((c.cell (p:=⟨d,0,none⟩) q).trans r) ((c.cell (p:=⟨a,0,none⟩) g).trans h1) ((c.cell (p:=⟨e,0,none⟩) m).trans h2) ((c.cell (p:=⟨p,0,none⟩) x).trans h)⟩
theorem ansMarked {w:World}{a d p len c:Nat}{A:Option Addr}{n:Int}(m:w.cell? ⟨a,0,none⟩=some (.int .i64 n))(h1:w.cell? ⟨d,0,none⟩=some (.pointer (some ⟨p,0,none⟩)))(h2:w.cell? ⟨p,40,none⟩=some (.slice A len c))(h:a<w.heap.size)(f:d<w.heap.size)(g:p<w.heap.size):AnsF w 198 #[.pointer (some ⟨a,0,none⟩),.pointer (some ⟨d,0,none⟩)] (decide (n<0∨(len:Int)<=n)) :=
 ⟨enters_of Tryz.func198 (by kernel_rfl) rfl,λW e=>pmarked1_gives ((e.cell (p:=⟨a,0,none⟩) h).trans m) ((e.cell (p:=⟨d,0,none⟩) f).trans h1) ((e.cell (p:=⟨p,40,none⟩) g).trans h2)⟩
theorem PAskIs.bound {w:World}{fn:Nat}{x:Value}{b:Bool}(er:Int)(h:AnsF w fn #[x] b):PAskIs w ⟨.func (.func fn) #[x] #[],er,b⟩:=λ_ a=>pasked2_bound (h.later a)
theorem PAskIs.one {w:World}{fn:Nat}{x:Value}{b:Bool}(er:Int)(h:AnsF w fn #[x] b):PAskIs w ⟨.func (.func fn) #[] #[x],er,b⟩:=λ_ a=>pasked2_one (h.later a)
theorem PAskIs.two {w:World}{fn:Nat}{x y:Value}{b:Bool}(er:Int)(h:AnsF w fn #[x,y] b):PAskIs w ⟨.func (.func fn) #[] #[x,y],er,b⟩:=λ_ a=>pasked2_two (h.later a)
theorem PAskIs.three {w:World}{fn:Nat}{x y z:Value}{b:Bool}(er:Int)(h:AnsF w fn #[x,y,z] b):PAskIs w ⟨.func (.func fn) #[] #[x,y,z],er,b⟩:=λ_ a=>pasked2_three (h.later a)
theorem PAskIs.later {w w':World}{x:PAsk}(h:PAskIs w x)(hB:Below w.heap.size w w'):PAskIs w' x:=λW a=>h W (hB.trans (a.mono hB.size))
theorem pgC_size' {s l:PgSt}{cv mk:Value}{under:Bool}(hs:s.roots.length=16)(hl:l.roots.length=16):(pgC s cv l under mk).size=41:=by
 unfold pgC
 simp[psC_length hs,psC_length hl]
structure PaIs (W0:World)(K:PgK)(p:Nat)(v:PgV)(st last:PgSt)(under:Bool)(mk:Value)(W:World):Prop where
 ca:CaAt W0 K v W
 pb:BlkIs W p 104 (pgC st (.pointer (some ⟨K.a,0,none⟩)) last under mk)
 np:W0.heap.size<=p
 hs:st.roots.length=16
 hl:last.roots.length=16
def cntD (P:Nat)(D:Int->Option (List UInt8)):Nat:=((List.range P).filter λk:Nat=>(D (k:Int)).isSome).length
def pgMu (K:PgK)(p:Nat)(v:PgV)(k:Nat):Prop:=k=p∨K.mu v k
section
variable {W0 W W':World}{K:PgK}{p:Nat}{v v':PgV}{st last st' last':PgSt}{under under':Bool}{mk mk':Value}
theorem CaAt.sm (h:CaAt W0 K v W):∀k,K.mu v k->SmBlk W k:=CaIs.sm h.cs.ca
theorem CaAt.ge (h:CaAt W0 K v W):∀k,K.mu v k->W0.heap.size<=k:=h.cs.nb
theorem CaAt.lts (h:CaAt W0 K v W):∀k,K.mu v k->k<W.heap.size:=CaIs.lts h.cs.ca
theorem PaIs.sm (h:PaIs W0 K p v st last under mk W):SmBlk W p :=
 ⟨.inr (.inl ⟨_,_,h.pb,by rw[pgC_size' h.hs h.hl];decide,λn e=>by cases e⟩),.inr (.inl ⟨_,_,h.pb,by rw[pgC_size' h.hs h.hl];decide⟩)⟩
theorem PaIs.sms (h:PaIs W0 K p v st last under mk W):∀k,pgMu K p v k->SmBlk W k:=λk a=>by
 rcases a with rfl|a
 ·exact h.sm
 ·exact h.ca.sm k a
theorem CaAt.notPg (h:CaAt W0 K v W){cs:Array Value}(a:BlkIs W p 104 cs):¬ K.mu v p/\p≠K.f:=by
 exact⟨CaIs.notTy h.cs.ca a (by decide) (by decide),λe=>BlkIs.ne_type a h.cs.fh.fb (by decide) e⟩
theorem PaIs.grow (h:PaIs W0 K p v st last under mk W)(hB:Below W.heap.size W W'):PaIs W0 K p v st last under mk W':=⟨h.ca.grow hB,h.pb.below hB h.pb.lt,h.np,h.hs,h.hl⟩
theorem PaIs.turn (h:PaIs W0 K p v st last under mk W)(c:GrowBut (K.mu v) W W')(a:CaAt W0 K v' W'):PaIs W0 K p v' st last under mk W':=⟨a,c.blk h.pb (h.ca.notPg h.pb).1,h.np,h.hs,h.hl⟩
theorem PaIs.own (h:PaIs W0 K p v st last under mk W)(d:GrowBut (λk=>k=p) W W')(c:BlkIs W' p 104 (pgC st' (.pointer (some ⟨K.a,0,none⟩)) last' under' mk'))(hs:st'.roots.length=16)(hl:last'.roots.length=16):PaIs W0 K p v st' last' under' mk' W' :=
 ⟨h.ca.keep d (λk e=>by subst e;exact h.sm) (λk e=>by subst e;exact h.np) (λk e=>by subst e;exact h.ca.notPg h.pb),c,h.np,hs,hl⟩
theorem PaIs.chc (h:PaIs W0 K p v st last under mk W):W.cell? ⟨p,19,none⟩=some (.pointer (some ⟨K.a,0,none⟩)):=by rw[h.pb.cell];exact pgC_c h.hs
theorem PaIs.und (h:PaIs W0 K p v st last under mk W):W.cell? ⟨p,39,none⟩=some (.bool under):=by rw[h.pb.cell];exact pgC_under h.hs h.hl
theorem PaIs.mks (h:PaIs W0 K p v st last under mk W):W.cell? ⟨p,40,none⟩=some mk:=by rw[h.pb.cell];exact pgC_marks h.hs h.hl
theorem PaIs.szc (h:PaIs W0 K p v st last under mk W):W.cell? ⟨p,0,none⟩=some (.int .i64 st.size):=by rw[h.pb.cell];exact pgC_size h.hs
theorem PaIs.fic (h:PaIs W0 K p v st last under mk W):W.cell? ⟨p,1,none⟩=some (.int .i64 st.first):=by rw[h.pb.cell];exact pgC_first h.hs
end
end Go.Proofs.YtpibjkbadnffgaaGreat
namespace Go.Proofs.YtpibjkbadnffgaaGreat
open Go Go.RowKit Lou Go.Shelf
attribute [local go_sem] Oper.semAt_some
structure PMapAt (W:World)(M:Nat)(Y:Int->Option (List UInt8)):Prop where
 has:∃es co f,MapIs W M es co/\EnV es f/\MapKept.Stamped es co/\PgIs W f Y
structure InsAt (w0:World)(B M b B4:Nat)(Y:Int->Option (List UInt8))(ks:List Nat)(V:World):Prop where
 mp:∃es co f,MapIs V M es co/\EnV es f/\MapKept.Stamped es co/\OwnOf V f Y ks
 bx:BlkIs V b 205 #[.map (some M)]
 up:Below B w0 V
 b4:B<=M/\M<B4/\b<B4/\B4<=V.heap.size
theorem OwnOf.abC {B:Nat}{X Z:World}{row:Option Nat}{a:Int->Option Value}{Y:Int->Option (List UInt8)}{ks:List Nat}(h:OwnOf X a Y ks)(g:X.grownBy Z row)(m:∀r,row=some r->B<=r/\∃o:Obj,X.heap[r]? = some o/\o.isCells=false):OwnOf Z a Y ks:=λk=>by
 rcases h k with h1|⟨h1,A,c,y,h2,e,d,f⟩
 ·exact .inl h1
 ·exact .inr ⟨h1,A,c,y,h2,e,d,InB.ownFrom (B:=B) _ _ _ () X Z row f g m⟩
theorem InsAt.row {g X Z:World}{B M b a:Nat}{Y:Int->Option (List UInt8)}{ks:List Nat}{row:Option Nat}(h:InsAt g B M b a Y ks X)(c:X.grownBy Z row)(d:∀r,row=some r->a<=r/\∃o:Obj,X.heap[r]? = some o/\o.isCells=false):InsAt g B M b a Y ks Z:=by
 obtain⟨⟨w,C,f,h1,h2,A,z⟩,E,F,x,m,n,q⟩:=h
 exact⟨⟨w,C,f,h1.abSm (B:=a) m c (λr e=>(d r e).1),h2,A,z.abC (B:=a) c d⟩,E.abN (B:=a) n c (λr e=>(d r e).1),F.trans (grown_below c (by omega) (λr e=>by have:=(d r e).1;omega)),x,m,n,zU q c.size⟩
theorem InsAt.st (c:World)(B M b a:Nat)(Y:Int->Option (List UInt8)):StU a (λ(e:List (Nat×(Option Addr×Nat))) U V=>InsAt c B M b a Y (e.map (·.1)) V/\∀k,U k↔k=M):=λ_ _ _ _ _ h f d=>⟨h.1.row f d,h.2⟩
theorem minsert_in (n:Nat)(hn:8<=n)(E w:World)(B M q r many aA:Nat)(G:Array MapEntry)(f:Int->Option Value)(Y:Int->Option (List UInt8))
  (hq:BlkIs w q 205 #[.map (some r)]) (hm:MapIs w r G aA) (he:EnV G f) (aB:MapKept.Stamped G aA) (hP:PgIs w f Y) (O:KeysB f many) (aO:many<=40000) (g:MapIs w M #[] 0) (aW:r≠M) (aU:Below B E w) (aH:B<=M) (aT:B<=w.heap.size) :
  CallsIn Fence.wide n Tryz.prog 263 #[.map (some M),.func (.func 182) #[] #[.pointer (some ⟨q,0,none⟩)]] w λe w'=>e = .returned (.tuple #[])/\PMapAt w' M Y/\Below B E w':=by
 have h1:1<=n:=by omega
 obtain⟨W1,d⟩:∃W1,W1=w.alloc (.cells #[.map (some M)] 205):=⟨_,rfl⟩
 have m:Below w.heap.size w W1:=by rw[d];exact(Below.refl _ w).alloc (zH _) _
 have b1:BlkIs W1 w.heap.size 205 #[.map (some M)]:=by rw[d];exact BlkIs.new w _ _
 have s1:W1.heap.size=w.heap.size+1:=by rw[d];simp
 have aP:q≠M:=λe=>by
  subst e
  have h1:w.heap[q]? = some (.map #[] 0):=g
  have h2:w.heap[q]? = some (.cells #[.map (some r)] 205 (0,0)):=hq
  rw[h1] at h2
  cases h2
 have aD:=g.below m g.lt
 have aR:Below B E W1:=aU.trans (m.mono aT)
 have aX:=g.lt
 have HS:=dirty1_seq (n - 1) (by omega) q r many aA G f Y W1 (hq.below m hq.lt) (hm.below m hm.lt) he aB (hP.grow m) O aO
 have aG:∀k:Nat,k∈keysV f many↔(Y (k:Int)).isSome=true:=λk=>by
  rw[keysV_mem]
  rcases hP (k:Int) with⟨h2,h3⟩|⟨A,c,y,h2,h3,_⟩
  ·rw[h2,h3];simp
  ·rw[h2,h3]
   have:=O _ _ h2
   simp
   omega
 have aE:∀k y,Y k=some y->0<=k:=λk y hy=>by
  rcases hP k with⟨_,h3⟩|⟨A,c,y,h2,_⟩
  ·rw[h3] at hy;cases hy
  ·exact(O _ _ h2).1
 have aQ:=Lib.hid aG
 have aS:=Lib.hid aE
 have aI:=Lib.hid d.symm
 have aV:M<W1.heap.size:=by omega
 have aN:w.heap.size<W1.heap.size:=by omega
 clear hm hq he aB hP O g aG aE d s1
 refine callsIn_of_wp_marks Tryz.func263 rfl trivial ?_ rfl
 simp only[Tryz.ntmps263,zT,zP,qE,qO,qP,zX,zY,qD,qA,zV,qB]
 gi_wp2
 rw[aI.out]
 refine wpIn_rangeFunc_U rfl h1 (gf:=182) (lb:=#[.pointer (some ⟨q,0,none⟩)]) rfl trivial (enters_of Tryz.func182 (by kernel_rfl) rfl)
  HS (Below.refl _ _) (λ_=>rfl) (λk=>k=M) ⟨λe=>aP e,λe=>aW e,λk e=>by subst e;exact .inl ⟨_,_,aD⟩⟩
  (λN U V=>InsAt E B M w.heap.size W1.heap.size Y (N.map (·.1)) V/\∀k,U k↔k=M) (λ_ _ _ _=>False) (InsAt.st _ _ _ _ _ _) (λ_ _ _ _ _ _ h _ _=>h) (λs U X hs k hk=>by rw[(hs.2 k).1 hk];exact zO hs.1.b4.2.1 hs.1.b4.2.2.2) ?ownR
  ⟨⟨⟨#[],0,λ_=>none,aD,EnV.empty,MapKept.stamped_empty 0,λk => .inl ⟨by simp,rfl⟩⟩,b1,aR,aH,aV,aN,zH _⟩,λk=>Iff.rfl⟩ ?act ?assign ?body ?done ?stop
 case ownR =>
  rintro N x _ X Y2 row ⟨e1,e2,y,C,H,I,e6⟩ aF hr
  exact⟨e1,e2,y,C,H,InB.ownFrom (B:=W1.heap.size) _ _ _ () X Y2 row I aF hr,TyB.ownFrom (B:=W1.heap.size) _ () X Y2 row e6 aF hr⟩
 case assign =>
  intro l1 x V K F
  simp only[pgEnc]
  gi_wp2
  exact F
 case body =>
  rintro l1 N ⟨x1,A6,c6⟩ U V ⟨⟨⟨aC,c2,f2,a,S,Z,L⟩,i5,T,Q⟩,hU⟩ ⟨_,_,y,C,H,I,e6⟩
  simp only at C I
  have k1:=i5.boxed
  have H3:=Lib.hid C
  have H4:=Lib.hid H
  have HU:=Lib.hid hU
  clear C H hU
  gi_wp2_with (first
   | (refine wpR_mputV rfl (.tmp 9) (.tmp 10) (.tmp 11) rfl rfl rfl rfl S Z a ?_;intro aL c7 W7 aK aJ aM z)
   | (refine⟨trivial,?_⟩;fail_if_success (refine callsIn_wide.2 ?_)))
  refine⟨U,LaterU.refl _ _,KeepU.grown U z (λr e=>by injection e with e;subst e;exact(HU.out _).2 rfl),⟨⟨aL,c7,_,aK,aJ,aM,?_⟩,i5.grownMap a z,T.trans (grown_below z (by omega) (λr e=>by injection e with e;omega)),Q.1,Q.2.1,Q.2.2.1,zU Q.2.2.2 z.size⟩,HU.out⟩
  rw[List.map_append]
  exact L.add a z H3.out H4.out I
 case done =>
  rintro D ys U V hD hS ⟨hI,_⟩ F
  gi_wp2
  have j:=hI.row (grownBy_putObj' V D (.deferred none)) (λr e=>by injection e with e;subst e;exact⟨hD,_,F,rfl⟩)
  obtain⟨⟨aC,c2,f2,a,S,Z,L⟩,_,T,_⟩:=j
  refine⟨by simp,.inl ⟨D,_,rfl,run_takeDeferred F,?_⟩⟩
  refine⟨_,results_none rfl _ _ _,rfl,⟨⟨aC,c2,f2,a,S,Z,λk => ?_⟩⟩,T⟩
  rw[hS] at L
  rcases L k with⟨h2,h3⟩|⟨_,h2⟩
  ·refine .inl ⟨h3,?_⟩
   cases hY:Y k with
   | none=>rfl
   | some y =>
    have p1:=aS.out k y hY
    have e:((k.toNat:Nat):Int)=k:=by omega
    exact absurd e (h2 k.toNat ((aQ.out k.toNat).2 (by rw[e,hY];rfl)))
  ·exact .inr h2
 case stop =>
  rintro D c N U V _ _ h _
  exact h.elim
theorem dirtyY_dirF (V:RowsV):dirtyY V=dirF (rowsR V):=by
 funext k
 apply Option.ext
 intro y
 rw[dirF_some]
 exact rowsR_dirty.symm
theorem mcollect_in (n:Nat)(hn:9<=n)(w:World)(q r many g:Nat)(a:Array MapEntry)(f:Int->Option Value)(Y:Int->Option (List UInt8))
  (hq:BlkIs w q 205 #[.map (some r)]) (d:MapIs w r a g) (x:EnV a f) (h:MapKept.Stamped a g) (hP:PgIs w f Y) (m:KeysB f many) (E:many<=40000) :
  CallsIn Fence.wide n Tryz.prog 197 #[.func (.func 182) #[] #[.pointer (some ⟨q,0,none⟩)]] w λe w'=>∃M,e = .returned (.map (some M))/\PMapAt w' M Y/\w.heap.size<=M/\Below w.heap.size w w':=by
 have c:Below w.heap.size w (w.alloc (.map #[] 0)):=(Below.refl _ w).alloc (zH _) _
 have h1:1<=n:=by omega
 have G:=d.lt
 have z:=minsert_in (n - 1) (by omega) w (w.alloc (.map #[] 0)) w.heap.size w.heap.size q r many g a f Y (hq.below c hq.lt) (d.below c d.lt) x h (hP.grow c) m E (heap_alloc_new w _) (by omega) c (zH _) (by simp)
 clear d hq x h hP m
 refine callsIn_of_wp Tryz.func197 rfl trivial ?_ rfl
 simp only[Tryz.ntmps197,zT,zP,qE,qO,qP,zX,zY,qD,qA,zV,qB]
 gi_wp2_with (first
  | (refine wpV_exec rfl (x_makeMap rfl) ?_)
  | (refine⟨trivial,?_⟩;gi_at_call 263;refine z.mono ?_;rintro e F ⟨rfl,A,C⟩)
  | (refine⟨trivial,?_⟩;fail_if_success (refine callsIn_wide.2 ?_)))
 go_ret
 exact⟨w.heap.size,rfl,A,zH _,C⟩
theorem pdirty_in (n:Nat)(hn:10<=n){W0 W:World}{K:PgK}{p:Nat}{v:PgV}{st last:PgSt}{under:Bool}{mk:Value}(h:PaIs W0 K p v st last under mk W)(F:K.Ok) :
  CallsIn Fence.wide n Tryz.prog 126 #[.pointer (some ⟨p,0,none⟩)] W λe W'=>∃M,e = .returned (.map (some M))/\PMapAt W' M v.D/\W.heap.size<=M/\Below W.heap.size W W':=by
 have hf:∀k x,v.c.V k=some x->x.y.length=512:=h.ca.ro.full
 have I:=cdirty_gives W K.a K.f K.r K.P K.room v.c.now v.c.hh v.c.mm v.c.V h.ca.cs.ca
 have w:=dirtyPg h.ca.cs.ca hf
 have C:=w.keys (many:=K.P) (λk y z=>by
  unfold dirtyY at z
  cases A:v.c.V k with
  | none=>rw[A] at z;cases z
  | some x=>exact(h.ca.cs.ca.rows k x A).key)
 have aA:=F.P2
 have N:∀(X:World) (q s g:Nat) (d:Array MapEntry),BlkIs X q 205 #[.map (some s)]->MapIs X s d g->EnV d (dirtyF v.c.V)->MapKept.Stamped d g->Below W.heap.size W X->CallsIn Fence.wide (n - 1) Tryz.prog 197 #[.func (.func 182) #[] #[.pointer (some ⟨q,0,none⟩)]] X λe w'=>∃M,e = .returned (.map (some M))/\PMapAt w' M v.D/\X.heap.size<=M/\Below X.heap.size X w':=λX q s g d h1 h2 H G O=>by
  have:=mcollect_in (n - 1) (by omega) X q s K.P g d (dirtyF v.c.V) (dirtyY v.c.V) h1 h2 H G (w.grow O) C (by omega)
  rw[dirtyY_dirF] at this
  exact this
 have k19:=h.chc
 have h1:1<=n:=by omega
 clear w C aA hf
 refine callsIn_of_wp Tryz.func126 rfl trivial ?_ rfl
 simp only[Tryz.ntmps126,zT,zP,qE,qO,qP,zX,zY,qD,qA,zV,qB]
 gi_wp2_with (first
  | (refine⟨trivial,?_⟩;gi_at_call 117;refine(callsIn_wide.2 I).mono ?_;rintro e L ⟨q,S,d,g,rfl,hq,T,E,U,m,_,_⟩)
  | (refine⟨trivial,?_⟩;gi_at_call 197;refine(N L q S g d hq T E U m).mono ?_;rintro e W4 ⟨M,rfl,Q,hM,Z⟩)
  | (refine⟨trivial,?_⟩;fail_if_success (refine callsIn_wide.2 ?_)))
 go_ret
 exact⟨M,rfl,Q,zU m.size hM,m.trans (Z.mono m.size)⟩
end Go.Proofs.YtpibjkbadnffgaaGreat
namespace Go.Proofs.YtpibjkbadnffgaaGreat
open Go Go.RowKit Lou
theorem cell_lt {w:World}{p:Addr}{v:Value}(h:w.cell? p=some v):p.block<w.heap.size:=by
 cases a:w.heap[p.block]? with
 | none=>simp[World.cell?,a] at h
 | some o=>exact(zI.1 a).1
def numB (x:Int):List UInt8:=fixL 4 (IntKind.u32.wrap x).toNat
def numsB (l:List Int):List UInt8:=(l.map numB).flatten
theorem numsB_length (l:List Int):(numsB l).length=4*l.length:=by
 unfold numsB
 induction l with
 | nil=>rfl
 | cons x l ih=>simp only[zL,List.flatten_cons,zJ,ih,numB,fixL_length,zP];omega
theorem numsB_take {l:List Int}{k:Nat}(h:k<l.length):numsB (l.take (k+1))=numsB (l.take k)++numB l[k]:=by
 unfold numsB
 rw[zW h,List.map_append,List.flatten_append]
 simp
theorem rfix_numB {x:Int}(h:0<=x/\x<4294967296):((rfix (numB x):Nat):Int)=x:=by
 have e:IntKind.u32.wrap x=x:=by
  show x % 4294967296=x
  omega
 unfold numB
 rw[e,rfix_fixL_lt (by show x.toNat<256 ^ 4;omega)]
 omega
theorem pnumbers_gives (w:World)(A:Option Addr)(c:Nat)(l:List Int)(h:InN w A l)(hl:l.length<=100):Calls Tryz.prog 81 #[.slice A l.length c] w (GivesB w (numsB l)):=by
 go_enter Tryz.func81,Tryz.ntmps81
 go_wp2_with fail
 go_loopw [2,7] (λv i wr=>∃k:Nat,k<=l.length/\i = .int .i64 (k:Int)/\OwnB wr w.heap.size v (numsB (l.take k))/\Below w.heap.size w wr) (λ_ i _=>l.length - (intOf i).toNat)
 case atStart=>exact⟨0,Nat.zero_le _,rfl,OwnB.nil _ _,Below.refl _ _⟩
 case round =>
  obtain⟨k,Z,rfl,f,hB⟩:=hrel
  have V:=hB.size
  by_cases d:k<l.length
  ·obtain⟨g,o,rfl,hc⟩:=h.lies (by omega)
   have L:=(hB.cell (p:=⟨g,o+k,none⟩) (cell_lt (hc k d))).trans (hc k d)
   have a:=numsB_take d
   have U:=numsB_length (l.take k)
   rw[qG] at U
   obtain⟨x,q⟩:∃x,x=l[k]:=⟨_,rfl⟩
   rw[<-q] at L a
   have z:(((IntKind.u32.wrap x).toNat:Nat):Int)=IntKind.u32.wrap x:=by
    have:0<=IntKind.u32.wrap x:=by
     show 0<=x % 4294967296
     omega
    omega
   have Q:∀W,Calls Tryz.prog 94 #[.int .u32 (IntKind.u32.wrap x)] W (GivesB W (numB x)):=λW=>by
    have:=four_gives (IntKind.u32.wrap x).toNat W
    rw[z] at this
    exact this
   have C:(numB x).length=4:=fixL_length _ _
   have H:=Lib.hid a
   have T:=Lib.hid C
   have X:IntKind.i64.wrap ((k:Int)+1)=(k:Int)+1:=wrap_i64_fr _ (by omega) (by omega)
   clear hc q z a C h
   generalize numB x=nb at *
   generalize hP:numsB (l.take k)=G at *
   go_wp2_with (first
    | (go_at_call 94;refine(Q _).mono ?_;rintro e M ⟨v4,rfl,S,r⟩;obtain⟨F,c4,rfl,I⟩:=S.inB;have m:=f.later r;have E:=hB.trans (r.mono V))
    | (refine wp_appB rfl (.tmp 11) (.tmp 14) rfl w.heap.size u2 G (by rfl) m M.heap.size F c4 nb (by rfl) I (by rw[T.out];omega) E.size ?_;intro v' w5 n N;have O:=m.below E N))
   rw[<-H.out] at n
   exact⟨⟨k+1,by omega,by simp,n,O⟩,by simp[intOf];omega⟩
  ·obtain rfl:k=l.length:=by omega
   rw[List.take_length] at f
   go_wp2
   go_ret
   exact⟨_,rfl,f,hB⟩
def IntsL (xs:List Int)(v:Value)(w:World):Prop:=∃b,v = .slice (some ⟨b,0,none⟩) xs.length xs.length/\∀j (h:j<xs.length),w.cell? ⟨b,j,none⟩=some (.int .i64 xs[j])
theorem ints_stable (xs:List Int):∀v w w',IntsL xs v w->Grow w w'->IntsL xs v w':=by
 rintro v w w' ⟨b,c,h⟩ d
 exact⟨b,c,λj a=>(d.cell (p:=⟨b,j,none⟩) (cell_lt (h j a))).trans (h j a)⟩
theorem IntsL.gives {xs:List Int}{v:Value}{w:World}(h:IntsL xs v w)(hl:xs.length<=100):Calls Tryz.prog 81 #[v] w (GivesB w (numsB xs)):=by
 obtain⟨b,rfl,h⟩:=h
 exact pnumbers_gives w _ _ xs ⟨λ_=>⟨b,0,rfl,λj a=>by rw[qC];exact h j a⟩⟩ hl
def padB (l:List UInt8):List UInt8:=l++zR (512 - l.length) 0
theorem padB_length {l:List UInt8}(h:l.length<=512):(padB l).length=512:=by unfold padB;simp;omega
theorem splice_pad {l:List UInt8}(h:l.length<=512):spliceB (zR 512 0) 0 512 l=padB l:=by
 unfold spliceB padB
 rw[List.take_zero,zV,qC,qI (by omega),Nat.min_eq_left h,List.drop_replicate]
theorem ppage_walk (w:World)(v:Value)(l:List UInt8)(hl:l.length<=512)(m:∀W,Below w.heap.size w W->Calls Tryz.prog 137 #[v] W (GivesB W l)):Calls Tryz.prog 83 #[v] w (GivesB w (padB l)):=by
 go_enter Tryz.func83,Tryz.ntmps83
 go_wp2_with (first
  | (refine wp_makeB rfl _ _ rfl w.heap.size .i64 .i64 512 rfl rfl (by omega) (zH _) ?_;intro w1 n x;have a:Below w.heap.size w w1:=grown_below x (zH _) (λr C=>by cases C);have bk:=OwnB.blk (l:=zR 512 0) n)
  | (go_at_call 137;refine(m w1 a).mono ?_;rintro e c ⟨E,rfl,own2,d⟩;obtain⟨A,c2,rfl,z⟩:=own2.inB;have f:=bk.1.below d bk.1.lt)
  | (refine wp_copyB rfl (.tmp 5) (.tmp 7) rfl w.heap.size 0 (zR 512 0) l A c2 c.heap.size 512 512 rfl rfl f z (by simp) ?_;rw[splice_pad hl]))
 have q:Below w.heap.size w (c.setRow w.heap.size ((padB l).map b8).toArray):=below_setRow (a.trans (d.mono a.size)) (zH _) _
 have h:=f.setRow ((padB l).map b8).toArray
 have g:OwnB (c.setRow w.heap.size ((padB l).map b8).toArray) w.heap.size (.slice (some ⟨w.heap.size,0,none⟩) 512 512) (padB l) :=
  ⟨by simp[padB_length hl],.inr ⟨w.heap.size,512,_,by rw[padB_length hl],zH _,h,by rw[padB_length hl];exact zH _,by decide,by simp[padB_length hl],by rw[padB_length hl,Nat.mul_one,qI (by simp[padB_length hl])]⟩⟩
 go_ret
 exact⟨_,rfl,g,q⟩
theorem ppage_gives {w:World}{a:List (List UInt8)}{v:Value}(h:Lists a v w)(c:a.length<=1000)(hf:a.flatten.length<=512):Calls Tryz.prog 83 #[v] w (GivesB w (padB a.flatten)) :=
 ppage_walk w v _ hf λW hB=>concatL_gives (lists_stable a _ _ _ h (by exact hB)) c (by omega)
theorem ppage_none (w:World):Calls Tryz.prog 83 #[.slice none 0 0] w (GivesB w (zR 512 0)) :=
 ppage_walk w _ [] (by simp) λW hB=>concat_gives W none 0 [] ⟨zH _,by decide,λh=>absurd h (by simp)⟩ (by simp)
theorem blk_setCells {g:Nat}{T:TypeId}:∀(a:List Value) (o:Nat) (w:World) (cs:List Value),BlkIs w g T cs.toArray->o+a.length<=cs.length->BlkIs (w.setCells g o a) g T (cs.take o++a++cs.drop (o+a.length)).toArray
 | [],o,w,cs,h,_=>by
  have e:cs.take o++[] ++ cs.drop (o+([]:List Value).length)=cs:=by simp
  rw[e]
  exact h
 | v::r,o,w,cs,h,hl=>by
  simp only[zP] at hl
  have h1:=h.set o v
  have e:cs.toArray.setIfInBounds o v=(cs.set o v).toArray:=by simp
  rw[e] at h1
  have h2:=blk_setCells r (o+1) _ (cs.set o v) h1 (by simp;omega)
  have c:(cs.set o v).take (o+1)=cs.take o++[v]:=by
   rw[zW (by simp;omega),List.take_set_of_le (zH _)]
   simp
  have d:(cs.set o v).drop (o+1+r.length)=cs.drop (o+(r.length+1)):=by
   rw[List.drop_set_of_lt (by omega)]
   congr 1
   omega
  rw[c,d] at h2
  have f:cs.take o++[v] ++ r++cs.drop (o+(r.length+1))=cs.take o++v::r++cs.drop (o+(v::r).length):=by simp
  rw[f] at h2
  exact h2
theorem growBut_setCells {Mu:Nat->Prop}{g:Nat}(a:Mu g):∀(c:List Value) (o:Nat) (w:World),GrowBut Mu w (w.setCells g o c)
 | [],_,w=>GrowBut.refl _ _
 | v::r,o,w=>(GrowBut.setCell w ⟨g,o,none⟩ v a).trans (growBut_setCells a r (o+1) _)
theorem blk_there {w:World}{g o n:Nat}{T:TypeId}{cs:Array Value}(h:BlkIs w g T cs)(hn:o+n<=cs.size):w.there g o n:=λj a=>by
 have hc:w.cell? ⟨g,o+j,none⟩=some cs[o+j]:=by rw[h.cell];exact Array.getElem?_eq_getElem (by omega)
 have hh:w.heap[g]? = some (.cells cs T (0,0)):=h
 refine⟨by rw[hc];rfl,?_⟩
 simp[World.frozen?,hh]
theorem psC_one (s:PgSt):∀v∈psC s,v.oneCell'=true:=by
 intro v a
 simp only[psC,List.mem_cons,List.mem_map] at a
 rcases a with rfl|rfl|rfl|⟨x,_,rfl⟩<;>rfl
theorem rowPgSt:RowTy Tryz.prog 100 19:=⟨⟨_,Tryz.underlying100,rfl⟩,by kernel_rfl⟩
section
variable {s l s' l':PgSt}{cv mk mk':Value}{u u':Bool}
theorem pgC_list (s l:PgSt)(cv mk:Value)(u:Bool):pgC s cv l u mk=(psC s++cv::(psC l++[.bool u,mk])).toArray:=rfl
theorem pgCl_length (hs:s.roots.length=16)(hl:l.roots.length=16):(psC s++cv::(psC l++[.bool u,mk])).length=41:=by simp[psC_length hs,psC_length hl]
theorem pgC_setUnder (hs:s.roots.length=16)(hl:l.roots.length=16):(pgC s cv l u mk).setIfInBounds 39 (.bool u')=pgC s cv l u' mk:=by
 rw[pgC_list,pgC_list,zA,List.set_append_right _ _ (by rw[psC_length hs];omega),psC_length hs,show 39 - 19=19+1 from rfl,zF,List.set_append_right _ _ (by rw[psC_length hl];omega),psC_length hl]
 rfl
theorem pgC_setMarks (hs:s.roots.length=16)(hl:l.roots.length=16):(pgC s cv l u mk).setIfInBounds 40 mk'=pgC s cv l u mk':=by
 rw[pgC_list,pgC_list,zA,List.set_append_right _ _ (by rw[psC_length hs];omega),psC_length hs,show 40 - 19=20+1 from rfl,zF,List.set_append_right _ _ (by rw[psC_length hl];omega),psC_length hl]
 rfl
theorem pgC_setSize (n:Int):(pgC s cv l u mk).setIfInBounds 0 (.int .i64 n)=pgC { s with size:=n } cv l u mk:=by
 rw[pgC_list,pgC_list,zA]
 rfl
theorem pgC_setRoot (hs:s.roots.length=16){i:Nat}(a:i<16)(n:Int):(pgC s cv l u mk).setIfInBounds (3+i) (.int .i64 n)=pgC { s with roots:=s.roots.set i n } cv l u mk:=by
 have e:(psC s).set (3+i) (.int .i64 n)=psC { s with roots:=s.roots.set i n }:=by
  unfold psC
  rw[show 3+i=i+1+1+1 by omega,zF,zF,zF,List.map_set]
 rw[pgC_list,pgC_list,zA,List.set_append_left _ _ (by rw[psC_length hs];omega),e]
theorem pgC_state (hs:s.roots.length=16):(psC s++cv::(psC l++[.bool u,mk])).take 0++psC s'++(psC s++cv::(psC l++[.bool u,mk])).drop (0+19)=psC s'++cv::(psC l++[.bool u,mk]):=by
 rw[qC,List.drop_left' (psC_length hs)]
 rfl
theorem pgC_last (hs:s.roots.length=16)(hl:l.roots.length=16):(psC s++cv::(psC l++[.bool u,mk])).take 20++psC l'++(psC s++cv::(psC l++[.bool u,mk])).drop (20+19)=psC s++cv::(psC l'++[.bool u,mk]):=by
 have a:psC s++cv::(psC l++[.bool u,mk])=(psC s++[cv])++(psC l++[.bool u,mk]):=by simp
 have h1:(psC s++[cv]).length=20:=by simp[psC_length hs]
 rw[a,List.take_left' h1,show 20+19=20+19 from rfl,<-List.drop_drop,List.drop_left' h1,List.drop_left' (psC_length hl)]
 simp
end
section
variable {W0 W:World}{K:PgK}{p:Nat}{v:PgV}{st last st' last':PgSt}{under under':Bool}{mk mk':Value}
theorem PaIs.setUnder (h:PaIs W0 K p v st last under mk W):PaIs W0 K p v st last under' mk (W.setCell ⟨p,39,none⟩ (.bool under'))/\GrowBut (λk=>k=p) W (W.setCell ⟨p,39,none⟩ (.bool under')):=by
 have a:GrowBut (λk=>k=p) W (W.setCell ⟨p,39,none⟩ (.bool under')):=GrowBut.setCell _ _ _ rfl
 have c:=h.pb.set 39 (.bool under')
 rw[pgC_setUnder h.hs h.hl] at c
 exact⟨h.own a c h.hs h.hl,a⟩
theorem PaIs.setMarks (h:PaIs W0 K p v st last under mk W):PaIs W0 K p v st last under mk' (W.setCell ⟨p,40,none⟩ mk')/\GrowBut (λk=>k=p) W (W.setCell ⟨p,40,none⟩ mk'):=by
 have a:GrowBut (λk=>k=p) W (W.setCell ⟨p,40,none⟩ mk'):=GrowBut.setCell _ _ _ rfl
 have c:=h.pb.set 40 mk'
 rw[pgC_setMarks h.hs h.hl] at c
 exact⟨h.own a c h.hs h.hl,a⟩
theorem PaIs.setRoot (h:PaIs W0 K p v st last under mk W){i:Nat}(d:i<16)(n:Int):PaIs W0 K p v { st with roots:=st.roots.set i n } last under mk (W.setCell ⟨p,3+i,none⟩ (.int .i64 n))/\GrowBut (λk=>k=p) W (W.setCell ⟨p,3+i,none⟩ (.int .i64 n)):=by
 have c:GrowBut (λk=>k=p) W (W.setCell ⟨p,3+i,none⟩ (.int .i64 n)):=GrowBut.setCell _ _ _ rfl
 have a:=h.pb.set (3+i) (.int .i64 n)
 rw[pgC_setRoot h.hs d] at a
 exact⟨h.own c a (by simpa using h.hs) h.hl,c⟩
theorem PaIs.setState (h:PaIs W0 K p v st last under mk W)(hs:st'.roots.length=16):PaIs W0 K p v st' last under mk (W.setCells p 0 (psC st'))/\GrowBut (λk=>k=p) W (W.setCells p 0 (psC st')):=by
 have c:GrowBut (λk=>k=p) W (W.setCells p 0 (psC st')):=growBut_setCells (Mu:=λk=>k=p) rfl _ _ _
 have a:=blk_setCells (psC st') 0 W _ h.pb (by rw[pgCl_length h.hs h.hl,psC_length hs];omega)
 rw[psC_length hs,pgC_state h.hs] at a
 exact⟨h.own c a hs h.hl,c⟩
theorem PaIs.setLast (h:PaIs W0 K p v st last under mk W)(hl:last'.roots.length=16):PaIs W0 K p v st last' under mk (W.setCells p 20 (psC last'))/\GrowBut (λk=>k=p) W (W.setCells p 20 (psC last')):=by
 have c:GrowBut (λk=>k=p) W (W.setCells p 20 (psC last')):=growBut_setCells (Mu:=λk=>k=p) rfl _ _ _
 have a:=blk_setCells (psC last') 20 W _ h.pb (by rw[pgCl_length h.hs h.hl,psC_length hl];omega)
 rw[psC_length hl,pgC_last h.hs h.hl] at a
 exact⟨h.own c a h.hs hl,c⟩
theorem PaIs.stRange (h:PaIs W0 K p v st last under mk W):W.rangeAt p 0 (psC st):=λj x a=>by
 have hl:=(List.getElem?_eq_some_iff.1 a).1
 rw[psC_length h.hs] at hl
 rw[qC,h.pb.cell,pgC_state' h.hs hl]
 exact a
theorem PaIs.lastRange (h:PaIs W0 K p v st last under mk W):W.rangeAt p 20 (psC last):=λj x a=>by
 have hl:=(List.getElem?_eq_some_iff.1 a).1
 rw[psC_length h.hl] at hl
 rw[h.pb.cell]
 unfold pgC
 rw[List.getElem?_toArray,List.getElem?_append_right (by rw[psC_length h.hs];omega),psC_length h.hs,show 20+j - 19=j+1 by omega,List.getElem?_cons_succ,List.getElem?_append_left (by rw[psC_length h.hl];omega)]
 exact a
end
def MkCell (x:Value):Prop:=(∃n,x = .int .i64 n)∨(∃m,x = .map m)∨∃A n c,x = .slice A n c
def MkBlk (W:World)(k:Nat):Prop:=∃(T:TypeId) (cs:Array Value),(T=208∨T=999999)/\BlkIs W k T cs/\∀(j:Nat) (x:Value),cs[j]? = some x->MkCell x
section
variable {W W':World}{k o:Nat}
theorem MkBlk.cell (h:MkBlk W k){x:Value}(hc:W.cell? ⟨k,o,none⟩=some x):MkCell x:=by
 obtain⟨T,cs,_,a,h⟩:=h
 rw[a.cell] at hc
 exact h o x hc
theorem MkBlk.u8 (h:MkBlk W k){n:Int}(hc:W.cell? ⟨k,o,none⟩=some (.int .u8 n)):False:=by
 rcases h.cell hc with⟨m,e⟩|⟨m,e⟩|⟨_,_,_,e⟩<;>cases e
theorem MkBlk.u64 (h:MkBlk W k){n:Int}(hc:W.cell? ⟨k,o,none⟩=some (.int .u64 n)):False:=by
 rcases h.cell hc with⟨m,e⟩|⟨m,e⟩|⟨_,_,_,e⟩<;>cases e
theorem MkBlk.notTy (h:MkBlk W k){T:TypeId}{cs:Array Value}(c:BlkIs W k T cs)(a:T≠208/\T≠999999):False:=by
 obtain⟨f,cs',e,d,_⟩:=h
 rcases e with rfl|rfl
 ·exact BlkIs.ne_type c d a.1 rfl
 ·exact BlkIs.ne_type c d a.2 rfl
theorem MkBlk.notMap (h:MkBlk W k){e:Array MapEntry}{c:Nat}(d:MapIs W k e c):False:=by
 obtain⟨_,cs',_,a,_⟩:=h
 exact d.notBlk a rfl
theorem InB.keepM {Mu:Nat->Prop}{A:Option Addr}{c:Nat}{l:List UInt8}(h:InB W W.heap.size A c l)(n:GrowBut Mu W W')(m:∀k,Mu k->MkBlk W k):InB W' W'.heap.size A c l :=
 n.inB h (λg o e d f=>by
  obtain⟨q,o',a,_,hc⟩:=h.lies d
  rw[e] at a
  injection a with a
  injection a with e1 e2
  subst e1 e2
  exact(m g f).u8 (hc 0 d))
end
section
variable {W0 W W':World}{K:PgK}{p:Nat}{v v':PgV}{st last st' last':PgSt}{under under':Bool}{mk mk':Value}
theorem CaAt.keepM {Mu:Nat->Prop}(h:CaAt W0 K v W)(d:GrowBut Mu W W')(f:∀k,Mu k->MkBlk W k)(r:∀k,Mu k->W0.heap.size<=k):CaAt W0 K v W':=by
 have hf:=h.cs.fh
 refine⟨⟨⟨hf.up.trans (d.toBelow hf.up.size r),d.blk hf.fb (λe=>(f _ e).notTy hf.fb (by decide))⟩,?_,h.cs.nb⟩,h.ok,h.ro,h.cn⟩
 ·have hc:=h.cs.ca
  obtain⟨q,c,g,m,hs⟩:=hc.mp
  refine⟨d.blk hc.cb (λe=>(f _ e).notTy hc.cb (by decide)),⟨q,c,(d.block _ g.lt (λe=>(f _ e).notMap g)).trans g,m,hs⟩,λk v n => ?_,hc.inj,hc.iat⟩
  have a:=hc.rows k v n
  exact⟨d.blk a.blk (λe=>(f _ e).notTy a.blk (by decide)),a.key,a.bys.keepM d f,a.len,a.at0⟩
theorem PaIs.keepM {Mu:Nat->Prop}(h:PaIs W0 K p v st last under mk W)(c:GrowBut Mu W W')(a:∀k,Mu k->MkBlk W k)(d:∀k,Mu k->W0.heap.size<=k):PaIs W0 K p v st last under mk W' :=
 ⟨h.ca.keepM c a d,c.blk h.pb (λe=>(a _ e).notTy h.pb (by decide)),h.np,h.hs,h.hl⟩
theorem PgIs.keepS {Mu:Nat->Prop}{f:Int->Option Value}{Y:Int->Option (List UInt8)}(h:PgIs W f Y)(m:GrowBut Mu W W')(g:∀k,Mu k->SmBlk W k):PgIs W' f Y:=λk=>by
 rcases h k with h1|⟨A,c,y,h1,h2,e,a⟩
 ·exact .inl h1
 ·exact .inr ⟨A,c,y,h1,h2,e,a.keepC (by omega) m (λj d=>(g j d).ca)⟩
theorem PgIs.keepM {Mu:Nat->Prop}{f:Int->Option Value}{Y:Int->Option (List UInt8)}(h:PgIs W f Y)(g:GrowBut Mu W W')(e:∀k,Mu k->MkBlk W k):PgIs W' f Y:=λk=>by
 rcases h k with h1|⟨A,c,y,h1,h2,d,a⟩
 ·exact .inl h1
 ·exact .inr ⟨A,c,y,h1,h2,d,a.keepM g e⟩
theorem PMapAt.lt {M:Nat}{Y:Int->Option (List UInt8)}(h:PMapAt W M Y):M<W.heap.size:=by
 obtain⟨a,c,f,h1,_⟩:=h.has
 exact h1.lt
theorem PMapAt.keepS {Mu:Nat->Prop}{M:Nat}{Y:Int->Option (List UInt8)}(h:PMapAt W M Y)(a:GrowBut Mu W W')(e:∀k,Mu k->SmBlk W k)(g:¬ Mu M):PMapAt W' M Y:=by
 obtain⟨m,n,f,h1,h2,d,c⟩:=h.has
 exact⟨m,n,f,(a.block M h1.lt g).trans h1,h2,d,c.keepS a e⟩
theorem PMapAt.keepM {Mu:Nat->Prop}{M:Nat}{Y:Int->Option (List UInt8)}(h:PMapAt W M Y)(c:GrowBut Mu W W')(a:∀k,Mu k->MkBlk W k):PMapAt W' M Y:=by
 obtain⟨m,n,f,h1,h2,g,d⟩:=h.has
 exact⟨m,n,f,(c.block M h1.lt (λe=>(a M e).notMap h1)).trans h1,h2,g,d.keepM c a⟩
theorem PMapAt.grow {M:Nat}{Y:Int->Option (List UInt8)}(h:PMapAt W M Y)(hB:Below W.heap.size W W'):PMapAt W' M Y :=
 h.keepS (Mu:=λ_=>False) (GrowBut.below hB) (λ_ e=>e.elim) (λe=>e.elim)
structure MkT where
 s:PgSt
 m:Nat
 D:Int->Option (List UInt8)
def mkC (x:MkT):List Value:=psC x.s++[.map (some x.m)]
def mksC (ms:List MkT):List Value:=(ms.map mkC).flatten
theorem mksC_snoc (ms:List MkT)(x:MkT):mksC (ms++[x])=mksC ms++mkC x:=by simp[mksC]
theorem mkC_length {x:MkT}(h:x.s.roots.length=16):(mkC x).length=20:=by simp[mkC,psC_length h]
theorem mksC_length {ms:List MkT}(h:∀x∈ms,x.s.roots.length=16):(mksC ms).length=ms.length*20:=by
 induction ms with
 | nil=>rfl
 | cons x r ih =>
  have h1:=ih (λy a=>h y (by simp[a]))
  have h2:=mkC_length (h x (by simp))
  have e:mksC (x::r)=mkC x++mksC r:=rfl
  rw[e,zJ,h1,h2,zP]
  omega
theorem mksC_take {ms:List MkT}(h:∀x∈ms,x.s.roots.length=16){n:Nat}(hn:n<=ms.length):(mksC ms).take (n*20)=mksC (ms.take n):=by
 have e:mksC ms=mksC (ms.take n)++mksC (ms.drop n):=by
  unfold mksC
  rw[<-List.flatten_append,<-List.map_append,List.take_append_drop]
 have hl:(mksC (ms.take n)).length=n*20:=by
  rw[mksC_length (λx a=>h x (List.mem_of_mem_take a)),qG]
  congr 1
  omega
 rw[e,<-hl,List.take_left]
theorem mksC_elem {ms:List MkT}(h:∀x∈ms,x.s.roots.length=16)(j:Nat)(a:j<ms.length):((mksC ms).drop (j*20)).take 20=mkC ms[j]:=by
 have e:mksC ms=mksC (ms.take j)++(mkC ms[j] ++ mksC (ms.drop (j+1))):=by
  have c:mkC ms[j] ++ mksC (ms.drop (j+1))=mksC (ms.drop j):=by
   rw[List.drop_eq_getElem_cons a]
   rfl
  rw[c]
  unfold mksC
  rw[<-List.flatten_append,<-List.map_append,List.take_append_drop]
 have hl:(mksC (ms.take j)).length=j*20:=by
  rw[mksC_length (λx d=>h x (List.mem_of_mem_take d)),qG]
  congr 1
  omega
 rw[e,<-hl,List.drop_left]
 have f:=mkC_length (h ms[j] (qF a))
 rw[List.take_append_of_le_length (by omega),qI (by omega)]
theorem mkC_cell (x:MkT):∀u∈mkC x,MkCell u:=by
 intro u hu
 simp only[mkC,psC,qB,List.mem_cons,qK,List.mem_map,List.not_mem_nil,or_false] at hu
 rcases hu with rfl|rfl|rfl|⟨y,_,rfl⟩|rfl
 ·exact .inl ⟨_,rfl⟩
 ·exact .inl ⟨_,rfl⟩
 ·exact .inl ⟨_,rfl⟩
 ·exact .inl ⟨_,rfl⟩
 ·exact .inr (.inl ⟨_,rfl⟩)
theorem MkCell.one {u:Value}(h:MkCell u):u.oneCell'=true:=by
 rcases h with⟨n,rfl⟩|⟨m,rfl⟩|⟨_,_,_,rfl⟩<;>rfl
def mkMu (mk:Value)(k:Nat):Prop:=∃o n c,mk = .slice (some ⟨k,o,none⟩) n c
structure RowM (B:Nat)(W:World)(mk:Value)(ms:List MkT):Prop where
 has:∃A c,mk = .slice A ms.length c/\ms.length<=c/\c<=maxLen/\(A=none->c=0)/\∀a,A=some a->∃(g:Nat) (cur:List Value),a=⟨g,0,none⟩/\B<=g/\BlkIs W g 208 cur.toArray/\(∀u∈cur,MkCell u)/\c*20<=cur.length/\cur.take (ms.length*20)=mksC ms
 rts:∀x∈ms,x.s.roots.length=16
theorem RowM.nil (B:Nat)(W:World):RowM B W (.slice none 0 0) []:=⟨⟨none,0,rfl,zH _,by unfold maxLen;omega,λ_=>rfl,λa e=>by cases e⟩,λx c=>by cases c⟩
theorem RowM.blk {B:Nat}{ms:List MkT}(h:RowM B W mk ms):∀k,mkMu mk k->MkBlk W k/\B<=k:=λk ⟨o,n,c,e⟩=>by
 obtain⟨A,c',f,_,_,_,r⟩:=h.has
 rw[e] at f
 injection f with e1 _ _
 obtain⟨g,q,a,hB,m,hc,_⟩:=r _ e1.symm
 injection a with a
 subst a
 exact⟨⟨_,q.toArray,.inl rfl,m,λj x d=>hc x (by rw[List.getElem?_toArray] at d;exact List.mem_of_getElem? d)⟩,hB⟩
theorem RowM.keep {B:Nat}{ms:List MkT}{Mu:Nat->Prop}(h:RowM B W mk ms)(r:GrowBut Mu W W')(hn:∀k,mkMu mk k->¬ Mu k):RowM B W' mk ms:=by
 obtain⟨A,c,e,h1,h2,q,w⟩:=h.has
 refine⟨⟨A,c,e,h1,h2,q,λa d => ?_⟩,h.rts⟩
 obtain⟨g,n,f,hB,m,hc⟩:=w a d
 exact⟨g,n,f,hB,r.blk m (hn g ⟨0,ms.length,c,by rw[e,d,f]⟩),hc⟩
theorem RowM.grow {B:Nat}{ms:List MkT}(h:RowM B W mk ms)(hB:Below W.heap.size W W'):RowM B W' mk ms :=
 h.keep (Mu:=λ_=>False) (GrowBut.below hB) (λ_ _ e=>e)
structure MkOk (K:PgK)(D:Int->Option (List UInt8)):Prop where
 key:∀k y,D k=some y->0<=k/\k<(K.P:Int)
 cnt:(cntD K.P D:Int)<=K.room
structure MksIs (W0:World)(K:PgK)(v:PgV)(ms:List MkT)(mk:Value)(W:World):Prop where
 row:RowM W0.heap.size W mk ms
 maps:∀x∈ms,PMapAt W x.m x.D/\¬ K.mu v x.m/\MkOk K x.D
theorem MksIs.nil (W0:World)(K:PgK)(v:PgV)(W:World):MksIs W0 K v [] (.slice none 0 0) W:=⟨RowM.nil _ _,λx a=>by cases a⟩
theorem MksIs.grow {ms:List MkT}(h:MksIs W0 K v ms mk W)(hB:Below W.heap.size W W'):MksIs W0 K v ms mk W' :=
 ⟨h.row.grow hB,λx a=>⟨(h.maps x a).1.grow hB,(h.maps x a).2⟩⟩
theorem CaAt.notMk (h:CaAt W0 K v W){k:Nat}(e:MkBlk W k):¬ K.mu v k:=λd=>by
 obtain⟨T,cs,a,c,_⟩:=e
 rcases a with rfl|rfl
 all_goals exact CaIs.notTy h.cs.ca c (by decide) (by decide) d
theorem MksIs.own {ms:List MkT}(h:MksIs W0 K v ms mk W)(a:PaIs W0 K p v st last under mk' W)(d:GrowBut (λk=>k=p) W W'):MksIs W0 K v ms mk W' :=
 ⟨h.row.keep d (λk n e=>by subst e;exact(h.row.blk k n).1.notTy a.pb (by decide)),λx m=>by
  obtain⟨h1,h2,g⟩:=h.maps x m
  refine⟨h1.keepS d (λk e=>by subst e;exact a.sm) (λe => ?_),h2,g⟩
  obtain⟨r,q,f,c,_⟩:=h1.has
  rw[e] at c
  exact c.notBlk a.pb rfl⟩
theorem MksIs.take {ms:List MkT}(h:MksIs W0 K v ms mk W){A:Option Addr}{c n:Nat}(e:mk = .slice A ms.length c)(hn:n<=ms.length):MksIs W0 K v (ms.take n) (.slice A n n) W:=by
 obtain⟨F,c',m,h1,h2,z,E⟩:=h.row.has
 rw[e] at m
 injection m with e1 _ f
 subst e1 f
 have hl:(ms.take n).length=n:=by simp;omega
 refine⟨⟨⟨A,n,by rw[hl],by omega,by omega,λe=>by have:=z e;omega,λa w => ?_⟩,λx d=>h.row.rts x (List.mem_of_mem_take d)⟩,λx d=>h.maps x (List.mem_of_mem_take d)⟩
 obtain⟨g,r,f,hB,q,hc,G,C⟩:=E a w
 refine⟨g,r,f,hB,q,hc,by omega,?_⟩
 rw[hl,<-mksC_take h.row.rts hn,<-C,List.take_take]
 congr 1
 omega
end
def zMk:Value:=.agg (psC ⟨0,0,0,zR 16 0⟩++[Value.map none]).toArray
theorem elMk:ElT 102 208 20 160 zMk:=⟨Tryz.underlying102,by kernel_rfl,by kernel_rfl,by decide⟩
theorem zeroMk (n:Nat):∀u∈(Builtin.zeroCells zMk.cells n).toList,MkCell u:=by
 intro u hu
 have hc:∀x∈zMk.cells.toList,MkCell x:=by
  intro x c
  have e:zMk.cells.toList=zR 19 (.int .i64 0)++[.map none]:=by kernel_rfl
  rw[e,qK,List.mem_replicate,qN] at c
  rcases c with⟨_,rfl⟩|rfl
  ·exact .inl ⟨_,rfl⟩
  ·exact .inr (.inl ⟨_,rfl⟩)
 have d:zMk.cells.size=20:=by kernel_rfl
 unfold Builtin.zeroCells at hu
 rw[Array.toList_map,List.mem_map] at hu
 obtain⟨i,_,rfl⟩:=hu
 refine hc _ ?_
 have a:i % zMk.cells.size<zMk.cells.size:=Nat.mod_lt _ (by rw[d];omega)
 rw[getElem!_pos zMk.cells (i % zMk.cells.size) a]
 exact Array.mem_toList_iff.2 (Array.getElem_mem a)
section
variable {W:World}{mk:Value}{ms:List MkT}{B:Nat}
theorem RowM.append (E:TypeId)(h:RowM B W mk ms)(hn:ms.length<=1000)(hB:B<=W.heap.size)(x:MkT)(hx:x.s.roots.length=16)(q:Nat)(hq:BlkIs W q 208 (mkC x).toArray) :
  ∃mk' W',(Builtin.append_ #[102,102] E #[mk,.slice (some ⟨q,0,none⟩) 1 1]).run Tryz.prog W = .ok mk' W'/\RowM B W' mk' (ms++[x])/\GrowBut (mkMu mk) W W'/\∀k,mkMu mk' k->mkMu mk k∨W.heap.size<=k:=by
 obtain⟨i,M,hz,f,V⟩:=info_parts elMk.inf
 have m:(mkC x).length=1*i.size:=by rw[f,mkC_length hx]
 have F:(mksC ms).length=ms.length*i.size:=by rw[f,mksC_length h.rts]
 have H:∀j u,(mkC x)[j]? = some u->W.cell? (Addr.add ⟨q,0,none⟩ j)=some u:=λj u d=>by
  rw[Addr.add_lit,hq.cell]
  simpa using d
 have T:∀y∈ms++[x],y.s.roots.length=16:=λy w=>by
  rcases qK.1 w with w|w
  ·exact h.rts y w
  ·rw[qN] at w
   rw[w]
   exact hx
 have Z:∀(cs:Array Value),GrowBut (mkMu mk) W (W.drew.alloc (.cells cs 208)):=λcs=>GrowBut.below (((Below.refl _ W).drew).alloc (zH _) _)
 have X:∀(r:Nat) (z:Array Value),ms.length+1<=r->r<=maxLen->z=Builtin.zeroCells zMk.cells (r - (ms.length+1)) ->
   (∀u∈mksC ms,MkCell u)->RowM B (W.drew.alloc (.cells ((mksC ms).toArray++(mkC x).toArray++z) 208)) (.slice (some ⟨W.heap.size,0,none⟩) (ms.length+1) r) (ms++[x]):=λr z h1 h2 U I=>by
  refine⟨⟨some ⟨W.heap.size,0,none⟩,r,by simp,by simp;omega,h2,(λe=>by cases e),λa e => ?_⟩,T⟩
  injection e with e
  refine⟨W.heap.size,mksC ms++mkC x++z.toList,e.symm,hB,?_,λu hu => ?_,?_,?_⟩
  ·have:=BlkIs.new W.drew 208 ((mksC ms).toArray++(mkC x).toArray++z)
   have e2:(mksC ms++mkC x++z.toList).toArray=(mksC ms).toArray++(mkC x).toArray++z:=by simp
   rw[e2]
   exact this
  ·rcases qK.1 hu with hu|hu
   ·rcases qK.1 hu with hu|hu
    ·exact I u hu
    ·exact mkC_cell x u hu
   ·rw[U] at hu
    exact zeroMk _ u hu
  ·have hzl:z.toList.length=(r - (ms.length+1))*20:=by
    rw[qL,U,size_zeroCells]
    rfl
   rw[zJ,zJ,F,m,hzl,f]
   omega
  ·rw[mksC_snoc]
   have O:(ms++[x]).length*20=(mksC ms++mkC x).length:=by
    rw[show (mksC ms++mkC x).length=(mksC ms).length+(mkC x).length from zJ,F,m,f]
    simp
    omega
   rw[O,List.take_left]
 obtain⟨A,c,rfl,aJ,aD,aF,hA⟩:=h.has
 have aK:maxLen=9223372036854775807∨1001<=maxLen:=by unfold maxLen;omega
 cases A with
 | none =>
  obtain rfl:=aF rfl
  have h0:ms=[]:=zZ (by omega)
  subst h0
  have C:=run_append_nil (P:=Tryz.prog) W 102 E 208 i _ elMk.und M hz ⟨q,0,none⟩ 1 1 (mkC x) m H (by omega) (by omega) (by rw[V];omega)
  have S:=grownCap_ge W 1 0 208
  have L:=grownCap_le_maxLen W 1 0 208 (by unfold maxLen;omega)
  refine⟨_,_,C,?_,Z _,λk ⟨o,n,c,e⟩ => ?_⟩
  ·have:=X (grownCap W 1 0 208) _ S L rfl (λu hu=>by cases hu)
   simpa[mksC] using this
  ·injection e with e1 _ _
   injection e1 with e1
   injection e1 with e1
   exact .inr (by omega)
 | some a =>
  obtain⟨g,aC,rfl,aG,G,Q,aI,N⟩:=hA a rfl
  have I:∀u∈mksC ms,MkCell u:=λu hu=>Q u (by rw[<-N] at hu;exact List.mem_of_mem_take hu)
  have holds:∀j u,(mksC ms)[j]? = some u->W.cell? ⟨g,0+j,none⟩=some u:=λj u d=>by
   rw[G.cell,qC,List.getElem?_toArray]
   rw[<-N] at d
   have aE:=(List.getElem?_eq_some_iff.1 d).1
   rw[List.getElem?_take_of_lt (by simp at aE;omega)] at d
   exact d
  by_cases aH:ms.length+1<=c
  ·have aB:ms.length*20+(mkC x).length<=aC.length:=by rw[m,f];omega
   have aA:=blk_there (o:=ms.length*20) (n:=(mkC x).length) G (by simpa using aB)
   have C:=run_append_room_cells (P:=Tryz.prog) W 102 E 208 i elMk.und M g 0 ms.length c ⟨q,0,none⟩ 1 1 (mkC x) m H (λu hu=>(mkC_cell x u hu).one) aH
    (λj d=>by rw[f,qC];exact(aA j d).1) (λj d=>by rw[f,qC];exact(aA j d).2)
   rw[f,qC] at C
   refine⟨_,_,C,⟨⟨some ⟨g,0,none⟩,c,by simp,by simp;omega,aD,(λe=>by cases e),λa e => ?_⟩,T⟩,growBut_setCells ⟨0,_,_,rfl⟩ _ _ _,λk ⟨o,n,c',e⟩ => ?_⟩
   ·injection e with e
    refine⟨g,_,e.symm,aG,blk_setCells _ _ _ _ G aB,λu hu => ?_,?_,?_⟩
    ·rcases qK.1 hu with hu|hu
     ·rcases qK.1 hu with hu|hu
      ·exact Q u (List.mem_of_mem_take hu)
      ·exact mkC_cell x u hu
     ·exact Q u (List.mem_of_mem_drop hu)
    ·simp only[zJ,qG,qQ]
     omega
    ·rw[mksC_snoc,N]
     have O:(ms++[x]).length*20=(mksC ms++mkC x).length:=by
      rw[show (mksC ms++mkC x).length=(mksC ms).length+(mkC x).length from zJ,F,m,f]
      simp
      omega
     rw[O,List.take_left]
   ·left
    injection e with e1 _ _
    injection e1 with e1
    injection e1 with e1
    exact⟨0,ms.length,c,by rw[e1]⟩
  ·have C:=run_append_grow (P:=Tryz.prog) W 102 E 208 i _ elMk.und M hz ⟨g,0,none⟩ ms.length c (mksC ms) F (λj u d=>by rw[Addr.add_lit];exact holds j u d) ⟨q,0,none⟩ 1 1 (mkC x) m H (by omega) (by omega) (growslice_fits (by omega) (by rw[V];omega))
   have S:=grownCap_ge W (ms.length+1) c 208
   have L:=grownCap_le_maxLen W (ms.length+1) c 208 (by unfold maxLen;omega)
   refine⟨_,_,C,X _ _ S L rfl I,Z _,λk ⟨o,n,c,e⟩ => ?_⟩
   injection e with e1 _ _
   injection e1 with e1
   injection e1 with e1
   exact .inr (by omega)
end
def askE:List PAsk->Int
 | []=>0
 | x::xs=>if x.b then x.er else askE xs
theorem askE_at:∀(l:List PAsk) (k:Nat) (c:k<l.length),l[k].b=true->(∀j (a:j<l.length),j<k->l[j].b=false)->askE l=l[k].er
 | x::l,0,_,h,_=>by
  have h:x.b=true:=h
  show (if x.b then x.er else askE l)=x.er
  rw[h]
  rfl
 | x::l,k+1,c,h,hf=>by
  have d:x.b=false:=hf 0 (by simp) (by omega)
  show (if x.b then x.er else askE l)=_
  rw[d]
  exact askE_at l k (by simpa using c) h (λj a e=>hf (j+1) (by simpa using a) (by omega))
theorem askE_none:∀(l:List PAsk),(∀x∈l,x.b=false)->askE l=0
 | [],_=>rfl
 | x::l,h=>by
  show (if x.b then x.er else askE l)=0
  rw[h x (by simp)]
  exact askE_none l (λy a=>h y (by simp[a]))
theorem elPAsk:ElT 159 140 2 16 (.agg #[.nilFunc,.int .i64 0]):=⟨Tryz.underlying159,by kernel_rfl,by kernel_rfl,by decide⟩
theorem pasksC_length (l:List PAsk):(pasksC l).length=l.length*2:=by
 induction l with
 | nil=>rfl
 | cons x l ih =>
  have e:pasksC (x::l)=paskC x++pasksC l:=rfl
  rw[e,zJ,ih,zP]
  show 2+l.length*2=_
  omega
theorem pasksC_er {l:List PAsk}{k:Nat}(h:k<l.length):(pasksC l)[k*2+1]? = some (.int .i64 l[k].er):=by
 have e:=pasksC_elem l k h
 have a:(((pasksC l).drop (k*2)).take 2)[1]? = (paskC l[k])[1]?:=by rw[e]
 rw[List.getElem?_take,if_pos (by omega),List.getElem?_drop] at a
 exact a
theorem pasked_gives (w:World)(P:Option Addr)(n0 b u:Bool)(hn:AnsF w 69 #[.pointer P] n0)(hu:n0=false->∃p,P=some ⟨p,0,none⟩/\w.cell? ⟨p,39,none⟩=some (.bool b)/\p<w.heap.size)(A:Option Addr)(c:Nat)(xs:List PAsk)(h:InG w w.heap.size 2 A xs.length c (pasksC xs))(hl:xs.length<=900)(ha:n0=false->∀x∈xs,PAskIs w x) :
  Calls Tryz.prog 56 #[.pointer P,.bool u,.slice A xs.length c] w λe w'=>e = .returned (.int .i64 (if n0 then 1 else if b != u then 191 else askE xs))/\Below w.heap.size w w':=by
 obtain⟨W0,n⟩:∃W0,W0=(w.alloc (.cells #[.pointer P] 23)).alloc (.cells #[.bool u] 4):=⟨_,rfl⟩
 have m:Below w.heap.size w W0:=by rw[n];exact((Below.refl _ w).alloc (zH _) _).alloc (by simp) _
 have s0:W0.heap.size=w.heap.size+1+1:=by rw[n];simp
 have E:BlkIs W0 w.heap.size 23 #[.pointer P]:=by rw[n];exact(BlkIs.new w _ _).alloc _
 have U:BlkIs W0 (w.heap.size+1) 4 #[.bool u]:=by
  have:=BlkIs.new (w.alloc (.cells #[.pointer P] 23)) 4 #[.bool u]
  rw[World.size_alloc] at this
  rw[n]
  exact this
 obtain⟨own,f⟩:∃own:List PAsk,own=[⟨.func (.func 69) #[.pointer P] #[],1,n0⟩,⟨.func (.func 100) #[] #[.pointer (some ⟨w.heap.size,0,none⟩),.pointer (some ⟨w.heap.size+1,0,none⟩)],191,b != u⟩]:=⟨_,rfl⟩
 have hE:askE (own++xs)=if n0 then 1 else if b != u then 191 else askE xs:=by rw[f];rfl
 generalize (if n0 then 1 else if b != u then 191 else askE xs)=R at *
 have z:own.length=2:=by rw[f];rfl
 have aB:∀W,Below W0.heap.size W0 W->∀k (d:k<(own++xs).length),(∀j (hj:j<(own++xs).length),j<k->(own++xs)[j].b=false)->PAskIs W (own++xs)[k]:=λW hW k d hf=>by
  refine PAskIs.later ?_ hW
  match k,d,hf with
  | 0,d,_ =>
   have e:(own++xs)[0]=⟨.func (.func 69) #[.pointer P] #[],1,n0⟩:=by simp[f]
   rw[e]
   exact PAskIs.bound 1 (hn.later m)
  | 1,d,hf =>
   have e:(own++xs)[1]=⟨.func (.func 100) #[] #[.pointer (some ⟨w.heap.size,0,none⟩),.pointer (some ⟨w.heap.size+1,0,none⟩)],191,b != u⟩:=by simp[f]
   have O:(own++xs)[0].b=n0:=by simp[f]
   obtain⟨p,rfl,aI,hp⟩:=hu (O▸hf 0 (by simp[z];omega) (by omega))
   rw[e]
   exact PAskIs.two 191 (ansUnder ((E.cell 0).trans rfl) ((U.cell 0).trans rfl) ((m.cell (p:=⟨p,39,none⟩) hp).trans aI) E.lt U.lt (by omega))
  | k+2,d,hf =>
   have X:k<xs.length:=by simp[z] at d;omega
   have e:(own++xs)[k+2]=xs[k]:=by rw[List.getElem_append_right (by omega)];simp[z]
   have O:(own++xs)[0].b=n0:=by simp[f]
   rw[e]
   exact PAskIs.later (ha (O▸hf 0 (by simp[z];omega) (by omega)) _ (qF X)) m
 have aE:=(h.below m).more m.size
 have Z:pasksC (own++xs)=pasksC own++pasksC xs:=by simp[pasksC]
 have H:pasksC own=[.func (.func 69) #[.pointer P] #[],.int .i64 1,.func (.func 100) #[] #[.pointer (some ⟨w.heap.size,0,none⟩),.pointer (some ⟨w.heap.size+1,0,none⟩)],.int .i64 191]:=by rw[f];rfl
 have aA:∀v∈pasksC own++pasksC xs,v.oneCell'=true:=λv a=>by
  rcases qK.1 a with a|a
  ·rw[H] at a
   simp only[List.mem_cons,List.not_mem_nil,or_false] at a
   rcases a with rfl|rfl|rfl|rfl<;>rfl
  ·exact h.one v a
 obtain⟨W1,F⟩:∃W1,W1=W0.alloc (.cells #[.func (.func 69) #[.pointer P] #[],.int .i64 1,.func (.func 100) #[] #[.pointer (some ⟨w.heap.size,0,none⟩),.pointer (some ⟨w.heap.size+1,0,none⟩)],.int .i64 191] 140):=⟨_,rfl⟩
 have r:Below W0.heap.size W0 W1:=by rw[F];exact(Below.refl _ _).alloc (zH _) _
 have N:=(aE.below r).more r.size
 have I:W1.ownsRow W0.heap.size 140 2 (.slice (some ⟨w.heap.size+1+1,0,none⟩) 2 2) 2 (pasksC own):=by
  refine⟨by rw[H];rfl,.inr ⟨w.heap.size+1+1,2,#[.func (.func 69) #[.pointer P] #[],.int .i64 1,.func (.func 100) #[] #[.pointer (some ⟨w.heap.size,0,none⟩),.pointer (some ⟨w.heap.size+1,0,none⟩)],.int .i64 191],rfl,by omega,?_,zH _,by decide,rfl,by rw[H];rfl⟩⟩
  rw[F,<-s0]
  exact heap_alloc_new W0 _
 have aH:Hid (((w.alloc (.cells #[.pointer P] 23)).alloc (.cells #[.bool u] 4)).alloc (.cells #[.func (.func 69) #[.pointer P] #[],.int .i64 1,.func (.func 100) #[] #[.pointer (some ⟨w.heap.size,0,none⟩),.pointer (some ⟨w.heap.size+1,0,none⟩)],.int .i64 191] 140)=W1):=Lib.hid (by rw[F,n])
 have aL:W0.heap.size<=W1.heap.size:=r.size
 have aF:=Lib.hid aB
 have HE:=Lib.hid hE
 have aC:=Lib.hid Z
 have aK:=Lib.hid aA
 have aJ:(2+xs.length)*16<=140737488355328:=by omega
 have aG:2+xs.length<=maxLen:=by unfold maxLen;omega
 have k0:W0.cell? ⟨w.heap.size,0,none⟩=some (.pointer P):=(E.cell 0).trans rfl
 have aD:(own++xs).length=2+xs.length:=by rw[zJ,z]
 clear F aB hE Z H aA f hu hn ha h n E U aE
 go_enter Tryz.func56,Tryz.ntmps56
 go_wp2_with (first
  | (at_builtin;rw[aH.out];refine wp_appG rfl elPAsk (.tmp 14) (.tmp 15) rfl W0.heap.size (.slice (some ⟨w.heap.size+1+1,0,none⟩) 2 2) 2 (pasksC own) rfl I W1.heap.size A xs.length c (pasksC xs) rfl N aG aJ aL ?_;intro v2 W2 own2 S)
  )
 obtain⟨V,c2,rfl,L⟩:=ownG_in own2 aK.out
 have G:Below W0.heap.size W0 W2:=r.grown S r.size (λk d=>(World.ownsRow.lt I k d).1)
 have M:=pindex_gives W2 V c2 (own++xs) (by rw[aD,aC.out];exact L) (by omega) (λk d hf=>aF.out W2 G k d hf)
 have e2:(#[.slice V (own++xs).length c2,.func (.func 102) #[] #[]]:Array Value)=#[.slice V (2+xs.length) c2,.func (.func 102) #[] #[]]:=by rw[aD]
 rw[e2] at M
 clear e2
 have q:Below w.heap.size w W2:=m.trans (G.mono m.size)
 refine M.mono ?_
 rintro e W3 ⟨C,⟨k,d,rfl,hb,hf⟩|⟨rfl,hf⟩⟩
 ·have a:=askE_at (own++xs) k d hb hf
  rw[HE.out] at a
  obtain⟨g,o,rfl,hg,hr⟩:=L.lies (by omega)
  have aM:W3.cell? ⟨g,o+k*2+1,none⟩=some (.int .i64 (own++xs)[k].er):=by
   rw[Nat.add_assoc]
   exact(C.cell (p:=⟨g,o+(k*2+1),none⟩) hg).trans (hr (k*2+1) _ (by rw[<-aC.out];exact pasksC_er d))
  have Q:Below w.heap.size w W3:=q.trans (C.mono q.size)
  generalize (own++xs)[k].er=er at *
  have T:=Lib.hid a
  have X:k<2+xs.length:=by omega
  clear a hb hf hr L M own2 S I N C G q d
  go_wp2
  go_ret
  exact⟨by rw[T.out];rfl,Q⟩
 ·have a:=askE_none (own++xs) hf
  rw[HE.out] at a
  have Q:Below w.heap.size w W3:=q.trans (C.mono q.size)
  have T:=Lib.hid a
  clear a hf L M own2 S I N C G q
  go_wp2
  go_ret
  exact⟨by rw[T.out];rfl,Q⟩
def magicB:List UInt8:=[108,111,117,112,101,48,48,49]
def headX (fi ma:Int)(ro:List Int):List UInt8:=padB [magicB,numsB [fi,ma],numsB ro].flatten
def headPB (s:PgSt):List UInt8:=headX s.first s.many s.roots
theorem headX_fits {a c:Int}{ro:List Int}(h:ro.length=16):[magicB,numsB [a,c],numsB ro].flatten.length=80:=by
 have h1:=numsB_length [a,c]
 have h2:=numsB_length ro
 simp only[zP,qE] at h1
 simp only[List.flatten_cons,List.flatten_nil,zJ,qE,h1,h2,h]
 rfl
theorem headPB_length {s:PgSt}(h:s.roots.length=16):(headPB s).length=512:=padB_length (by rw[headX_fits h];omega)
theorem x_sliceR {ρ:Operand->Value}{o:Oper}{w:World}{x:Operand}{g:Nat}(a:o.op = .slice 98 x none none none)(h:ρ x = .pointer (some ⟨g,3,none⟩)):(execOp ρ o).run Tryz.prog w = .ok (.value (.slice (some ⟨g,3,none⟩) 16 16)) w:=by
 have ht:=Tryz.underlying98
 simp[execOp,a,h,go_sem,Result.andThen,ht]
section
variable {ρ:Operand->Value}{o:Oper}{W:World}
theorem x_magic (c:o.op = .buildSlice 87 8 #[(0,.const (.int .u8 108)),(1,.const (.int .u8 111)),(2,.const (.int .u8 117)),(3,.const (.int .u8 112)),(4,.const (.int .u8 101)),(5,.const (.int .u8 48)),(6,.const (.int .u8 48)),(7,.const (.int .u8 49))])
  (a:∀v,ρ (.const v)=v):(execOp ρ o).run Tryz.prog W = .ok (.value (.slice (some ⟨W.heap.size,0,none⟩) 8 8)) (W.alloc (.cells (magicB.map b8).toArray 5)):=by
 simp[execOp,c,go_sem,Result.andThen,magicB,b8,a]
theorem x_ints2 {x y:Operand}{a b:Int}(c:o.op = .buildSlice 41 2 #[(0,x),(1,y)])(h1:ρ x = .int .i64 a)(h2:ρ y = .int .i64 b):(execOp ρ o).run Tryz.prog W = .ok (.value (.slice (some ⟨W.heap.size,0,none⟩) 2 2)) (W.alloc (.cells #[.int .i64 a,.int .i64 b] 3)):=by
 simp[execOp,c,h1,h2,go_sem,Result.andThen]
theorem x_lists3 {x y z:Operand}{A B C:Option Addr}{n m k a b c:Nat}(e:o.op = .buildSlice 151 3 #[(0,x),(1,y),(2,z)])(h1:ρ x = .slice A n a)(h2:ρ y = .slice B m b)(d:ρ z = .slice C k c):(execOp ρ o).run Tryz.prog W = .ok (.value (.slice (some ⟨W.heap.size,0,none⟩) 3 3)) (W.alloc (.cells #[.slice A n a,.slice B m b,.slice C k c] 87)):=by
 simp[execOp,e,h1,h2,d,go_sem,Result.andThen]
end
theorem ints2_new (W:World)(a b:Int):IntsL [a,b] (.slice (some ⟨W.heap.size,0,none⟩) 2 2) (W.alloc (.cells #[.int .i64 a,.int .i64 b] 3)):=⟨W.heap.size,rfl,λj c=>by
 rw[(BlkIs.new W 3 #[.int .i64 a,.int .i64 b]).cell]
 match j,c with
 | 0,_=>rfl
 | 1,_=>rfl
 | j+2,c=>exact absurd c (by simp)⟩
theorem lists3_new {W:World}{A B C:Option Addr}{a b c:Nat}{d e f:List UInt8}(h1:InB W W.heap.size A a d)(h2:InB W W.heap.size B b e)(h:InB W W.heap.size C c f):Lists [d,e,f] (.slice (some ⟨W.heap.size,0,none⟩) 3 3) (W.alloc (.cells #[.slice A d.length a,.slice B e.length b,.slice C f.length c] 87)) :=
 Lists.new (w:=W) [((A,a),d),((B,b),e),((C,c),f)] (by
  intro x g
  simp only[List.mem_cons,List.not_mem_nil,or_false] at g
  rcases g with rfl|rfl|rfl
  ·exact h1
  ·exact h2
  ·exact h)
theorem IntsL.cells {xs:List Int}{v:Value}{W W':World}(h:IntsL xs v W)(hc:∀p v,W.cell? p=some v->W'.cell? p=some v):IntsL xs v W':=by
 obtain⟨b,e,h⟩:=h
 exact⟨b,e,λj a=>hc _ _ (h j a)⟩
theorem InB.cells {W W':World}{A:Option Addr}{c:Nat}{l:List UInt8}(h:InB W W.heap.size A c l)(hs:W'.heap.size=W.heap.size)(hc:∀p v,W.cell? p=some v->W'.cell? p=some v):InB W' W'.heap.size A c l:=by
 refine⟨h.le,h.max,h.nil,λd => ?_⟩
 obtain⟨g,o,e,f,h⟩:=h.lies d
 exact⟨g,o,e,by omega,λj a=>hc _ _ (h j a)⟩
theorem x_convM {W:World}{g n c:Nat}{cs:Array Value}(f:BlkIs W g 5 cs):∃W',(∀(ρ:Operand->Value) (o:Oper) {x:Operand},o.op = .convert 87 87 x->ρ x = .slice (some ⟨g,0,none⟩) n c->(execOp ρ o).run Tryz.prog W = .ok (.value (.slice (some ⟨g,0,none⟩) n c)) W')/\W'.heap.size=W.heap.size/\(∀p v,W.cell? p=some v->W'.cell? p=some v)/\GrowBut (λk=>k=g) W W':=by
 have hh:W.heap[g]? = some (.cells cs 5 (0,0)):=f
 have q:W.shape? g=some (5,cs.size):=by
  unfold World.shape?
  rw[hh]
 have ht:=Tryz.underlying87
 have m:=Tryz.underlying5
 refine⟨W.freeze ⟨g,cs.size,none⟩ 1,λρ o x h r => ?_,?_,?_,?_⟩
 ·simp[execOp,h,r,convert,run_underlying ht,run_underlying m,markStringish,q,Result.andThen,go_sem]
 ·simp[World.freeze]
 ·intro p v d
  have a:(W.freeze ⟨g,cs.size,none⟩ 1).heap[p.block]? = if p.block=g then some (.cells cs 5 (cs.size,cs.size+1)) else W.heap[p.block]?:=by
   by_cases e:p.block=g
   ·rw[if_pos e,e]
    simp[World.freeze,Array.getElem?_modify,hh]
   ·rw[if_neg e]
    simp[World.freeze,Array.getElem?_modify,Ne.symm e]
  by_cases e:p.block=g
  ·rw[if_pos e] at a
   rw[<-e] at hh
   simp only[World.cell?,hh] at d
   simp only[World.cell?,a]
   exact d
  ·rw[if_neg e] at a
   rw[World.cell?_of_block a]
   exact d
 ·refine⟨rfl,rfl,rfl,by simp[World.freeze],λk w hn => ?_⟩
  have hn:¬ g=k:=λe=>hn e.symm
  simp[World.freeze,Array.getElem?_modify,hn]
-- THE WALK
theorem phead_gives (w:World)(s:PgSt)(a0:s.roots.length=16):Calls Tryz.prog 63 #[.agg (psC s).toArray] w λe w'=>∃A c,e = .returned (.slice A 512 c)/\InB w' w'.heap.size A c (headPB s)/\Below w.heap.size w w':=by
 have aB:=headPB_length a0
 obtain⟨cs,aW⟩:∃cs,cs=(psC s).toArray:=⟨_,rfl⟩
 have bB:cs[1]? = some (.int .i64 s.first):=by rw[aW];rfl
 have a7:cs[2]? = some (.int .i64 s.many):=by rw[aW];rfl
 have a6:∀j (h:j<s.roots.length),cs[3+j]? = some (.int .i64 s.roots[j]):=λj h=>by
  rw[aW,show 3+j=j+1+1+1 by omega]
  unfold psC
  simp[h]
 rw[<-aW]
 unfold headPB at aB ⊢
 generalize s.first=E at *
 generalize s.many=F at *
 generalize s.roots=ro at *
 have aD:∀w u,Lists [magicB,numsB [E,F],numsB ro] u w->Calls Tryz.prog 83 #[u] w (GivesB w (headX E F ro)):=λw u hu=>ppage_gives hu (by simp) (by rw[headX_fits a0];omega)
 have N:Below w.heap.size w (w.alloc (.cells cs 100)):=(Below.refl _ w).alloc (zH _) _
 have aP:=BlkIs.new w 100 cs
 clear aW
 go_enter Tryz.func63,Tryz.ntmps63
 go_wp2_with fail
 generalize w.alloc (.cells cs 100)=G at *
 have q:∀W,Below G.heap.size G W->W.cell? ⟨w.heap.size,1,none⟩=some (.int .i64 E)/\W.cell? ⟨w.heap.size,2,none⟩=some (.int .i64 F):=λW hg=>⟨(hg.cell (p:=⟨w.heap.size,1,none⟩) aP.lt).trans (by rw[aP.cell];exact bB),(hg.cell (p:=⟨w.heap.size,2,none⟩) aP.lt).trans (by rw[aP.cell];exact a7)⟩
 have aC:∀w',Below G.heap.size G w'->Calls Tryz.prog 81 #[.slice (some ⟨w.heap.size,3,none⟩) 16 16] w' (GivesB w' (numsB ro)):=λw' hg=>by
  have:=pnumbers_gives w' (some ⟨w.heap.size,3,none⟩) 16 ro ⟨λ_=>⟨w.heap.size,3,rfl,λj hj=>(hg.cell (p:=⟨w.heap.size,3+j,none⟩) aP.lt).trans (by rw[aP.cell];exact a6 j hj)⟩⟩ (by omega)
  rw[a0] at this
  exact this
 have aQ:=q G.drew (Below.refl _ _).drew
 have a:Below G.heap.size G G.drew:=(Below.refl _ _).drew
 clear aP a6 bB a7
 refine RegF.start (λW:World=>W.cell? ⟨w.heap.size,1,none⟩=some (.int .i64 E)/\W.cell? ⟨w.heap.size,2,none⟩=some (.int .i64 F)) 99 (by kernel_rfl) ?_
 refine RegF.t0 2 (.pointer (some ⟨w.heap.size,1,none⟩)) rfl aQ (λW ⟨e0,e1⟩=>by go_simp) ?_
 simp only[zE,zD,zB,Act.put,zA,zG,zF]
 refine RegF.t0 3 (.int .i64 E) rfl aQ (λW ⟨e0,e1⟩=>by go_simp) ?_
 simp only[zE,zD,zB,Act.put,zA,zG,zF]
 refine RegF.t0 4 (.pointer (some ⟨w.heap.size,2,none⟩)) rfl aQ (λW ⟨e0,e1⟩=>by go_simp) ?_
 simp only[zE,zD,zB,Act.put,zA,zG,zF]
 refine RegF.t0 5 (.int .i64 F) rfl aQ (λW ⟨e0,e1⟩=>by go_simp) ?_
 simp only[zE,zD,zB,Act.put,zA,zG,zF]
 refine RegF.t0 8 (.pointer (some ⟨w.heap.size,3,none⟩)) rfl aQ (λW ⟨e0,e1⟩=>by go_simp) ?_
 simp only[zE,zD,zB,Act.put,zA,zG,zF]
 refine RegF.t0 9 (.slice (some ⟨w.heap.size,3,none⟩) 16 16) rfl aQ (λW ⟨e0,e1⟩=>by exact x_sliceR rfl rfl) ?_
 simp only[zE,zD,zB,Act.put,zA,zG,zF]
 clear aQ
 refine RegF.two 0 6 (by kernel_rfl) ?_ ?_
 ·skip
  obtain⟨W1,f⟩:∃W,W=G.drew.alloc (.cells (magicB.map b8).toArray 5):=⟨_,rfl⟩
  obtain⟨g0,aI⟩:∃g,g=G.drew.heap.size:=⟨_,rfl⟩
  have d:Below G.drew.heap.size G.drew W1:=by rw[f];exact(Below.refl _ _).alloc (zH _) _
  have x:BlkIs W1 g0 5 (magicB.map b8).toArray:=by rw[f,aI];exact BlkIs.new _ _ _
  have aA:G.heap.size<=g0:=by rw[aI];exact a.size
  replace a:=a.trans (d.mono a.size)
  refine RegF.opV (w':=W1) (.slice (some ⟨g0,0,none⟩) 8 8) rfl rfl (by rw[f,aI];exact x_magic rfl (λ_=>rfl)) ⟨λ_=>q _ a,?_⟩
  clear f aI d
  simp only[zE,zB,Act.put,zA,zG,zF]
  refine RegF.two 1 6 (by kernel_rfl) ?_ ?_
  ·skip
   obtain⟨W2,T,H,C,O⟩:=x_convM (W:=W1) (g:=g0) (n:=8) (c:=8) x
   have z:InB W2 W2.heap.size (some ⟨g0,0,none⟩) 8 magicB:=InB.cells (x.inB _ x.lt (by decide)) H C
   replace a:=a.trans (O.toBelow a.size (λk e=>by rw[e];exact aA))
   refine RegF.opV (w':=W2) (.slice (some ⟨g0,0,none⟩) 8 8) rfl rfl (T _ _ rfl rfl) ⟨λ_=>q _ a,?_⟩
   clear T H C O x aA
   simp only[zE,zD,zB,Act.put,zA,zG,zF]
   refine RegF.one 6 (by kernel_rfl) ?_
   obtain⟨W3,f⟩:∃W,W=W2.alloc (.cells #[.int .i64 E,.int .i64 F] 3):=⟨_,rfl⟩
   obtain⟨g9,aM⟩:∃g,g=W2.heap.size:=⟨_,rfl⟩
   have d:Below W2.heap.size W2 W3:=by rw[f];exact(Below.refl _ _).alloc (zH _) _
   have m:IntsL [E,F] (.slice (some ⟨g9,0,none⟩) 2 2) W3:=by rw[f,aM];exact ints2_new _ _ _
   replace z:=(z.below d).more d.size
   replace a:=a.trans (d.mono a.size)
   refine RegF.opV (w':=W3) (.slice (some ⟨g9,0,none⟩) 2 2) rfl rfl (by rw[f,aM];exact x_ints2 rfl rfl rfl) ⟨λ_=>q _ a,?_⟩
   clear f aM d
   simp only[zE,zD,zB,Act.put,zA,zG,zF]
   refine RegF.one 7 (by kernel_rfl) ?_
   refine RegF.opC 81 #[.tmp 9] #[41] rfl rfl rfl (enters_of Tryz.func81 (by kernel_rfl) rfl) #[.slice (some ⟨g9,0,none⟩) 2 2] (by simp only[zK,zL,zN];rfl) ((IntsL.gives m (by simp)).mono ?_)
   rintro e W4 ⟨aR,rfl,aJ,d⟩
   obtain⟨aK,aL,rfl,r⟩:=aJ.inB
   replace z:=(z.below d).more d.size
   replace m:=ints_stable _ _ _ _ m d
   replace a:=a.trans (d.mono a.size)
   refine⟨_,rfl,λ_=>q _ a,?_⟩
   clear d aJ
   simp only[zE,zD,zB,Act.put,zA,zG,zF]
   refine RegF.one 10 (by kernel_rfl) ?_
   refine RegF.opC 81 #[.tmp 12] #[41] rfl rfl rfl (enters_of Tryz.func81 (by kernel_rfl) rfl) #[.slice (some ⟨w.heap.size,3,none⟩) 16 16] (by simp only[zK,zL,zN];rfl) ((aC _ a).mono ?_)
   rintro e W5 ⟨aN,rfl,Z,d⟩
   obtain⟨aF,aH,rfl,M⟩:=Z.inB
   replace z:=(z.below d).more d.size
   replace m:=ints_stable _ _ _ _ m d
   replace r:=(r.below d).more d.size
   replace a:=a.trans (d.mono a.size)
   refine⟨_,rfl,λ_=>q _ a,?_⟩
   clear d Z
   simp only[zE,zD,zB,Act.put,zA,zG,zF]
   obtain⟨W6,f⟩:∃W,W=W5.alloc (.cells #[.slice (some ⟨g0,0,none⟩) 8 8,.slice aK (numsB [E,F]).length aL,.slice aF (numsB ro).length aH] 87):=⟨_,rfl⟩
   obtain⟨I,L⟩:∃g,g=W5.heap.size:=⟨_,rfl⟩
   have S:Lists [magicB,numsB [E,F],numsB ro] (.slice (some ⟨I,0,none⟩) 3 3) W6:=by rw[f,L];exact lists3_new z r M
   replace a:Below G.heap.size G W6:=by rw[f];exact a.alloc a.size _
   refine RegF.one 11 (by kernel_rfl) (RegF.opV (w':=W6) (.slice (some ⟨I,0,none⟩) 3 3) rfl rfl (by rw[f,L];exact x_lists3 rfl rfl rfl rfl) ⟨λ_=>q _ a,?_⟩)
   simp only[zE,zD,zB,Act.put,zA,zG,zF]
   refine RegF.one 12 (by kernel_rfl) ?_
   refine RegF.opC 83 #[.tmp 14] #[151] rfl rfl rfl (enters_of Tryz.func83 (by kernel_rfl) rfl) #[.slice (some ⟨I,0,none⟩) 3 3] (by simp only[zK,zL,zN];rfl) ((aD _ _ S).mono ?_)
   rintro e W7 ⟨aO,rfl,V,d⟩
   obtain⟨X,U,rfl,Q⟩:=V.inB
   replace a:=a.trans (d.mono a.size)
   refine⟨_,rfl,λ_=>q _ a,?_⟩
   simp only[zE,zD,zB,Act.put,zA,zG,zF]
   refine RegF.one 13 (by kernel_rfl) (RegF.opV (w':=W7) (.slice X (headX E F ro).length U) rfl rfl (by go_simp) ⟨λ_=>q _ a,RegF.done (by kernel_rfl) ?_⟩)
   simp only[zE,zD,zB,Act.put,zA,zG,zF]
   have aE:=Lib.hid (N.trans (a.mono N.size))
   have aG:=Lib.hid Q
   rw[aB]
   clear q aC aD a z m r M S f L V d Q N aB
   go_wp2
   go_ret
   exact⟨X,U,rfl,aG.out,aE.out⟩
  ·skip
   obtain⟨W8,f⟩:∃W,W=W1.alloc (.cells #[.int .i64 E,.int .i64 F] 3):=⟨_,rfl⟩
   obtain⟨g9,aM⟩:∃g,g=W1.heap.size:=⟨_,rfl⟩
   have d:Below W1.heap.size W1 W8:=by rw[f];exact(Below.refl _ _).alloc (zH _) _
   have m:IntsL [E,F] (.slice (some ⟨g9,0,none⟩) 2 2) W8:=by rw[f,aM];exact ints2_new _ _ _
   replace x:=x.below d x.lt
   replace a:=a.trans (d.mono a.size)
   refine RegF.opV (w':=W8) (.slice (some ⟨g9,0,none⟩) 2 2) rfl rfl (by rw[f,aM];exact x_ints2 rfl rfl rfl) ⟨λ_=>q _ a,?_⟩
   clear f aM d
   simp only[zE,zD,zB,Act.put,zA,zG,zF]
   refine RegF.two 1 7 (by kernel_rfl) ?_ ?_
   ·skip
    obtain⟨W9,T,H,C,O⟩:=x_convM (W:=W8) (g:=g0) (n:=8) (c:=8) x
    have z:InB W9 W9.heap.size (some ⟨g0,0,none⟩) 8 magicB:=InB.cells (x.inB _ x.lt (by decide)) H C
    replace m:=m.cells C
    replace a:=a.trans (O.toBelow a.size (λk e=>by rw[e];exact aA))
    refine RegF.opV (w':=W9) (.slice (some ⟨g0,0,none⟩) 8 8) rfl rfl (T _ _ rfl rfl) ⟨λ_=>q _ a,?_⟩
    clear T H C O x aA
    simp only[zE,zD,zB,Act.put,zA,zG,zF]
    refine RegF.one 7 (by kernel_rfl) ?_
    refine RegF.opC 81 #[.tmp 9] #[41] rfl rfl rfl (enters_of Tryz.func81 (by kernel_rfl) rfl) #[.slice (some ⟨g9,0,none⟩) 2 2] (by simp only[zK,zL,zN];rfl) ((IntsL.gives m (by simp)).mono ?_)
    rintro e bQ ⟨aR,rfl,aJ,d⟩
    obtain⟨aK,aL,rfl,r⟩:=aJ.inB
    replace z:=(z.below d).more d.size
    replace m:=ints_stable _ _ _ _ m d
    replace a:=a.trans (d.mono a.size)
    refine⟨_,rfl,λ_=>q _ a,?_⟩
    clear d aJ
    simp only[zE,zD,zB,Act.put,zA,zG,zF]
    refine RegF.one 10 (by kernel_rfl) ?_
    refine RegF.opC 81 #[.tmp 12] #[41] rfl rfl rfl (enters_of Tryz.func81 (by kernel_rfl) rfl) #[.slice (some ⟨w.heap.size,3,none⟩) 16 16] (by simp only[zK,zL,zN];rfl) ((aC _ a).mono ?_)
    rintro e a9 ⟨aN,rfl,Z,d⟩
    obtain⟨aF,aH,rfl,M⟩:=Z.inB
    replace z:=(z.below d).more d.size
    replace m:=ints_stable _ _ _ _ m d
    replace r:=(r.below d).more d.size
    replace a:=a.trans (d.mono a.size)
    refine⟨_,rfl,λ_=>q _ a,?_⟩
    clear d Z
    simp only[zE,zD,zB,Act.put,zA,zG,zF]
    obtain⟨W12,f⟩:∃W,W=a9.alloc (.cells #[.slice (some ⟨g0,0,none⟩) 8 8,.slice aK (numsB [E,F]).length aL,.slice aF (numsB ro).length aH] 87):=⟨_,rfl⟩
    obtain⟨I,L⟩:∃g,g=a9.heap.size:=⟨_,rfl⟩
    have S:Lists [magicB,numsB [E,F],numsB ro] (.slice (some ⟨I,0,none⟩) 3 3) W12:=by rw[f,L];exact lists3_new z r M
    replace a:Below G.heap.size G W12:=by rw[f];exact a.alloc a.size _
    refine RegF.one 11 (by kernel_rfl) (RegF.opV (w':=W12) (.slice (some ⟨I,0,none⟩) 3 3) rfl rfl (by rw[f,L];exact x_lists3 rfl rfl rfl rfl) ⟨λ_=>q _ a,?_⟩)
    simp only[zE,zD,zB,Act.put,zA,zG,zF]
    refine RegF.one 12 (by kernel_rfl) ?_
    refine RegF.opC 83 #[.tmp 14] #[151] rfl rfl rfl (enters_of Tryz.func83 (by kernel_rfl) rfl) #[.slice (some ⟨I,0,none⟩) 3 3] (by simp only[zK,zL,zN];rfl) ((aD _ _ S).mono ?_)
    rintro e bN ⟨aO,rfl,V,d⟩
    obtain⟨X,U,rfl,Q⟩:=V.inB
    replace a:=a.trans (d.mono a.size)
    refine⟨_,rfl,λ_=>q _ a,?_⟩
    simp only[zE,zD,zB,Act.put,zA,zG,zF]
    refine RegF.one 13 (by kernel_rfl) (RegF.opV (w':=bN) (.slice X (headX E F ro).length U) rfl rfl (by go_simp) ⟨λ_=>q _ a,RegF.done (by kernel_rfl) ?_⟩)
    simp only[zE,zD,zB,Act.put,zA,zG,zF]
    have aE:=Lib.hid (N.trans (a.mono N.size))
    have aG:=Lib.hid Q
    rw[aB]
    clear q aC aD a z m r M S f L V d Q N aB
    go_wp2
    go_ret
    exact⟨X,U,rfl,aG.out,aE.out⟩
   ·skip
    refine RegF.opC 81 #[.tmp 9] #[41] rfl rfl rfl (enters_of Tryz.func81 (by kernel_rfl) rfl) #[.slice (some ⟨g9,0,none⟩) 2 2] (by simp only[zK,zL,zN];rfl) ((IntsL.gives m (by simp)).mono ?_)
    rintro e bP ⟨aR,rfl,aJ,d⟩
    obtain⟨aK,aL,rfl,r⟩:=aJ.inB
    replace x:=x.below d x.lt
    replace m:=ints_stable _ _ _ _ m d
    replace a:=a.trans (d.mono a.size)
    refine⟨_,rfl,λ_=>q _ a,?_⟩
    clear d aJ
    simp only[zE,zD,zB,Act.put,zA,zG,zF]
    refine RegF.two 1 10 (by kernel_rfl) ?_ ?_
    ·skip
     obtain⟨a3,T,H,C,O⟩:=x_convM (W:=bP) (g:=g0) (n:=8) (c:=8) x
     have z:InB a3 a3.heap.size (some ⟨g0,0,none⟩) 8 magicB:=InB.cells (x.inB _ x.lt (by decide)) H C
     replace m:=m.cells C
     replace r:=r.cells H C
     replace a:=a.trans (O.toBelow a.size (λk e=>by rw[e];exact aA))
     refine RegF.opV (w':=a3) (.slice (some ⟨g0,0,none⟩) 8 8) rfl rfl (T _ _ rfl rfl) ⟨λ_=>q _ a,?_⟩
     clear T H C O x aA
     simp only[zE,zD,zB,Act.put,zA,zG,zF]
     refine RegF.one 10 (by kernel_rfl) ?_
     refine RegF.opC 81 #[.tmp 12] #[41] rfl rfl rfl (enters_of Tryz.func81 (by kernel_rfl) rfl) #[.slice (some ⟨w.heap.size,3,none⟩) 16 16] (by simp only[zK,zL,zN];rfl) ((aC _ a).mono ?_)
     rintro e a5 ⟨aN,rfl,Z,d⟩
     obtain⟨aF,aH,rfl,M⟩:=Z.inB
     replace z:=(z.below d).more d.size
     replace m:=ints_stable _ _ _ _ m d
     replace r:=(r.below d).more d.size
     replace a:=a.trans (d.mono a.size)
     refine⟨_,rfl,λ_=>q _ a,?_⟩
     clear d Z
     simp only[zE,zD,zB,Act.put,zA,zG,zF]
     obtain⟨W17,f⟩:∃W,W=a5.alloc (.cells #[.slice (some ⟨g0,0,none⟩) 8 8,.slice aK (numsB [E,F]).length aL,.slice aF (numsB ro).length aH] 87):=⟨_,rfl⟩
     obtain⟨I,L⟩:∃g,g=a5.heap.size:=⟨_,rfl⟩
     have S:Lists [magicB,numsB [E,F],numsB ro] (.slice (some ⟨I,0,none⟩) 3 3) W17:=by rw[f,L];exact lists3_new z r M
     replace a:Below G.heap.size G W17:=by rw[f];exact a.alloc a.size _
     refine RegF.one 11 (by kernel_rfl) (RegF.opV (w':=W17) (.slice (some ⟨I,0,none⟩) 3 3) rfl rfl (by rw[f,L];exact x_lists3 rfl rfl rfl rfl) ⟨λ_=>q _ a,?_⟩)
     simp only[zE,zD,zB,Act.put,zA,zG,zF]
     refine RegF.one 12 (by kernel_rfl) ?_
     refine RegF.opC 83 #[.tmp 14] #[151] rfl rfl rfl (enters_of Tryz.func83 (by kernel_rfl) rfl) #[.slice (some ⟨I,0,none⟩) 3 3] (by simp only[zK,zL,zN];rfl) ((aD _ _ S).mono ?_)
     rintro e bC ⟨aO,rfl,V,d⟩
     obtain⟨X,U,rfl,Q⟩:=V.inB
     replace a:=a.trans (d.mono a.size)
     refine⟨_,rfl,λ_=>q _ a,?_⟩
     simp only[zE,zD,zB,Act.put,zA,zG,zF]
     refine RegF.one 13 (by kernel_rfl) (RegF.opV (w':=bC) (.slice X (headX E F ro).length U) rfl rfl (by go_simp) ⟨λ_=>q _ a,RegF.done (by kernel_rfl) ?_⟩)
     simp only[zE,zD,zB,Act.put,zA,zG,zF]
     have aE:=Lib.hid (N.trans (a.mono N.size))
     have aG:=Lib.hid Q
     rw[aB]
     clear q aC aD a z m r M S f L V d Q N aB
     go_wp2
     go_ret
     exact⟨X,U,rfl,aG.out,aE.out⟩
    ·skip
     refine RegF.opC 81 #[.tmp 12] #[41] rfl rfl rfl (enters_of Tryz.func81 (by kernel_rfl) rfl) #[.slice (some ⟨w.heap.size,3,none⟩) 16 16] (by simp only[zK,zL,zN];rfl) ((aC _ a).mono ?_)
     rintro e bK ⟨aN,rfl,Z,d⟩
     obtain⟨aF,aH,rfl,M⟩:=Z.inB
     replace x:=x.below d x.lt
     replace m:=ints_stable _ _ _ _ m d
     replace r:=(r.below d).more d.size
     replace a:=a.trans (d.mono a.size)
     refine⟨_,rfl,λ_=>q _ a,?_⟩
     clear d Z
     simp only[zE,zD,zB,Act.put,zA,zG,zF]
     refine RegF.one 1 (by kernel_rfl) ?_
     obtain⟨aV,T,H,C,O⟩:=x_convM (W:=bK) (g:=g0) (n:=8) (c:=8) x
     have z:InB aV aV.heap.size (some ⟨g0,0,none⟩) 8 magicB:=InB.cells (x.inB _ x.lt (by decide)) H C
     replace m:=m.cells C
     replace r:=r.cells H C
     replace M:=M.cells H C
     replace a:=a.trans (O.toBelow a.size (λk e=>by rw[e];exact aA))
     refine RegF.opV (w':=aV) (.slice (some ⟨g0,0,none⟩) 8 8) rfl rfl (T _ _ rfl rfl) ⟨λ_=>q _ a,?_⟩
     clear T H C O x aA
     simp only[zE,zD,zB,Act.put,zA,zG,zF]
     obtain⟨W21,f⟩:∃W,W=aV.alloc (.cells #[.slice (some ⟨g0,0,none⟩) 8 8,.slice aK (numsB [E,F]).length aL,.slice aF (numsB ro).length aH] 87):=⟨_,rfl⟩
     obtain⟨I,L⟩:∃g,g=aV.heap.size:=⟨_,rfl⟩
     have S:Lists [magicB,numsB [E,F],numsB ro] (.slice (some ⟨I,0,none⟩) 3 3) W21:=by rw[f,L];exact lists3_new z r M
     replace a:Below G.heap.size G W21:=by rw[f];exact a.alloc a.size _
     refine RegF.one 11 (by kernel_rfl) (RegF.opV (w':=W21) (.slice (some ⟨I,0,none⟩) 3 3) rfl rfl (by rw[f,L];exact x_lists3 rfl rfl rfl rfl) ⟨λ_=>q _ a,?_⟩)
     simp only[zE,zD,zB,Act.put,zA,zG,zF]
     refine RegF.one 12 (by kernel_rfl) ?_
     refine RegF.opC 83 #[.tmp 14] #[151] rfl rfl rfl (enters_of Tryz.func83 (by kernel_rfl) rfl) #[.slice (some ⟨I,0,none⟩) 3 3] (by simp only[zK,zL,zN];rfl) ((aD _ _ S).mono ?_)
     rintro e bG ⟨aO,rfl,V,d⟩
     obtain⟨X,U,rfl,Q⟩:=V.inB
     replace a:=a.trans (d.mono a.size)
     refine⟨_,rfl,λ_=>q _ a,?_⟩
     simp only[zE,zD,zB,Act.put,zA,zG,zF]
     refine RegF.one 13 (by kernel_rfl) (RegF.opV (w':=bG) (.slice X (headX E F ro).length U) rfl rfl (by go_simp) ⟨λ_=>q _ a,RegF.done (by kernel_rfl) ?_⟩)
     simp only[zE,zD,zB,Act.put,zA,zG,zF]
     have aE:=Lib.hid (N.trans (a.mono N.size))
     have aG:=Lib.hid Q
     rw[aB]
     clear q aC aD a z m r M S f L V d Q N aB
     go_wp2
     go_ret
     exact⟨X,U,rfl,aG.out,aE.out⟩
 ·skip
  obtain⟨W23,f⟩:∃W,W=G.drew.alloc (.cells #[.int .i64 E,.int .i64 F] 3):=⟨_,rfl⟩
  obtain⟨g9,aM⟩:∃g,g=G.drew.heap.size:=⟨_,rfl⟩
  have d:Below G.drew.heap.size G.drew W23:=by rw[f];exact(Below.refl _ _).alloc (zH _) _
  have m:IntsL [E,F] (.slice (some ⟨g9,0,none⟩) 2 2) W23:=by rw[f,aM];exact ints2_new _ _ _
  replace a:=a.trans (d.mono a.size)
  refine RegF.opV (w':=W23) (.slice (some ⟨g9,0,none⟩) 2 2) rfl rfl (by rw[f,aM];exact x_ints2 rfl rfl rfl) ⟨λ_=>q _ a,?_⟩
  clear f aM d
  simp only[zE,zD,zB,Act.put,zA,zG,zF]
  refine RegF.two 0 7 (by kernel_rfl) ?_ ?_
  ·skip
   obtain⟨W24,f⟩:∃W,W=W23.alloc (.cells (magicB.map b8).toArray 5):=⟨_,rfl⟩
   obtain⟨g0,aI⟩:∃g,g=W23.heap.size:=⟨_,rfl⟩
   have d:Below W23.heap.size W23 W24:=by rw[f];exact(Below.refl _ _).alloc (zH _) _
   have x:BlkIs W24 g0 5 (magicB.map b8).toArray:=by rw[f,aI];exact BlkIs.new _ _ _
   have aA:G.heap.size<=g0:=by rw[aI];exact a.size
   replace m:=ints_stable _ _ _ _ m d
   replace a:=a.trans (d.mono a.size)
   refine RegF.opV (w':=W24) (.slice (some ⟨g0,0,none⟩) 8 8) rfl rfl (by rw[f,aI];exact x_magic rfl (λ_=>rfl)) ⟨λ_=>q _ a,?_⟩
   clear f aI d
   simp only[zE,zB,Act.put,zA,zG,zF]
   refine RegF.two 1 7 (by kernel_rfl) ?_ ?_
   ·skip
    obtain⟨aZ,T,H,C,O⟩:=x_convM (W:=W24) (g:=g0) (n:=8) (c:=8) x
    have z:InB aZ aZ.heap.size (some ⟨g0,0,none⟩) 8 magicB:=InB.cells (x.inB _ x.lt (by decide)) H C
    replace m:=m.cells C
    replace a:=a.trans (O.toBelow a.size (λk e=>by rw[e];exact aA))
    refine RegF.opV (w':=aZ) (.slice (some ⟨g0,0,none⟩) 8 8) rfl rfl (T _ _ rfl rfl) ⟨λ_=>q _ a,?_⟩
    clear T H C O x aA
    simp only[zE,zD,zB,Act.put,zA,zG,zF]
    refine RegF.one 7 (by kernel_rfl) ?_
    refine RegF.opC 81 #[.tmp 9] #[41] rfl rfl rfl (enters_of Tryz.func81 (by kernel_rfl) rfl) #[.slice (some ⟨g9,0,none⟩) 2 2] (by simp only[zK,zL,zN];rfl) ((IntsL.gives m (by simp)).mono ?_)
    rintro e bR ⟨aR,rfl,aJ,d⟩
    obtain⟨aK,aL,rfl,r⟩:=aJ.inB
    replace z:=(z.below d).more d.size
    replace m:=ints_stable _ _ _ _ m d
    replace a:=a.trans (d.mono a.size)
    refine⟨_,rfl,λ_=>q _ a,?_⟩
    clear d aJ
    simp only[zE,zD,zB,Act.put,zA,zG,zF]
    refine RegF.one 10 (by kernel_rfl) ?_
    refine RegF.opC 81 #[.tmp 12] #[41] rfl rfl rfl (enters_of Tryz.func81 (by kernel_rfl) rfl) #[.slice (some ⟨w.heap.size,3,none⟩) 16 16] (by simp only[zK,zL,zN];rfl) ((aC _ a).mono ?_)
    rintro e a4 ⟨aN,rfl,Z,d⟩
    obtain⟨aF,aH,rfl,M⟩:=Z.inB
    replace z:=(z.below d).more d.size
    replace m:=ints_stable _ _ _ _ m d
    replace r:=(r.below d).more d.size
    replace a:=a.trans (d.mono a.size)
    refine⟨_,rfl,λ_=>q _ a,?_⟩
    clear d Z
    simp only[zE,zD,zB,Act.put,zA,zG,zF]
    obtain⟨W28,f⟩:∃W,W=a4.alloc (.cells #[.slice (some ⟨g0,0,none⟩) 8 8,.slice aK (numsB [E,F]).length aL,.slice aF (numsB ro).length aH] 87):=⟨_,rfl⟩
    obtain⟨I,L⟩:∃g,g=a4.heap.size:=⟨_,rfl⟩
    have S:Lists [magicB,numsB [E,F],numsB ro] (.slice (some ⟨I,0,none⟩) 3 3) W28:=by rw[f,L];exact lists3_new z r M
    replace a:Below G.heap.size G W28:=by rw[f];exact a.alloc a.size _
    refine RegF.one 11 (by kernel_rfl) (RegF.opV (w':=W28) (.slice (some ⟨I,0,none⟩) 3 3) rfl rfl (by rw[f,L];exact x_lists3 rfl rfl rfl rfl) ⟨λ_=>q _ a,?_⟩)
    simp only[zE,zD,zB,Act.put,zA,zG,zF]
    refine RegF.one 12 (by kernel_rfl) ?_
    refine RegF.opC 83 #[.tmp 14] #[151] rfl rfl rfl (enters_of Tryz.func83 (by kernel_rfl) rfl) #[.slice (some ⟨I,0,none⟩) 3 3] (by simp only[zK,zL,zN];rfl) ((aD _ _ S).mono ?_)
    rintro e bL ⟨aO,rfl,V,d⟩
    obtain⟨X,U,rfl,Q⟩:=V.inB
    replace a:=a.trans (d.mono a.size)
    refine⟨_,rfl,λ_=>q _ a,?_⟩
    simp only[zE,zD,zB,Act.put,zA,zG,zF]
    refine RegF.one 13 (by kernel_rfl) (RegF.opV (w':=bL) (.slice X (headX E F ro).length U) rfl rfl (by go_simp) ⟨λ_=>q _ a,RegF.done (by kernel_rfl) ?_⟩)
    simp only[zE,zD,zB,Act.put,zA,zG,zF]
    have aE:=Lib.hid (N.trans (a.mono N.size))
    have aG:=Lib.hid Q
    rw[aB]
    clear q aC aD a z m r M S f L V d Q N aB
    go_wp2
    go_ret
    exact⟨X,U,rfl,aG.out,aE.out⟩
   ·skip
    refine RegF.opC 81 #[.tmp 9] #[41] rfl rfl rfl (enters_of Tryz.func81 (by kernel_rfl) rfl) #[.slice (some ⟨g9,0,none⟩) 2 2] (by simp only[zK,zL,zN];rfl) ((IntsL.gives m (by simp)).mono ?_)
    rintro e bD ⟨aR,rfl,aJ,d⟩
    obtain⟨aK,aL,rfl,r⟩:=aJ.inB
    replace x:=x.below d x.lt
    replace m:=ints_stable _ _ _ _ m d
    replace a:=a.trans (d.mono a.size)
    refine⟨_,rfl,λ_=>q _ a,?_⟩
    clear d aJ
    simp only[zE,zD,zB,Act.put,zA,zG,zF]
    refine RegF.two 1 10 (by kernel_rfl) ?_ ?_
    ·skip
     obtain⟨a1,T,H,C,O⟩:=x_convM (W:=bD) (g:=g0) (n:=8) (c:=8) x
     have z:InB a1 a1.heap.size (some ⟨g0,0,none⟩) 8 magicB:=InB.cells (x.inB _ x.lt (by decide)) H C
     replace m:=m.cells C
     replace r:=r.cells H C
     replace a:=a.trans (O.toBelow a.size (λk e=>by rw[e];exact aA))
     refine RegF.opV (w':=a1) (.slice (some ⟨g0,0,none⟩) 8 8) rfl rfl (T _ _ rfl rfl) ⟨λ_=>q _ a,?_⟩
     clear T H C O x aA
     simp only[zE,zD,zB,Act.put,zA,zG,zF]
     refine RegF.one 10 (by kernel_rfl) ?_
     refine RegF.opC 81 #[.tmp 12] #[41] rfl rfl rfl (enters_of Tryz.func81 (by kernel_rfl) rfl) #[.slice (some ⟨w.heap.size,3,none⟩) 16 16] (by simp only[zK,zL,zN];rfl) ((aC _ a).mono ?_)
     rintro e a8 ⟨aN,rfl,Z,d⟩
     obtain⟨aF,aH,rfl,M⟩:=Z.inB
     replace z:=(z.below d).more d.size
     replace m:=ints_stable _ _ _ _ m d
     replace r:=(r.below d).more d.size
     replace a:=a.trans (d.mono a.size)
     refine⟨_,rfl,λ_=>q _ a,?_⟩
     clear d Z
     simp only[zE,zD,zB,Act.put,zA,zG,zF]
     obtain⟨W33,f⟩:∃W,W=a8.alloc (.cells #[.slice (some ⟨g0,0,none⟩) 8 8,.slice aK (numsB [E,F]).length aL,.slice aF (numsB ro).length aH] 87):=⟨_,rfl⟩
     obtain⟨I,L⟩:∃g,g=a8.heap.size:=⟨_,rfl⟩
     have S:Lists [magicB,numsB [E,F],numsB ro] (.slice (some ⟨I,0,none⟩) 3 3) W33:=by rw[f,L];exact lists3_new z r M
     replace a:Below G.heap.size G W33:=by rw[f];exact a.alloc a.size _
     refine RegF.one 11 (by kernel_rfl) (RegF.opV (w':=W33) (.slice (some ⟨I,0,none⟩) 3 3) rfl rfl (by rw[f,L];exact x_lists3 rfl rfl rfl rfl) ⟨λ_=>q _ a,?_⟩)
     simp only[zE,zD,zB,Act.put,zA,zG,zF]
     refine RegF.one 12 (by kernel_rfl) ?_
     refine RegF.opC 83 #[.tmp 14] #[151] rfl rfl rfl (enters_of Tryz.func83 (by kernel_rfl) rfl) #[.slice (some ⟨I,0,none⟩) 3 3] (by simp only[zK,zL,zN];rfl) ((aD _ _ S).mono ?_)
     rintro e bF ⟨aO,rfl,V,d⟩
     obtain⟨X,U,rfl,Q⟩:=V.inB
     replace a:=a.trans (d.mono a.size)
     refine⟨_,rfl,λ_=>q _ a,?_⟩
     simp only[zE,zD,zB,Act.put,zA,zG,zF]
     refine RegF.one 13 (by kernel_rfl) (RegF.opV (w':=bF) (.slice X (headX E F ro).length U) rfl rfl (by go_simp) ⟨λ_=>q _ a,RegF.done (by kernel_rfl) ?_⟩)
     simp only[zE,zD,zB,Act.put,zA,zG,zF]
     have aE:=Lib.hid (N.trans (a.mono N.size))
     have aG:=Lib.hid Q
     rw[aB]
     clear q aC aD a z m r M S f L V d Q N aB
     go_wp2
     go_ret
     exact⟨X,U,rfl,aG.out,aE.out⟩
    ·skip
     refine RegF.opC 81 #[.tmp 12] #[41] rfl rfl rfl (enters_of Tryz.func81 (by kernel_rfl) rfl) #[.slice (some ⟨w.heap.size,3,none⟩) 16 16] (by simp only[zK,zL,zN];rfl) ((aC _ a).mono ?_)
     rintro e bH ⟨aN,rfl,Z,d⟩
     obtain⟨aF,aH,rfl,M⟩:=Z.inB
     replace x:=x.below d x.lt
     replace m:=ints_stable _ _ _ _ m d
     replace r:=(r.below d).more d.size
     replace a:=a.trans (d.mono a.size)
     refine⟨_,rfl,λ_=>q _ a,?_⟩
     clear d Z
     simp only[zE,zD,zB,Act.put,zA,zG,zF]
     refine RegF.one 1 (by kernel_rfl) ?_
     obtain⟨aU,T,H,C,O⟩:=x_convM (W:=bH) (g:=g0) (n:=8) (c:=8) x
     have z:InB aU aU.heap.size (some ⟨g0,0,none⟩) 8 magicB:=InB.cells (x.inB _ x.lt (by decide)) H C
     replace m:=m.cells C
     replace r:=r.cells H C
     replace M:=M.cells H C
     replace a:=a.trans (O.toBelow a.size (λk e=>by rw[e];exact aA))
     refine RegF.opV (w':=aU) (.slice (some ⟨g0,0,none⟩) 8 8) rfl rfl (T _ _ rfl rfl) ⟨λ_=>q _ a,?_⟩
     clear T H C O x aA
     simp only[zE,zD,zB,Act.put,zA,zG,zF]
     obtain⟨W37,f⟩:∃W,W=aU.alloc (.cells #[.slice (some ⟨g0,0,none⟩) 8 8,.slice aK (numsB [E,F]).length aL,.slice aF (numsB ro).length aH] 87):=⟨_,rfl⟩
     obtain⟨I,L⟩:∃g,g=aU.heap.size:=⟨_,rfl⟩
     have S:Lists [magicB,numsB [E,F],numsB ro] (.slice (some ⟨I,0,none⟩) 3 3) W37:=by rw[f,L];exact lists3_new z r M
     replace a:Below G.heap.size G W37:=by rw[f];exact a.alloc a.size _
     refine RegF.one 11 (by kernel_rfl) (RegF.opV (w':=W37) (.slice (some ⟨I,0,none⟩) 3 3) rfl rfl (by rw[f,L];exact x_lists3 rfl rfl rfl rfl) ⟨λ_=>q _ a,?_⟩)
     simp only[zE,zD,zB,Act.put,zA,zG,zF]
     refine RegF.one 12 (by kernel_rfl) ?_
     refine RegF.opC 83 #[.tmp 14] #[151] rfl rfl rfl (enters_of Tryz.func83 (by kernel_rfl) rfl) #[.slice (some ⟨I,0,none⟩) 3 3] (by simp only[zK,zL,zN];rfl) ((aD _ _ S).mono ?_)
     rintro e bI ⟨aO,rfl,V,d⟩
     obtain⟨X,U,rfl,Q⟩:=V.inB
     replace a:=a.trans (d.mono a.size)
     refine⟨_,rfl,λ_=>q _ a,?_⟩
     simp only[zE,zD,zB,Act.put,zA,zG,zF]
     refine RegF.one 13 (by kernel_rfl) (RegF.opV (w':=bI) (.slice X (headX E F ro).length U) rfl rfl (by go_simp) ⟨λ_=>q _ a,RegF.done (by kernel_rfl) ?_⟩)
     simp only[zE,zD,zB,Act.put,zA,zG,zF]
     have aE:=Lib.hid (N.trans (a.mono N.size))
     have aG:=Lib.hid Q
     rw[aB]
     clear q aC aD a z m r M S f L V d Q N aB
     go_wp2
     go_ret
     exact⟨X,U,rfl,aG.out,aE.out⟩
  ·skip
   refine RegF.opC 81 #[.tmp 9] #[41] rfl rfl rfl (enters_of Tryz.func81 (by kernel_rfl) rfl) #[.slice (some ⟨g9,0,none⟩) 2 2] (by simp only[zK,zL,zN];rfl) ((IntsL.gives m (by simp)).mono ?_)
   rintro e aX ⟨aR,rfl,aJ,d⟩
   obtain⟨aK,aL,rfl,r⟩:=aJ.inB
   replace m:=ints_stable _ _ _ _ m d
   replace a:=a.trans (d.mono a.size)
   refine⟨_,rfl,λ_=>q _ a,?_⟩
   clear d aJ
   simp only[zE,zD,zB,Act.put,zA,zG,zF]
   refine RegF.two 0 10 (by kernel_rfl) ?_ ?_
   ·skip
    obtain⟨W40,f⟩:∃W,W=aX.alloc (.cells (magicB.map b8).toArray 5):=⟨_,rfl⟩
    obtain⟨g0,aI⟩:∃g,g=aX.heap.size:=⟨_,rfl⟩
    have d:Below aX.heap.size aX W40:=by rw[f];exact(Below.refl _ _).alloc (zH _) _
    have x:BlkIs W40 g0 5 (magicB.map b8).toArray:=by rw[f,aI];exact BlkIs.new _ _ _
    have aA:G.heap.size<=g0:=by rw[aI];exact a.size
    replace m:=ints_stable _ _ _ _ m d
    replace r:=(r.below d).more d.size
    replace a:=a.trans (d.mono a.size)
    refine RegF.opV (w':=W40) (.slice (some ⟨g0,0,none⟩) 8 8) rfl rfl (by rw[f,aI];exact x_magic rfl (λ_=>rfl)) ⟨λ_=>q _ a,?_⟩
    clear f aI d
    simp only[zE,zB,Act.put,zA,zG,zF]
    refine RegF.two 1 10 (by kernel_rfl) ?_ ?_
    ·skip
     obtain⟨a2,T,H,C,O⟩:=x_convM (W:=W40) (g:=g0) (n:=8) (c:=8) x
     have z:InB a2 a2.heap.size (some ⟨g0,0,none⟩) 8 magicB:=InB.cells (x.inB _ x.lt (by decide)) H C
     replace m:=m.cells C
     replace r:=r.cells H C
     replace a:=a.trans (O.toBelow a.size (λk e=>by rw[e];exact aA))
     refine RegF.opV (w':=a2) (.slice (some ⟨g0,0,none⟩) 8 8) rfl rfl (T _ _ rfl rfl) ⟨λ_=>q _ a,?_⟩
     clear T H C O x aA
     simp only[zE,zD,zB,Act.put,zA,zG,zF]
     refine RegF.one 10 (by kernel_rfl) ?_
     refine RegF.opC 81 #[.tmp 12] #[41] rfl rfl rfl (enters_of Tryz.func81 (by kernel_rfl) rfl) #[.slice (some ⟨w.heap.size,3,none⟩) 16 16] (by simp only[zK,zL,zN];rfl) ((aC _ a).mono ?_)
     rintro e bA ⟨aN,rfl,Z,d⟩
     obtain⟨aF,aH,rfl,M⟩:=Z.inB
     replace z:=(z.below d).more d.size
     replace m:=ints_stable _ _ _ _ m d
     replace r:=(r.below d).more d.size
     replace a:=a.trans (d.mono a.size)
     refine⟨_,rfl,λ_=>q _ a,?_⟩
     clear d Z
     simp only[zE,zD,zB,Act.put,zA,zG,zF]
     obtain⟨W43,f⟩:∃W,W=bA.alloc (.cells #[.slice (some ⟨g0,0,none⟩) 8 8,.slice aK (numsB [E,F]).length aL,.slice aF (numsB ro).length aH] 87):=⟨_,rfl⟩
     obtain⟨I,L⟩:∃g,g=bA.heap.size:=⟨_,rfl⟩
     have S:Lists [magicB,numsB [E,F],numsB ro] (.slice (some ⟨I,0,none⟩) 3 3) W43:=by rw[f,L];exact lists3_new z r M
     replace a:Below G.heap.size G W43:=by rw[f];exact a.alloc a.size _
     refine RegF.one 11 (by kernel_rfl) (RegF.opV (w':=W43) (.slice (some ⟨I,0,none⟩) 3 3) rfl rfl (by rw[f,L];exact x_lists3 rfl rfl rfl rfl) ⟨λ_=>q _ a,?_⟩)
     simp only[zE,zD,zB,Act.put,zA,zG,zF]
     refine RegF.one 12 (by kernel_rfl) ?_
     refine RegF.opC 83 #[.tmp 14] #[151] rfl rfl rfl (enters_of Tryz.func83 (by kernel_rfl) rfl) #[.slice (some ⟨I,0,none⟩) 3 3] (by simp only[zK,zL,zN];rfl) ((aD _ _ S).mono ?_)
     rintro e bO ⟨aO,rfl,V,d⟩
     obtain⟨X,U,rfl,Q⟩:=V.inB
     replace a:=a.trans (d.mono a.size)
     refine⟨_,rfl,λ_=>q _ a,?_⟩
     simp only[zE,zD,zB,Act.put,zA,zG,zF]
     refine RegF.one 13 (by kernel_rfl) (RegF.opV (w':=bO) (.slice X (headX E F ro).length U) rfl rfl (by go_simp) ⟨λ_=>q _ a,RegF.done (by kernel_rfl) ?_⟩)
     simp only[zE,zD,zB,Act.put,zA,zG,zF]
     have aE:=Lib.hid (N.trans (a.mono N.size))
     have aG:=Lib.hid Q
     rw[aB]
     clear q aC aD a z m r M S f L V d Q N aB
     go_wp2
     go_ret
     exact⟨X,U,rfl,aG.out,aE.out⟩
    ·skip
     refine RegF.opC 81 #[.tmp 12] #[41] rfl rfl rfl (enters_of Tryz.func81 (by kernel_rfl) rfl) #[.slice (some ⟨w.heap.size,3,none⟩) 16 16] (by simp only[zK,zL,zN];rfl) ((aC _ a).mono ?_)
     rintro e bM ⟨aN,rfl,Z,d⟩
     obtain⟨aF,aH,rfl,M⟩:=Z.inB
     replace x:=x.below d x.lt
     replace m:=ints_stable _ _ _ _ m d
     replace r:=(r.below d).more d.size
     replace a:=a.trans (d.mono a.size)
     refine⟨_,rfl,λ_=>q _ a,?_⟩
     clear d Z
     simp only[zE,zD,zB,Act.put,zA,zG,zF]
     refine RegF.one 1 (by kernel_rfl) ?_
     obtain⟨aT,T,H,C,O⟩:=x_convM (W:=bM) (g:=g0) (n:=8) (c:=8) x
     have z:InB aT aT.heap.size (some ⟨g0,0,none⟩) 8 magicB:=InB.cells (x.inB _ x.lt (by decide)) H C
     replace m:=m.cells C
     replace r:=r.cells H C
     replace M:=M.cells H C
     replace a:=a.trans (O.toBelow a.size (λk e=>by rw[e];exact aA))
     refine RegF.opV (w':=aT) (.slice (some ⟨g0,0,none⟩) 8 8) rfl rfl (T _ _ rfl rfl) ⟨λ_=>q _ a,?_⟩
     clear T H C O x aA
     simp only[zE,zD,zB,Act.put,zA,zG,zF]
     obtain⟨W47,f⟩:∃W,W=aT.alloc (.cells #[.slice (some ⟨g0,0,none⟩) 8 8,.slice aK (numsB [E,F]).length aL,.slice aF (numsB ro).length aH] 87):=⟨_,rfl⟩
     obtain⟨I,L⟩:∃g,g=aT.heap.size:=⟨_,rfl⟩
     have S:Lists [magicB,numsB [E,F],numsB ro] (.slice (some ⟨I,0,none⟩) 3 3) W47:=by rw[f,L];exact lists3_new z r M
     replace a:Below G.heap.size G W47:=by rw[f];exact a.alloc a.size _
     refine RegF.one 11 (by kernel_rfl) (RegF.opV (w':=W47) (.slice (some ⟨I,0,none⟩) 3 3) rfl rfl (by rw[f,L];exact x_lists3 rfl rfl rfl rfl) ⟨λ_=>q _ a,?_⟩)
     simp only[zE,zD,zB,Act.put,zA,zG,zF]
     refine RegF.one 12 (by kernel_rfl) ?_
     refine RegF.opC 83 #[.tmp 14] #[151] rfl rfl rfl (enters_of Tryz.func83 (by kernel_rfl) rfl) #[.slice (some ⟨I,0,none⟩) 3 3] (by simp only[zK,zL,zN];rfl) ((aD _ _ S).mono ?_)
     rintro e bJ ⟨aO,rfl,V,d⟩
     obtain⟨X,U,rfl,Q⟩:=V.inB
     replace a:=a.trans (d.mono a.size)
     refine⟨_,rfl,λ_=>q _ a,?_⟩
     simp only[zE,zD,zB,Act.put,zA,zG,zF]
     refine RegF.one 13 (by kernel_rfl) (RegF.opV (w':=bJ) (.slice X (headX E F ro).length U) rfl rfl (by go_simp) ⟨λ_=>q _ a,RegF.done (by kernel_rfl) ?_⟩)
     simp only[zE,zD,zB,Act.put,zA,zG,zF]
     have aE:=Lib.hid (N.trans (a.mono N.size))
     have aG:=Lib.hid Q
     rw[aB]
     clear q aC aD a z m r M S f L V d Q N aB
     go_wp2
     go_ret
     exact⟨X,U,rfl,aG.out,aE.out⟩
   ·skip
    refine RegF.opC 81 #[.tmp 12] #[41] rfl rfl rfl (enters_of Tryz.func81 (by kernel_rfl) rfl) #[.slice (some ⟨w.heap.size,3,none⟩) 16 16] (by simp only[zK,zL,zN];rfl) ((aC _ a).mono ?_)
    rintro e aY ⟨aN,rfl,Z,d⟩
    obtain⟨aF,aH,rfl,M⟩:=Z.inB
    replace m:=ints_stable _ _ _ _ m d
    replace r:=(r.below d).more d.size
    replace a:=a.trans (d.mono a.size)
    refine⟨_,rfl,λ_=>q _ a,?_⟩
    clear d Z
    simp only[zE,zD,zB,Act.put,zA,zG,zF]
    refine RegF.one 0 (by kernel_rfl) ?_
    obtain⟨W50,f⟩:∃W,W=aY.alloc (.cells (magicB.map b8).toArray 5):=⟨_,rfl⟩
    obtain⟨g0,aI⟩:∃g,g=aY.heap.size:=⟨_,rfl⟩
    have d:Below aY.heap.size aY W50:=by rw[f];exact(Below.refl _ _).alloc (zH _) _
    have x:BlkIs W50 g0 5 (magicB.map b8).toArray:=by rw[f,aI];exact BlkIs.new _ _ _
    have aA:G.heap.size<=g0:=by rw[aI];exact a.size
    replace m:=ints_stable _ _ _ _ m d
    replace r:=(r.below d).more d.size
    replace M:=(M.below d).more d.size
    replace a:=a.trans (d.mono a.size)
    refine RegF.opV (w':=W50) (.slice (some ⟨g0,0,none⟩) 8 8) rfl rfl (by rw[f,aI];exact x_magic rfl (λ_=>rfl)) ⟨λ_=>q _ a,?_⟩
    clear f aI d
    simp only[zE,zB,Act.put,zA,zG,zF]
    refine RegF.one 1 (by kernel_rfl) ?_
    obtain⟨aS,T,H,C,O⟩:=x_convM (W:=W50) (g:=g0) (n:=8) (c:=8) x
    have z:InB aS aS.heap.size (some ⟨g0,0,none⟩) 8 magicB:=InB.cells (x.inB _ x.lt (by decide)) H C
    replace m:=m.cells C
    replace r:=r.cells H C
    replace M:=M.cells H C
    replace a:=a.trans (O.toBelow a.size (λk e=>by rw[e];exact aA))
    refine RegF.opV (w':=aS) (.slice (some ⟨g0,0,none⟩) 8 8) rfl rfl (T _ _ rfl rfl) ⟨λ_=>q _ a,?_⟩
    clear T H C O x aA
    simp only[zE,zD,zB,Act.put,zA,zG,zF]
    obtain⟨W52,f⟩:∃W,W=aS.alloc (.cells #[.slice (some ⟨g0,0,none⟩) 8 8,.slice aK (numsB [E,F]).length aL,.slice aF (numsB ro).length aH] 87):=⟨_,rfl⟩
    obtain⟨I,L⟩:∃g,g=aS.heap.size:=⟨_,rfl⟩
    have S:Lists [magicB,numsB [E,F],numsB ro] (.slice (some ⟨I,0,none⟩) 3 3) W52:=by rw[f,L];exact lists3_new z r M
    replace a:Below G.heap.size G W52:=by rw[f];exact a.alloc a.size _
    refine RegF.one 11 (by kernel_rfl) (RegF.opV (w':=W52) (.slice (some ⟨I,0,none⟩) 3 3) rfl rfl (by rw[f,L];exact x_lists3 rfl rfl rfl rfl) ⟨λ_=>q _ a,?_⟩)
    simp only[zE,zD,zB,Act.put,zA,zG,zF]
    refine RegF.one 12 (by kernel_rfl) ?_
    refine RegF.opC 83 #[.tmp 14] #[151] rfl rfl rfl (enters_of Tryz.func83 (by kernel_rfl) rfl) #[.slice (some ⟨I,0,none⟩) 3 3] (by simp only[zK,zL,zN];rfl) ((aD _ _ S).mono ?_)
    rintro e bE ⟨aO,rfl,V,d⟩
    obtain⟨X,U,rfl,Q⟩:=V.inB
    replace a:=a.trans (d.mono a.size)
    refine⟨_,rfl,λ_=>q _ a,?_⟩
    simp only[zE,zD,zB,Act.put,zA,zG,zF]
    refine RegF.one 13 (by kernel_rfl) (RegF.opV (w':=bE) (.slice X (headX E F ro).length U) rfl rfl (by go_simp) ⟨λ_=>q _ a,RegF.done (by kernel_rfl) ?_⟩)
    simp only[zE,zD,zB,Act.put,zA,zG,zF]
    have aE:=Lib.hid (N.trans (a.mono N.size))
    have aG:=Lib.hid Q
    rw[aB]
    clear q aC aD a z m r M S f L V d Q N aB
    go_wp2
    go_ret
    exact⟨X,U,rfl,aG.out,aE.out⟩
theorem wp_storeBox {w:World}{ops:Array Oper}{rest:List Oper}{o:Oper}{a:Act}{Q:Exit->Act->World->Prop}(g:o.guard=none)(T:TypeId)(x y:Operand)(d:o.op = .store T x y){t:TypeId}{cs cs':Array Value}(f:a.eval x = .pointer (some ⟨w.heap.size,0,none⟩))(c:a.eval y = .agg cs'){n:Nat}(e:RowTy Tryz.prog T n)(hn:cs.size=n)(hs:cs'.size=cs.size)(h1:∀v∈cs'.toList,v.oneCell'=true)
  (h:∀w',Below w.heap.size w w'->BlkIs w' w.heap.size t cs'->wpList Tryz.prog ops Q rest (a.put o.dst undef) w'):wpList Tryz.prog ops Q (o::rest) a (w.alloc (.cells cs t)) :=
 wp_storeW g T x y d w.heap.size f c e (BlkIs.new w t cs) hn hs h1 (h _ (below_setRow ((Below.refl _ w).alloc (zH _) _) (zH _) _) ((BlkIs.new w t cs).setRow cs'))
theorem CaSt.Ok.zero:(⟨0,0,0,λ_=>none⟩:CaSt).Ok 0:=⟨⟨Int.le_refl _,Int.le_refl _⟩,⟨Int.le_refl _,Int.le_refl _⟩,⟨Int.le_refl _,Int.le_refl _⟩⟩
section
variable {P:Nat}{fr pg rm1 rm2:Int}{G1 G2:Nat->List UInt8}{S1 S2:LgS}{c1 c2 c1' c2':CaSt}{i j:Nat}
end
theorem pthere_gives (w:World)(P:Option Addr)(n a:Int):Calls Tryz.prog 85 #[.pointer P,.int .i64 n,.int .i64 a] w λe w'=>∃f,e = .returned (.agg #[f,.int .i64 4])/\f.oneCell'=true/\Below w.heap.size w w'/\∀p size,P=some ⟨p,0,none⟩->w.cell? ⟨p,0,none⟩=some (.int .i64 size)->PAskIs w' ⟨f,4,decide (n<a∨size<=n)⟩:=by
 obtain⟨W0,c⟩:∃W0,W0=((w.alloc (.cells #[.pointer P] 23)).alloc (.cells #[.int .i64 n] 3)).alloc (.cells #[.int .i64 a] 3):=⟨_,rfl⟩
 have d:Below w.heap.size w W0:=by rw[c];exact(((Below.refl _ w).alloc (zH _) _).alloc (by simp) _).alloc (by simp;omega) _
 have x:W0.heap.size=w.heap.size+1+1+1:=by rw[c];simp
 have h:BlkIs W0 w.heap.size 23 #[.pointer P]:=by rw[c];exact((BlkIs.new w _ _).alloc _).alloc _
 have m:BlkIs W0 (w.heap.size+1) 3 #[.int .i64 n]:=by
  have:=(BlkIs.new (w.alloc (.cells #[.pointer P] 23)) 3 #[.int .i64 n]).alloc (.cells #[.int .i64 a] 3)
  rw[World.size_alloc] at this
  rw[c]
  exact this
 have g:BlkIs W0 (w.heap.size+1+1) 3 #[.int .i64 a]:=by
  have:=BlkIs.new ((w.alloc (.cells #[.pointer P] 23)).alloc (.cells #[.int .i64 n] 3)) 3 #[.int .i64 a]
  rw[World.size_alloc,World.size_alloc] at this
  rw[c]
  exact this
 obtain⟨f,hf⟩:∃f:Value,f = .func (.func 138) #[] #[.pointer (some ⟨w.heap.size+1,0,none⟩),.pointer (some ⟨w.heap.size+1+1,0,none⟩),.pointer (some ⟨w.heap.size,0,none⟩)]:=⟨_,rfl⟩
 have q:f.oneCell'=true:=by rw[hf];rfl
 have A:∀W,Below W0.heap.size W0 W->∀p size,P=some ⟨p,0,none⟩->w.cell? ⟨p,0,none⟩=some (.int .i64 size)->PAskIs W ⟨f,4,decide (n<a∨size<=n)⟩:=λW F p size e hc=>by
  subst e
  rw[hf]
  exact PAskIs.later (PAskIs.three 4 (ansThere (p:=p) ((m.cell 0).trans rfl) ((g.cell 0).trans rfl) ((h.cell 0).trans rfl) ((d.cell (p:=⟨p,0,none⟩) (cell_lt hc)).trans hc) m.lt g.lt h.lt (zO (cell_lt hc) d.size))) F
 have C:=Lib.hid A
 have E:Hid (((w.alloc (.cells #[.pointer P] 23)).alloc (.cells #[.int .i64 n] 3)).alloc (.cells #[.int .i64 a] 3)=W0):=Lib.hid c.symm
 have G:=Lib.hid hf
 have r:=Lib.hid x
 clear A h m g c x hf
 go_enter Tryz.func85,Tryz.ntmps85
 go_wp2_with (rw[E.out];refine wp_storeBox rfl 140 (.tmp 6) (.tmp 8) (w:=W0) rfl (cs':=#[f,.int .i64 4]) (by rw[r.out];rfl) (by rw[G.out];rfl) rowPAsk rfl rfl (by simp[q];rfl) ?_;intro w4 z b4)
 have H:Below w.heap.size w w4:=d.trans (z.mono d.size)
 rw[r.out] at b4
 refine bodyPost_ret_by (results_cellW 6 rfl rfl rowPAsk b4 rfl) rfl ⟨f,rfl,q,H,C.out _ z⟩
theorem pmarked_gives (w:World)(P:Option Addr)(n:Int):Calls Tryz.prog 127 #[.pointer P,.int .i64 n] w λe w'=>∃f,e = .returned (.agg #[f,.int .i64 2])/\f.oneCell'=true/\Below w.heap.size w w'/\∀p A len c,P=some ⟨p,0,none⟩->w.cell? ⟨p,40,none⟩=some (.slice A len c)->PAskIs w' ⟨f,2,decide (n<0∨(len:Int)<=n)⟩:=by
 obtain⟨W0,a⟩:∃W0,W0=(w.alloc (.cells #[.pointer P] 23)).alloc (.cells #[.int .i64 n] 3):=⟨_,rfl⟩
 have d:Below w.heap.size w W0:=by rw[a];exact((Below.refl _ w).alloc (zH _) _).alloc (by simp) _
 have r:W0.heap.size=w.heap.size+1+1:=by rw[a];simp
 have g:BlkIs W0 w.heap.size 23 #[.pointer P]:=by rw[a];exact(BlkIs.new w _ _).alloc _
 have h:BlkIs W0 (w.heap.size+1) 3 #[.int .i64 n]:=by
  have:=BlkIs.new (w.alloc (.cells #[.pointer P] 23)) 3 #[.int .i64 n]
  rw[World.size_alloc] at this
  rw[a]
  exact this
 obtain⟨f,hf⟩:∃f:Value,f = .func (.func 198) #[] #[.pointer (some ⟨w.heap.size+1,0,none⟩),.pointer (some ⟨w.heap.size,0,none⟩)]:=⟨_,rfl⟩
 have m:f.oneCell'=true:=by rw[hf];rfl
 have z:∀W,Below W0.heap.size W0 W->∀p A len c,P=some ⟨p,0,none⟩->w.cell? ⟨p,40,none⟩=some (.slice A len c)->PAskIs W ⟨f,2,decide (n<0∨(len:Int)<=n)⟩:=λW F p A len c e hc=>by
  subst e
  rw[hf]
  exact PAskIs.later (PAskIs.two 2 (ansMarked (p:=p) ((h.cell 0).trans rfl) ((g.cell 0).trans rfl) ((d.cell (p:=⟨p,40,none⟩) (cell_lt hc)).trans hc) h.lt g.lt (zO (cell_lt hc) d.size))) F
 have C:=Lib.hid z
 have E:Hid ((w.alloc (.cells #[.pointer P] 23)).alloc (.cells #[.int .i64 n] 3)=W0):=Lib.hid a.symm
 have G:=Lib.hid hf
 have q:=Lib.hid r
 clear z g h a r hf
 go_enter Tryz.func127,Tryz.ntmps127
 go_wp2_with (rw[E.out];refine wp_storeBox rfl 140 (.tmp 4) (.tmp 6) (w:=W0) rfl (cs':=#[f,.int .i64 2]) (by rw[q.out];rfl) (by rw[G.out];rfl) rowPAsk rfl rfl (by simp[m];rfl) ?_;intro w4 x b4)
 have H:Below w.heap.size w w4:=d.trans (x.mono d.size)
 rw[q.out] at b4
 refine bodyPost_ret_by (results_cellW 4 rfl rfl rowPAsk b4 rfl) rfl ⟨f,rfl,m,H,C.out _ x⟩
section
variable {W0 W:World}{K:PgK}{p:Nat}{v:PgV}{st last:PgSt}{under:Bool}{mk:Value}
theorem PaIs.asked (h:PaIs W0 K p v st last under mk W)(u:Bool)(A:Option Addr)(c:Nat)(xs:List PAsk)(a:InG W W.heap.size 2 A xs.length c (pasksC xs))(hl:xs.length<=900)(ha:∀x∈xs,PAskIs W x) :
  Calls Tryz.prog 56 #[.pointer (some ⟨p,0,none⟩),.bool u,.slice A xs.length c] W λe w'=>e = .returned (.int .i64 (if under != u then 191 else askE xs))/\Below W.heap.size W w' :=
 (pasked_gives W (some ⟨p,0,none⟩) false under u (ansNone h.chc h.pb.lt) (λ_=>⟨p,rfl,h.und,h.pb.lt⟩) A c xs a hl (λ_=>ha)).mono λe w' h=>⟨by rw[h.1];rfl,h.2⟩
theorem inG_none (W:World)(n sz:Nat):InG W n sz none 0 0 []:=⟨zH _,by decide,λ_=>rfl,by simp,λv a=>absurd a (by simp),λh=>absurd h (by simp)⟩
theorem PaIs.asked0 (h:PaIs W0 K p v st last under mk W)(u:Bool) :
  Calls Tryz.prog 56 #[.pointer (some ⟨p,0,none⟩),.bool u,.slice none 0 0] W λe w'=>e = .returned (.int .i64 (if under != u then 191 else 0))/\Below W.heap.size W w' :=
 h.asked u none 0 [] (inG_none _ _ _) (by simp) (λx a=>absurd a (by simp))
theorem pbegin_gives (h:PaIs W0 K p v st last false mk W):Calls Tryz.prog 23 #[.pointer (some ⟨p,0,none⟩)] W λe w'=>e = .returned (.int .i64 0)/\PaIs W0 K p v st last true mk w'/\GrowBut (λk=>k=p) W w':=by
 have c:=h.asked0 false
 go_enter Tryz.func23,Tryz.ntmps23
 go_wp2_with (go_at_call 56;refine c.mono ?_;rintro e g ⟨rfl,a⟩;have h1:=h.grow a;have m:=h1.und;have f:=h1.pb.free 39)
 go_ret
 obtain⟨h2,d⟩:=h1.setUnder (under':=true)
 exact⟨rfl,h2,(GrowBut.below a).trans d⟩
theorem pover_gives (h:PaIs W0 K p v st last under mk W):Calls Tryz.prog 58 #[.pointer (some ⟨p,0,none⟩)] W λe w'=>(∃x,e = .returned x)/\PaIs W0 K p v st last false (.slice none 0 0) w'/\GrowBut (λk=>k=p) W w':=by
 have g:=h.und
 obtain⟨h1,c⟩:=h.setUnder (under':=false)
 have f:=h1.mks
 have d:=h.pb.free 39
 have m:=h1.pb.free 40
 obtain⟨h2,a⟩:=h1.setMarks (mk':=.slice none 0 0)
 go_enter Tryz.func58,Tryz.ntmps58
 go_wp2
 go_end0
 exact⟨⟨_,rfl⟩,h2,c.trans a⟩
theorem psize_gives (h:PaIs W0 K p v st last under mk W):Calls Tryz.prog 24 #[.pointer (some ⟨p,0,none⟩)] W λe w'=>e = .returned (.int .i64 st.size)/\W=w':=by
 have a:=pnone_gives h.chc
 have c0:=h.szc
 go_enter Tryz.func24,Tryz.ntmps24
 go_wp2_with (go_at_call 69;refine a.mono ?_;rintro e c ⟨rfl,rfl⟩)
 go_ret
 exact⟨rfl,rfl⟩
end
theorem pasks_new (W:World)(xs:List PAsk)(h1:∀v∈pasksC xs,v.oneCell'=true)(T:TypeId)(hn:xs.length<=1000):InG (W.alloc (.cells (pasksC xs).toArray T)) (W.alloc (.cells (pasksC xs).toArray T)).heap.size 2 (some ⟨W.heap.size,0,none⟩) xs.length xs.length (pasksC xs) :=
 ⟨zH _,by omega,(λe=>by cases e),pasksC_length xs,h1,λ_=>⟨W.heap.size,0,rfl,by simp,λj v a=>by
  rw[qC,(BlkIs.new W T (pasksC xs).toArray).cell]
  simpa using a⟩⟩
theorem Names.mono {K:PgK}{W W':World}{v v':PgV}(h:Names K W' v v')(hs:W.heap.size<=W'.heap.size):Names K W v v':=λk a=>(h k a).elim .inl (λe => .inr (by omega))
structure WrF (K:PgK)(v v':PgV)(n:Int)(y:List UInt8)(x:Int):Prop where
 nn:v'.N=v.N+1
 ii:v'.i=v.i
 yy:v'.Y K=v.Y K
 sz:v'.S.sz=v.S.sz
 dd:(x=0/\v'.D=λj=>if j=n then some y else v.D j)∨(x=160/\NoRoom K.P K.room v.c.V/\v'.D=v.D)
section
variable {W0 W:World}{K:PgK}{p:Nat}{v:PgV}{st last:PgSt}{mk:Value}
theorem pwritep_gives (h:PaIs W0 K p v st last true mk W)(hK:K.Ok)(hN:v.N<=800000)(n:Int)(hn:1<=n/\n<st.size)(hP:n<(K.P:Int))(A:Option Addr)(c:Nat)(y:List UInt8)(hy:y.length=512)(aI:InB W W.heap.size A c y) :
  Calls Tryz.prog 82 #[.pointer (some ⟨p,0,none⟩),.int .i64 n,.slice A 512 c] W λe w'=>∃x v',e = .returned (.int .i64 x)/\PaIs W0 K p v' st last true mk w'/\WrF K v v' n y x/\Names K W v v'/\GrowBut (K.mu v) W w':=by
 obtain⟨W1,I⟩:∃W1,W1=W.alloc (.cells #[.slice A 512 c] 87):=⟨_,rfl⟩
 have q:Below W.heap.size W W1:=by rw[I];exact(Below.refl _ _).alloc (zH _) _
 have X:BlkIs W1 W.heap.size 87 #[.slice A 512 c]:=by rw[I];exact BlkIs.new W _ _
 have hd:decide (n<1∨st.size<=n)=false:=decide_eq_false (by omega)
 have aL:=Lib.hid I.symm
 clear I
 go_enter Tryz.func82,Tryz.ntmps82
 go_wp2_with (go_at_call 85;rw[aL.out];refine(pthere_gives W1 (some ⟨p,0,none⟩) n 1).mono ?_;rintro e r ⟨f,rfl,aG,z,aD⟩)
 have h2:=(h.grow q).grow z
 have M:=X.below z X.lt
 obtain⟨xs,g⟩:∃xs:List PAsk,xs=[⟨.func (.func 136) #[] #[.pointer (some ⟨W.heap.size,0,none⟩)],2,false⟩,⟨f,4,false⟩]:=⟨_,rfl⟩
 have aC:∀v∈pasksC xs,v.oneCell'=true:=λv O=>by
  rw[g] at O
  simp only[pasksC,paskC,zL,zN,List.flatten_cons,List.flatten_nil,qB,zV,List.mem_cons,List.not_mem_nil,or_false] at O
  rcases O with rfl|rfl|rfl|rfl
  ·rfl
  ·rfl
  ·exact aG
  ·rfl
 obtain⟨W3,H⟩:∃W3,W3=r.alloc (.cells #[.func (.func 136) #[] #[.pointer (some ⟨W.heap.size,0,none⟩)],.int .i64 2,f,.int .i64 4] 140):=⟨_,rfl⟩
 have w:Below r.heap.size r W3:=by rw[H];exact(Below.refl _ _).alloc (zH _) _
 have aF:InG W3 W3.heap.size 2 (some ⟨r.heap.size,0,none⟩) xs.length xs.length (pasksC xs):=by
  have:=pasks_new r xs aC 140 (by rw[g];simp)
  rw[H]
  subst g
  exact this
 have T:=h2.grow w
 have C:=M.below w M.lt
 have ha:∀x∈xs,PAskIs W3 x:=λx V=>by
  rw[g] at V
  simp only[List.mem_cons,List.not_mem_nil,or_false] at V
  rcases V with rfl|rfl
  ·refine PAskIs.one 2 ⟨enters_of Tryz.func136 (by kernel_rfl) rfl,λW4 aH => ?_⟩
   refine(pwrite1_ask (bb:=W.heap.size) (len:=512) (c:=c) (A:=A) ((C.below aH C.lt).boxed)).mono ?_
   rintro e w' ⟨rfl,rfl⟩
   exact⟨rfl,Below.refl _ _⟩
  ·have:=aD p st.size rfl (h.grow q).szc
   rw[hd] at this
   exact PAskIs.later this w
 have U:=T.asked true (some ⟨r.heap.size,0,none⟩) xs.length xs aF (by rw[g];simp) ha
 have hE:(if (true != true)=true then 191 else askE xs)=0:=by rw[g];rfl
 have aA:xs.length=2:=by rw[g];rfl
 rw[hE,aA] at U
 rw[<-H]
 refine U.mono ?_
 rintro e w4 ⟨rfl,Z⟩
 have S:=T.grow Z
 have b4:=C.below Z C.lt
 have E:Below W.heap.size W w4:=((q.trans (z.mono q.size)).trans (w.mono (by have:=q.size;have:=z.size;omega))).trans (Z.mono (by have:=q.size;have:=z.size;have:=w.size;omega))
 have d:w4.drew.cell? ⟨p,19,none⟩=some (.pointer (some ⟨K.a,0,none⟩))/\w4.drew.cell? ⟨W.heap.size,0,none⟩=some (.slice A 512 c):=⟨S.chc,b4.boxed⟩
 have aJ:=b4.lt
 have aE:=((aI.below E).more E.size).drew
 have Q:PaIs W0 K p v st last true mk w4.drew:=S.grow (Below.refl _ _).drew
 clear ha aF U hE aA aD aC h2 T M C w H g S X b4
 go_wp2_with fail
 refine RegF.start (λW':World=>W'.cell? ⟨p,19,none⟩=some (.pointer (some ⟨K.a,0,none⟩))/\W'.cell? ⟨W.heap.size,0,none⟩=some (.slice A 512 c)) 9 (by kernel_rfl) ?_
 refine RegF.t0 0 (.pointer (some ⟨p,0,none⟩)) rfl d (λW ⟨F,m⟩=>by go_simp) ?_
 simp only[zE,zB,Act.put,zA,zG,zF]
 refine RegF.t0 1 (.pointer (some ⟨p,0,none⟩)) rfl d (λW ⟨F,m⟩=>by go_simp) ?_
 simp only[zE,zD,zB,Act.put,zA,zG,zF]
 refine RegF.t0 2 (.pointer (some ⟨p,19,none⟩)) rfl d (λW ⟨F,m⟩=>by go_simp) ?_
 simp only[zE,zD,zB,Act.put,zA,zG,zF]
 refine RegF.t0 3 (.pointer (some ⟨K.a,0,none⟩)) rfl d (λW ⟨F,m⟩=>by go_simp) ?_
 simp only[zE,zD,zB,Act.put,zA,zG,zF]
 refine RegF.t0 4 (.int .i64 n) rfl d (λW ⟨F,m⟩=>by go_simp) ?_
 simp only[zE,zD,zB,Act.put,zA,zG,zF]
 refine RegF.t0 5 (.slice A 512 c) rfl d (λW ⟨F,m⟩=>by go_simp) ?_
 simp only[zE,zD,zB,Act.put,zA,zG,zF]
 refine RegF.one 6 (by kernel_rfl) ?_
 refine RegF.opC 62 #[.tmp 22,.tmp 23,.tmp 24] #[101,3,87] rfl rfl rfl (enters_of Tryz.func62 (by kernel_rfl) rfl) #[.pointer (some ⟨K.a,0,none⟩),.int .i64 n,.slice A 512 c] (by simp only[zK,zL,zN];rfl) ((gwrite Q.ca hK hN n A c y hy aE).mono ?_)
 rintro e w5 ⟨x,v',rfl,aM,m,e2,e3,e4,hq,aB,G⟩
 have h5:=Q.turn G aM
 have hG:GrowBut (K.mu v) W w5:=(GrowBut.below (E.trans ((Below.refl _ _).drew.mono E.size))).trans G
 have hF:WrF K v v' n y x:=⟨m,e2,e3,e4,hq.elim (λh => .inl ⟨h.1,h.2.2⟩) (λh => .inr (by
  rcases h.1 with h1|h1
  ·omega
  ·exact⟨h1.1,h1.2,h.2⟩))⟩
 have aK:Names K W v v':=aB.mono E.size
 have L:w5.cell? ⟨p,19,none⟩=some (.pointer (some ⟨K.a,0,none⟩))/\w5.cell? ⟨W.heap.size,0,none⟩=some (.slice A 512 c):=⟨h5.chc,G.cell d.2 (by show W.heap.size<w4.heap.size;exact aJ) (λhm=>by have:=h.ca.lts _ hm;simp at this)⟩
 refine⟨_,rfl,λ_=>L,?_⟩
 simp only[zE,zD,zB,Act.put,zA,zG,zF]
 refine RegF.one 7 (by kernel_rfl) (RegF.opV (w':=w5) (.int .i64 x) rfl rfl (by go_simp) ⟨λ_=>L,RegF.done (by kernel_rfl) ?_⟩)
 simp only[zE,zD,zB,Act.put,zA,zG,zF]
 clear L d aE Q hq G aB
 go_wp2
 go_ret
 exact⟨x,v',rfl,h5,hF,aK,hG⟩
end
def linkB (f:Int):List UInt8:=padB (numsB [f])
theorem linkB_next {f:Int}(h:0<=f/\f<4294967296):((rfix ((linkB f).take 4):Nat):Int)=f:=by
 have e:(linkB f).take 4=numB f:=by
  unfold linkB padB
  have c:(numB f).length=4:=fixL_length _ _
  have a:numsB [f]=numB f:=by simp[numsB]
  rw[a,List.take_append_of_le_length (by omega),qI (by omega)]
 rw[e]
 exact rfix_numB h
section
variable {W0 W:World}{K:PgK}{p:Nat}{v v':PgV}{st last:PgSt}{under:Bool}{mk:Value}
theorem growMu {W':World}(h:GrowBut (K.mu v) W W'):GrowBut (pgMu K p v) W W':=h.more λ_ a _ => .inr a
theorem growP {W':World}(h:GrowBut (λk=>k=p) W W'):GrowBut (pgMu K p v) W W':=h.more λ_ a _ => .inl a
theorem prollback_gives (h:PaIs W0 K p v st last true mk W):Calls Tryz.prog 18 #[.pointer (some ⟨p,0,none⟩)] W λe w'=>∃v',e = .returned (.int .i64 0)/\PaIs W0 K p v' last last false (.slice none 0 0) w'/\v'.N=v.N/\v'.i=v.i/\v'.Y K=v.Y K/\v'.S.sz=v.S.sz/\(v'.D=λ_=>none)/\Names K W v v'/\GrowBut (pgMu K p v) W w':=by
 have r:=h.asked0 true
 have c:=psC_length h.hl
 go_enter Tryz.func18,Tryz.ntmps18
 go_wp2_with (first
  | (go_at_call 56;refine r.mono ?_;rintro e M ⟨rfl,a⟩;have h1:=h.grow a;have O:=h1.chc)
  | (revert h1;intro h1;go_at_call 57;refine(gdrop h1.ca).mono ?_;rintro e L ⟨v',rfl,A,G,H,E,w,I,z,m⟩;have h2:=h1.turn m A;have g:=h2.lastRange;have f:=blk_there (o:=0) (n:=(psC last).toArray.size) h2.pb (by rw[pgC_size' h2.hs h2.hl];simp[c]))
  | (revert g;intro g;refine wp_exec rfl (x_loadM rowPgSt g c rfl rfl) ?_)
  | (revert f;intro f;refine wpList_store_mid rfl 100 _ _ rfl p 0 (psC last).toArray rfl rfl f (by simpa[c] using rowPgSt.size) (all_oneCell_toArray (psC_one last)) ?_;obtain⟨d,C⟩:=h2.setState h2.hl)
  | (revert d;intro d;go_at_call 58;refine(pover_gives d).mono ?_;rintro e Q ⟨⟨x,rfl⟩,q,F⟩))
 go_ret
 exact⟨v',rfl,q,G,H,E,w,I,z.mono a.size,(GrowBut.below a).trans ((growMu m).trans ((growP C).trans (growP F)))⟩
end
end Go.Proofs.YtpibjkbadnffgaaGreat
