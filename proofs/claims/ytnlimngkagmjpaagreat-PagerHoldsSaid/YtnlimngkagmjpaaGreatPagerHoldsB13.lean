/- Texts that the proof of PagerHolds leans on, part 13. -/
import Derived.Test.YtnlimngkagmjpaaGreatPagerHoldsB12
open List renaming size_toArray → zX, length_cons → zR, length_nil → qK, push_toArray → qJ, append_toArray → qI, nil_append → zV, cons_append → qA, map_cons → zK, length_append → zQ, take_succ_eq_append_getElem → zU, replicate → zN, take_of_length_le → zW, mem_cons → qM, setIfInBounds_toArray → zA, set_cons_succ → zE, getElem?_eq_some_iff → zT, getElem?_append_right → zZ, getElem_mem → qH, getElem?_eq_getElem → zI, mem_append → qF, eq_nil_of_length_eq_zero → zY, map_toArray → zJ, map_nil → zL, getElem_toArray → zD, getElem_cons_succ → zC, getElem_cons_zero → zB, set_cons_zero → zF
open Nat renaming le_trans → zO, le_refl → zG, lt_of_lt_of_le → zP, zero_add → qG
open Array renaming replicate_succ → qD, replicate_zero → qE, getElem?_eq_some_iff → zH
set_option linter.unusedVariables false
set_option maxRecDepth 100000
set_option maxHeartbeats 8000000

namespace Go.Proofs.YtnlimngkagmjpaaGreat
open Go Go.RowKit Lou Go.Shelf
attribute [local go_sem] Oper.semAt_some
structure PMapAt (W:World)(M:Nat)(Y:Int->Option (List UInt8)):Prop where
 has:∃es co f,MapIs W M es co/\EnV es f/\MapKept.Stamped es co/\PgIs W f Y
structure InsAt (w0:World)(B M b B4:Nat)(Y:Int->Option (List UInt8))(ks:List Nat)(V:World):Prop where
 mp:∃es co f,MapIs V M es co/\EnV es f/\MapKept.Stamped es co/\OwnOf V f Y ks
 bx:BlkIs V b 87 #[.map (some M)]
 up:Below B w0 V
 b4:B<=M/\M<B4/\b<B4/\B4<=V.heap.size
theorem OwnOf.abC {B:Nat}{X Z:World}{row:Option Nat}{fm:Int->Option Value}{Y:Int->Option (List UInt8)}{ks:List Nat}(h:OwnOf X fm Y ks)(hg:X.grownBy Z row)(hr:∀r,row=some r->B<=r/\∃o:Obj,X.heap[r]? = some o/\o.isCells=false):OwnOf Z fm Y ks:=fun k=>by
 rcases h k with h1|⟨h1,A,c,y,h2,h3,h4,h5⟩
 ·exact .inl h1
 ·exact .inr ⟨h1,A,c,y,h2,h3,h4,InB.ownFrom (B:=B) _ _ _ () X Z row h5 hg hr⟩
theorem InsAt.row {w0 X Z:World}{B M b B4:Nat}{Y:Int->Option (List UInt8)}{ks:List Nat}{row:Option Nat}(h:InsAt w0 B M b B4 Y ks X)(hg:X.grownBy Z row)(hr:∀r,row=some r->B4<=r/\∃o:Obj,X.heap[r]? = some o/\o.isCells=false):InsAt w0 B M b B4 Y ks Z:=by
 obtain⟨⟨es,co,f,h1,h2,h3,h4⟩,h5,h6,h7,h8,h9,h10⟩:=h
 exact⟨⟨es,co,f,h1.abSm (B:=B4) h8 hg (fun r e=>(hr r e).1),h2,h3,h4.abC (B:=B4) hg hr⟩,h5.abN (B:=B4) h9 hg (fun r e=>(hr r e).1),h6.trans (grown_below hg (by omega) (fun r e=>by have:=(hr r e).1;omega)),h7,h8,h9,zO h10 hg.size⟩
theorem InsAt.st (w0:World)(B M b B4:Nat)(Y:Int->Option (List UInt8)):StU B4 (fun (pre:List (Nat×(Option Addr×Nat))) U V=>InsAt w0 B M b B4 Y (pre.map (·.1)) V/\∀k,U k↔k=M):=fun _ _ _ _ _ h hg hr=>⟨h.1.row hg hr,h.2⟩
theorem minsert_in (n:Nat)(hn:8<=n)(w0 w:World)(B M q r many clock:Nat)(es:Array MapEntry)(f:Int->Option Value)(Y:Int->Option (List UInt8))
  (hq:BlkIs w q 87 #[.map (some r)]) (hm:MapIs w r es clock) (he:EnV es f) (hst:MapKept.Stamped es clock) (hP:PgIs w f Y) (hlt:KeysB f many) (hmany:many<=40000) (hM:MapIs w M #[] 0) (hMr:r≠M) (hup:Below B w0 w) (hBM:B<=M) (hBw:B<=w.heap.size) :
  CallsIn Fence.wide n Tryz.prog 129 #[.map (some M),.func (.func 112) #[] #[.pointer (some ⟨q,0,none⟩)]] w fun e w'=>e = .returned (.tuple #[])/\PMapAt w' M Y/\Below B w0 w':=by
 have h1:1<=n:=by omega
 obtain⟨W1,hW1⟩:∃W1,W1=w.alloc (.cells #[.map (some M)] 87):=⟨_,rfl⟩
 have hB1:Below w.heap.size w W1:=by rw[hW1];exact(Below.refl _ w).alloc (zG _) _
 have b1:BlkIs W1 w.heap.size 87 #[.map (some M)]:=by rw[hW1];exact BlkIs.new w _ _
 have s1:W1.heap.size=w.heap.size+1:=by rw[hW1];simp
 have hqM:q≠M:=fun e=>by
  subst e
  have h1:w.heap[q]? = some (.map #[] 0):=hM
  have h2:w.heap[q]? = some (.cells #[.map (some r)] 87 (0,0)):=hq
  rw[h1] at h2
  cases h2
 have hM1:=hM.below hB1 hM.lt
 have hup1:Below B w0 W1:=hup.trans (hB1.mono hBw)
 have hMl:=hM.lt
 have HS:=dirty1_seq (n - 1) (by omega) q r many clock es f Y W1 (hq.below hB1 hq.lt) (hm.below hB1 hm.lt) he hst (hP.grow hB1) hlt hmany
 have hkm:∀k:Nat,k∈keysV f many↔(Y (k:Int)).isSome=true:=fun k=>by
  rw[keysV_mem]
  rcases hP (k:Int) with⟨h2,h3⟩|⟨A,c,y,h2,h3,_⟩
  ·rw[h2,h3];simp
  ·rw[h2,h3]
   have:=hlt _ _ h2
   simp
   omega
 have hYb:∀k y,Y k=some y->0<=k:=fun k y hy=>by
  rcases hP k with⟨_,h3⟩|⟨A,c,y,h2,_⟩
  ·rw[h3] at hy;cases hy
  ·exact(hlt _ _ h2).1
 have HKM:=Lib.hid hkm
 have HYB:=Lib.hid hYb
 have HW1:=Lib.hid hW1.symm
 have hMW:M<W1.heap.size:=by omega
 have hwW:w.heap.size<W1.heap.size:=by omega
 clear hm hq he hst hP hlt hM hkm hYb hW1 s1
 refine callsIn_of_wp_marks Tryz.func129 rfl trivial ?_ rfl
 simp only[Tryz.ntmps129,zX,zR,qK,Nat.reduceAdd,Nat.reduceSub,qD,qE,qJ,qI,zV,qA]
 gi_wp2
 rw[HW1.out]
 refine wpIn_rangeFunc_U rfl h1 (gf:=112) (lb:=#[.pointer (some ⟨q,0,none⟩)]) rfl trivial (enters_of Tryz.func112 (by kernel_rfl) rfl)
  HS (Below.refl _ _) (fun _=>rfl) (fun k=>k=M) ⟨fun e=>hqM e,fun e=>hMr e,fun k e=>by subst e;exact .inl ⟨_,_,hM1⟩⟩
  (fun pre U V=>InsAt w0 B M w.heap.size W1.heap.size Y (pre.map (·.1)) V/\∀k,U k↔k=M) (fun _ _ _ _=>False) (InsAt.st _ _ _ _ _ _) (fun _ _ _ _ _ _ h _ _=>h) (fun s U X hs k hk=>by rw[(hs.2 k).1 hk];exact zP hs.1.b4.2.1 hs.1.b4.2.2.2) ?ownR
  ⟨⟨⟨#[],0,fun _=>none,hM1,EnV.empty,MapKept.stamped_empty 0,fun k => .inl ⟨by simp,rfl⟩⟩,b1,hup1,hBM,hMW,hwW,zG _⟩,fun k=>Iff.rfl⟩ ?act ?assign ?body ?done ?stop
 case ownR =>
  rintro pre x _ X Y2 row ⟨e1,e2,y,e3,e4,e5,e6⟩ hgr hr
  exact⟨e1,e2,y,e3,e4,InB.ownFrom (B:=W1.heap.size) _ _ _ () X Y2 row e5 hgr hr,TyB.ownFrom (B:=W1.heap.size) _ () X Y2 row e6 hgr hr⟩
 case assign =>
  intro l1 x V K hK
  simp only[pgEnc]
  gi_wp2
  exact hK
 case body =>
  rintro l1 pre ⟨x1,A6,c6⟩ U V ⟨⟨⟨es2,c2,f2,i1,i2,i3,i4⟩,i5,i6,i7⟩,hU⟩ ⟨_,_,y,e3,e4,e5,e6⟩
  simp only at e3 e5
  have k1:=i5.boxed
  have H3:=Lib.hid e3
  have H4:=Lib.hid e4
  have HU:=Lib.hid hU
  clear e3 e4 hU
  gi_wp2_with (first
   | (refine wpR_mputV rfl (.tmp 9) (.tmp 10) (.tmp 11) rfl rfl rfl rfl i2 i3 i1 ?_;intro es7 c7 W7 hm7 he7 hs7 hg7)
   | (refine⟨trivial,?_⟩;fail_if_success (refine callsIn_wide.2 ?_)))
  refine⟨U,LaterU.refl _ _,KeepU.grown U hg7 (fun r e=>by injection e with e;subst e;exact(HU.out _).2 rfl),⟨⟨es7,c7,_,hm7,he7,hs7,?_⟩,i5.grownMap i1 hg7,i6.trans (grown_below hg7 (by omega) (fun r e=>by injection e with e;omega)),i7.1,i7.2.1,i7.2.2.1,zO i7.2.2.2 hg7.size⟩,HU.out⟩
  rw[List.map_append]
  exact i4.add i1 hg7 H3.out H4.out e5
 case done =>
  rintro D ys U V hD hS ⟨hI,_⟩ hK
  gi_wp2
  have j:=hI.row (grownBy_putObj' V D (.deferred none)) (fun r e=>by injection e with e;subst e;exact⟨hD,_,hK,rfl⟩)
  obtain⟨⟨es2,c2,f2,i1,i2,i3,i4⟩,_,i6,_⟩:=j
  refine⟨by simp,.inl ⟨D,_,rfl,run_takeDeferred hK,?_⟩⟩
  refine⟨_,results_none rfl _ _ _,rfl,⟨⟨es2,c2,f2,i1,i2,i3,fun k => ?_⟩⟩,i6⟩
  rw[hS] at i4
  rcases i4 k with⟨h2,h3⟩|⟨_,h2⟩
  ·refine .inl ⟨h3,?_⟩
   cases hY:Y k with
   | none=>rfl
   | some y =>
    have p1:=HYB.out k y hY
    have e:((k.toNat:Nat):Int)=k:=by omega
    exact absurd e (h2 k.toNat ((HKM.out k.toNat).2 (by rw[e,hY];rfl)))
  ·exact .inr h2
 case stop =>
  rintro D c pre U V _ _ h _
  exact h.elim
theorem dirtyY_dirF (V:RowsV):dirtyY V=dirF (rowsR V):=by
 funext k
 apply Option.ext
 intro y
 rw[dirF_some]
 exact rowsR_dirty.symm
theorem mcollect_in (n:Nat)(hn:9<=n)(w:World)(q r many clock:Nat)(es:Array MapEntry)(f:Int->Option Value)(Y:Int->Option (List UInt8))
  (hq:BlkIs w q 87 #[.map (some r)]) (hm:MapIs w r es clock) (he:EnV es f) (hst:MapKept.Stamped es clock) (hP:PgIs w f Y) (hlt:KeysB f many) (hmany:many<=40000) :
  CallsIn Fence.wide n Tryz.prog 81 #[.func (.func 112) #[] #[.pointer (some ⟨q,0,none⟩)]] w fun e w'=>∃M,e = .returned (.map (some M))/\PMapAt w' M Y/\w.heap.size<=M/\Below w.heap.size w w':=by
 have hBm:Below w.heap.size w (w.alloc (.map #[] 0)):=(Below.refl _ w).alloc (zG _) _
 have h1:1<=n:=by omega
 have hrl:=hm.lt
 have HI:=minsert_in (n - 1) (by omega) w (w.alloc (.map #[] 0)) w.heap.size w.heap.size q r many clock es f Y (hq.below hBm hq.lt) (hm.below hBm hm.lt) he hst (hP.grow hBm) hlt hmany (heap_alloc_new w _) (by omega) hBm (zG _) (by simp)
 clear hm hq he hst hP hlt
 refine callsIn_of_wp Tryz.func81 rfl trivial ?_ rfl
 simp only[Tryz.ntmps81,zX,zR,qK,Nat.reduceAdd,Nat.reduceSub,qD,qE,qJ,qI,zV,qA]
 gi_wp2_with (first
  | (refine wpV_exec rfl (x_makeMap rfl) ?_)
  | (refine⟨trivial,?_⟩;gi_at_call 129;refine HI.mono ?_;rintro e W4 ⟨rfl,hPM,hB4⟩)
  | (refine⟨trivial,?_⟩;fail_if_success (refine callsIn_wide.2 ?_)))
 go_ret
 exact⟨w.heap.size,rfl,hPM,zG _,hB4⟩
theorem pdirty_in (n:Nat)(hn:10<=n){W0 W:World}{K:PgK}{p:Nat}{v:PgV}{st last:PgSt}{under:Bool}{mk:Value}(h:PaIs W0 K p v st last under mk W)(hK:K.Ok) :
  CallsIn Fence.wide n Tryz.prog 48 #[.pointer (some ⟨p,0,none⟩)] W fun e W'=>∃M,e = .returned (.map (some M))/\PMapAt W' M v.D/\W.heap.size<=M/\Below W.heap.size W W':=by
 have hf:∀k x,v.c.V k=some x->x.y.length=512:=h.ca.ro.full
 have HD:=cdirty_gives W K.a K.f K.r K.P K.room v.c.now v.c.hh v.c.mm v.c.V h.ca.cs.ca
 have hPg:=dirtyPg h.ca.cs.ca hf
 have hKB:=hPg.keys (many:=K.P) (fun k y hy=>by
  unfold dirtyY at hy
  cases hv:v.c.V k with
  | none=>rw[hv] at hy;cases hy
  | some x=>exact(h.ca.cs.ca.rows k x hv).key)
 have hP2:=hK.P2
 have HC:∀(X:World) (q s co:Nat) (eo:Array MapEntry),BlkIs X q 87 #[.map (some s)]->MapIs X s eo co->EnV eo (dirtyF v.c.V)->MapKept.Stamped eo co->Below W.heap.size W X->CallsIn Fence.wide (n - 1) Tryz.prog 81 #[.func (.func 112) #[] #[.pointer (some ⟨q,0,none⟩)]] X fun e w'=>∃M,e = .returned (.map (some M))/\PMapAt w' M v.D/\X.heap.size<=M/\Below X.heap.size X w':=fun X q s co eo h1 h2 h3 h4 h5=>by
  have:=mcollect_in (n - 1) (by omega) X q s K.P co eo (dirtyF v.c.V) (dirtyY v.c.V) h1 h2 h3 h4 (hPg.grow h5) hKB (by omega)
  rw[dirtyY_dirF] at this
  exact this
 have k19:=h.chc
 have h1:1<=n:=by omega
 clear hPg hKB hP2 hf
 refine callsIn_of_wp Tryz.func48 rfl trivial ?_ rfl
 simp only[Tryz.ntmps48,zX,zR,qK,Nat.reduceAdd,Nat.reduceSub,qD,qE,qJ,qI,zV,qA]
 gi_wp2_with (first
  | (refine⟨trivial,?_⟩;gi_at_call 68;refine(callsIn_wide.2 HD).mono ?_;rintro e W3 ⟨q,s3,eo,co,rfl,hq,hms,heo,hso,hB3,_,_⟩)
  | (refine⟨trivial,?_⟩;gi_at_call 81;refine(HC W3 q s3 co eo hq hms heo hso hB3).mono ?_;rintro e W4 ⟨M,rfl,hPM,hM,hB4⟩)
  | (refine⟨trivial,?_⟩;fail_if_success (refine callsIn_wide.2 ?_)))
 go_ret
 exact⟨M,rfl,hPM,zO hB3.size hM,hB3.trans (hB4.mono hB3.size)⟩
end Go.Proofs.YtnlimngkagmjpaaGreat
namespace Go.Proofs.YtnlimngkagmjpaaGreat
open Go Go.RowKit Lou
theorem cell_lt {w:World}{p:Addr}{v:Value}(h:w.cell? p=some v):p.block<w.heap.size:=by
 cases ho:w.heap[p.block]? with
 | none=>simp[World.cell?,ho] at h
 | some o=>exact(zH.1 ho).1
def numB (x:Int):List UInt8:=fixL 4 (IntKind.u32.wrap x).toNat
def numsB (l:List Int):List UInt8:=(l.map numB).flatten
theorem numsB_length (l:List Int):(numsB l).length=4*l.length:=by
 unfold numsB
 induction l with
 | nil=>rfl
 | cons x l ih=>simp only[zK,List.flatten_cons,zQ,ih,numB,fixL_length,zR];omega
theorem numsB_take {l:List Int}{k:Nat}(h:k<l.length):numsB (l.take (k+1))=numsB (l.take k)++numB l[k]:=by
 unfold numsB
 rw[zU h,List.map_append,List.flatten_append]
 simp
theorem rfix_numB {x:Int}(h:0<=x/\x<4294967296):((rfix (numB x):Nat):Int)=x:=by
 have e:IntKind.u32.wrap x=x:=by
  show x % 4294967296=x
  omega
 unfold numB
 rw[e,rfix_fixL_lt (by show x.toNat<256 ^ 4;omega)]
 omega
theorem pnumbers_gives (w:World)(A:Option Addr)(c:Nat)(l:List Int)(h:InN w A l)(hl:l.length<=100):Calls Tryz.prog 47 #[.slice A l.length c] w (GivesB w (numsB l)):=by
 go_enter Tryz.func47,Tryz.ntmps47
 go_wp2_with fail
 go_loopw [2,7] (fun v i wr=>∃k:Nat,k<=l.length/\i = .int .i64 (k:Int)/\OwnB wr w.heap.size v (numsB (l.take k))/\Below w.heap.size w wr) (fun _ i _=>l.length - (intOf i).toNat)
 case atStart=>exact⟨0,Nat.zero_le _,rfl,OwnB.nil _ _,Below.refl _ _⟩
 case round =>
  obtain⟨k,hk,rfl,hown,hB⟩:=hrel
  have hBs:=hB.size
  by_cases hlt:k<l.length
  ·obtain⟨g,o,rfl,hc⟩:=h.lies (by omega)
   have hck:=(hB.cell (p:=⟨g,o+k,none⟩) (cell_lt (hc k hlt))).trans (hc k hlt)
   have hnx:=numsB_take hlt
   have hlen:=numsB_length (l.take k)
   rw[List.length_take] at hlen
   obtain⟨x,hx⟩:∃x,x=l[k]:=⟨_,rfl⟩
   rw[<-hx] at hck hnx
   have hN:(((IntKind.u32.wrap x).toNat:Nat):Int)=IntKind.u32.wrap x:=by
    have:0<=IntKind.u32.wrap x:=by
     show 0<=x % 4294967296
     omega
    omega
   have HF:∀W,Calls Tryz.prog 80 #[.int .u32 (IntKind.u32.wrap x)] W (GivesB W (numB x)):=fun W=>by
    have:=four_gives (IntKind.u32.wrap x).toNat W
    rw[hN] at this
    exact this
   have hnl:(numB x).length=4:=fixL_length _ _
   have HNX:=Lib.hid hnx
   have HNL:=Lib.hid hnl
   have hwk:IntKind.i64.wrap ((k:Int)+1)=(k:Int)+1:=wrap_i64_fr _ (by omega) (by omega)
   clear hc hx hN hnx hnl h
   generalize numB x=nb at *
   generalize hP:numsB (l.take k)=pre at *
   go_wp2_with (first
    | (go_at_call 80;refine(HF _).mono ?_;rintro e w4 ⟨v4,rfl,own4,hB4⟩;obtain⟨A4,c4,rfl,hin4⟩:=own4.inB;have ownw:=hown.later hB4;have hB04:=hB.trans (hB4.mono hBs))
    | (refine wp_appB rfl (.tmp 11) (.tmp 14) rfl w.heap.size u2 pre (by rfl) ownw w4.heap.size A4 c4 nb (by rfl) hin4 (by rw[HNL.out];omega) hB04.size ?_;intro v' w5 hown5 hg5;have hB5:=ownw.below hB04 hg5))
   rw[<-HNX.out] at hown5
   exact⟨⟨k+1,by omega,by simp,hown5,hB5⟩,by simp[intOf];omega⟩
  ·obtain rfl:k=l.length:=by omega
   rw[List.take_length] at hown
   go_wp2
   go_ret
   exact⟨_,rfl,hown,hB⟩
def IntsL (xs:List Int)(v:Value)(w:World):Prop:=∃b,v = .slice (some ⟨b,0,none⟩) xs.length xs.length/\∀j (h:j<xs.length),w.cell? ⟨b,j,none⟩=some (.int .i64 xs[j])
theorem ints_stable (xs:List Int):∀v w w',IntsL xs v w->Grow w w'->IntsL xs v w':=by
 rintro v w w' ⟨b,hv,h⟩ hg
 exact⟨b,hv,fun j hj=>(hg.cell (p:=⟨b,j,none⟩) (cell_lt (h j hj))).trans (h j hj)⟩
theorem IntsL.gives {xs:List Int}{v:Value}{w:World}(h:IntsL xs v w)(hl:xs.length<=100):Calls Tryz.prog 47 #[v] w (GivesB w (numsB xs)):=by
 obtain⟨b,rfl,h⟩:=h
 exact pnumbers_gives w _ _ xs ⟨fun _=>⟨b,0,rfl,fun j hj=>by rw[qG];exact h j hj⟩⟩ hl
def padB (l:List UInt8):List UInt8:=l++zN (512 - l.length) 0
theorem padB_length {l:List UInt8}(h:l.length<=512):(padB l).length=512:=by unfold padB;simp;omega
theorem splice_pad {l:List UInt8}(h:l.length<=512):spliceB (zN 512 0) 0 512 l=padB l:=by
 unfold spliceB padB
 rw[List.take_zero,zV,qG,zW (by omega),Nat.min_eq_left h,List.drop_replicate]
theorem ppage_walk (w:World)(v:Value)(l:List UInt8)(hl:l.length<=512)(HC:∀W,Below w.heap.size w W->Calls Tryz.prog 79 #[v] W (GivesB W l)):Calls Tryz.prog 44 #[v] w (GivesB w (padB l)):=by
 go_enter Tryz.func44,Tryz.ntmps44
 go_wp2_with (first
  | (refine wp_makeB rfl _ _ rfl w.heap.size .i64 .i64 512 rfl rfl (by omega) (zG _) ?_;intro w1 own1 hg1;have hB1:Below w.heap.size w w1:=grown_below hg1 (zG _) (fun r hr=>by cases hr);have bk:=OwnB.blk (l:=zN 512 0) own1)
  | (go_at_call 79;refine(HC w1 hB1).mono ?_;rintro e w2 ⟨v2,rfl,own2,hB2⟩;obtain⟨A2,c2,rfl,hin2⟩:=own2.inB;have bk2:=bk.1.below hB2 bk.1.lt)
  | (refine wp_copyB rfl (.tmp 5) (.tmp 7) rfl w.heap.size 0 (zN 512 0) l A2 c2 w2.heap.size 512 512 rfl rfl bk2 hin2 (by simp) ?_;rw[splice_pad hl]))
 have hB3:Below w.heap.size w (w2.setRow w.heap.size ((padB l).map b8).toArray):=below_setRow (hB1.trans (hB2.mono hB1.size)) (zG _) _
 have b3:=bk2.setRow ((padB l).map b8).toArray
 have own3:OwnB (w2.setRow w.heap.size ((padB l).map b8).toArray) w.heap.size (.slice (some ⟨w.heap.size,0,none⟩) 512 512) (padB l) :=
  ⟨by simp[padB_length hl],.inr ⟨w.heap.size,512,_,by rw[padB_length hl],zG _,b3,by rw[padB_length hl];exact zG _,by decide,by simp[padB_length hl],by rw[padB_length hl,Nat.mul_one,zW (by simp[padB_length hl])]⟩⟩
 go_ret
 exact⟨_,rfl,own3,hB3⟩
theorem ppage_gives {w:World}{ls:List (List UInt8)}{v:Value}(h:Lists ls v w)(hm:ls.length<=1000)(hf:ls.flatten.length<=512):Calls Tryz.prog 44 #[v] w (GivesB w (padB ls.flatten)) :=
 ppage_walk w v _ hf fun W hB=>concatL_gives (lists_stable ls _ _ _ h (by exact hB)) hm (by omega)
theorem ppage_none (w:World):Calls Tryz.prog 44 #[.slice none 0 0] w (GivesB w (zN 512 0)) :=
 ppage_walk w _ [] (by simp) fun W hB=>concat_gives W none 0 [] ⟨zG _,by decide,fun h=>absurd h (by simp)⟩ (by simp)
theorem blk_setCells {g:Nat}{T:TypeId}:∀(vs:List Value) (o:Nat) (w:World) (cs:List Value),BlkIs w g T cs.toArray->o+vs.length<=cs.length->BlkIs (w.setCells g o vs) g T (cs.take o++vs++cs.drop (o+vs.length)).toArray
 | [],o,w,cs,h,_=>by
  have e:cs.take o++[] ++ cs.drop (o+([]:List Value).length)=cs:=by simp
  rw[e]
  exact h
 | v::r,o,w,cs,h,hl=>by
  simp only[zR] at hl
  have h1:=h.set o v
  have e:cs.toArray.setIfInBounds o v=(cs.set o v).toArray:=by simp
  rw[e] at h1
  have h2:=blk_setCells r (o+1) _ (cs.set o v) h1 (by simp;omega)
  have e3:(cs.set o v).take (o+1)=cs.take o++[v]:=by
   rw[zU (by simp;omega),List.take_set_of_le (zG _)]
   simp
  have e4:(cs.set o v).drop (o+1+r.length)=cs.drop (o+(r.length+1)):=by
   rw[List.drop_set_of_lt (by omega)]
   congr 1
   omega
  rw[e3,e4] at h2
  have e5:cs.take o++[v] ++ r++cs.drop (o+(r.length+1))=cs.take o++v::r++cs.drop (o+(v::r).length):=by simp
  rw[e5] at h2
  exact h2
theorem growBut_setCells {Mu:Nat->Prop}{g:Nat}(hg:Mu g):∀(vs:List Value) (o:Nat) (w:World),GrowBut Mu w (w.setCells g o vs)
 | [],_,w=>GrowBut.refl _ _
 | v::r,o,w=>(GrowBut.setCell w ⟨g,o,none⟩ v hg).trans (growBut_setCells hg r (o+1) _)
theorem blk_there {w:World}{g o n:Nat}{T:TypeId}{cs:Array Value}(h:BlkIs w g T cs)(hn:o+n<=cs.size):w.there g o n:=fun j hj=>by
 have hc:w.cell? ⟨g,o+j,none⟩=some cs[o+j]:=by rw[h.cell];exact Array.getElem?_eq_getElem (by omega)
 have hh:w.heap[g]? = some (.cells cs T (0,0)):=h
 refine⟨by rw[hc];rfl,?_⟩
 simp[World.frozen?,hh]
theorem psC_one (s:PgSt):∀v∈psC s,v.oneCell'=true:=by
 intro v hv
 simp only[psC,qM,List.mem_map] at hv
 rcases hv with rfl|rfl|rfl|⟨x,_,rfl⟩<;>rfl
theorem rowPgSt:RowTy Tryz.prog 51 19:=⟨⟨_,Tryz.underlying51,rfl⟩,by kernel_rfl⟩
section
variable {s l s' l':PgSt}{cv mk mk':Value}{u u':Bool}
theorem pgC_list (s l:PgSt)(cv mk:Value)(u:Bool):pgC s cv l u mk=(psC s++cv::(psC l++[.bool u,mk])).toArray:=rfl
theorem pgCl_length (hs:s.roots.length=16)(hl:l.roots.length=16):(psC s++cv::(psC l++[.bool u,mk])).length=41:=by simp[psC_length hs,psC_length hl]
theorem pgC_setUnder (hs:s.roots.length=16)(hl:l.roots.length=16):(pgC s cv l u mk).setIfInBounds 39 (.bool u')=pgC s cv l u' mk:=by
 rw[pgC_list,pgC_list,zA,List.set_append_right _ _ (by rw[psC_length hs];omega),psC_length hs,show 39 - 19=19+1 from rfl,zE,List.set_append_right _ _ (by rw[psC_length hl];omega),psC_length hl]
 rfl
theorem pgC_setMarks (hs:s.roots.length=16)(hl:l.roots.length=16):(pgC s cv l u mk).setIfInBounds 40 mk'=pgC s cv l u mk':=by
 rw[pgC_list,pgC_list,zA,List.set_append_right _ _ (by rw[psC_length hs];omega),psC_length hs,show 40 - 19=20+1 from rfl,zE,List.set_append_right _ _ (by rw[psC_length hl];omega),psC_length hl]
 rfl
theorem pgC_setSize (n:Int):(pgC s cv l u mk).setIfInBounds 0 (.int .i64 n)=pgC { s with size:=n } cv l u mk:=by
 rw[pgC_list,pgC_list,zA]
 rfl
theorem pgC_setFirst (n:Int):(pgC s cv l u mk).setIfInBounds 1 (.int .i64 n)=pgC { s with first:=n } cv l u mk:=by
 rw[pgC_list,pgC_list,zA]
 rfl
theorem pgC_setMany (n:Int):(pgC s cv l u mk).setIfInBounds 2 (.int .i64 n)=pgC { s with many:=n } cv l u mk:=by
 rw[pgC_list,pgC_list,zA]
 rfl
theorem pgC_setRoot (hs:s.roots.length=16){i:Nat}(hi:i<16)(n:Int):(pgC s cv l u mk).setIfInBounds (3+i) (.int .i64 n)=pgC { s with roots:=s.roots.set i n } cv l u mk:=by
 have e:(psC s).set (3+i) (.int .i64 n)=psC { s with roots:=s.roots.set i n }:=by
  unfold psC
  rw[show 3+i=i+1+1+1 by omega,zE,zE,zE,List.map_set]
 rw[pgC_list,pgC_list,zA,List.set_append_left _ _ (by rw[psC_length hs];omega),e]
theorem pgC_state (hs:s.roots.length=16):(psC s++cv::(psC l++[.bool u,mk])).take 0++psC s'++(psC s++cv::(psC l++[.bool u,mk])).drop (0+19)=psC s'++cv::(psC l++[.bool u,mk]):=by
 rw[qG,List.drop_left' (psC_length hs)]
 rfl
theorem pgC_last (hs:s.roots.length=16)(hl:l.roots.length=16):(psC s++cv::(psC l++[.bool u,mk])).take 20++psC l'++(psC s++cv::(psC l++[.bool u,mk])).drop (20+19)=psC s++cv::(psC l'++[.bool u,mk]):=by
 have e1:psC s++cv::(psC l++[.bool u,mk])=(psC s++[cv])++(psC l++[.bool u,mk]):=by simp
 have h1:(psC s++[cv]).length=20:=by simp[psC_length hs]
 rw[e1,List.take_left' h1,show 20+19=20+19 from rfl,<-List.drop_drop,List.drop_left' h1,List.drop_left' (psC_length hl)]
 simp
end
section
variable {W0 W:World}{K:PgK}{p:Nat}{v:PgV}{st last st' last':PgSt}{under under':Bool}{mk mk':Value}
theorem PaIs.setUnder (h:PaIs W0 K p v st last under mk W):PaIs W0 K p v st last under' mk (W.setCell ⟨p,39,none⟩ (.bool under'))/\GrowBut (fun k=>k=p) W (W.setCell ⟨p,39,none⟩ (.bool under')):=by
 have hG:GrowBut (fun k=>k=p) W (W.setCell ⟨p,39,none⟩ (.bool under')):=GrowBut.setCell _ _ _ rfl
 have hb:=h.pb.set 39 (.bool under')
 rw[pgC_setUnder h.hs h.hl] at hb
 exact⟨h.own hG hb h.hs h.hl,hG⟩
theorem PaIs.setMarks (h:PaIs W0 K p v st last under mk W):PaIs W0 K p v st last under mk' (W.setCell ⟨p,40,none⟩ mk')/\GrowBut (fun k=>k=p) W (W.setCell ⟨p,40,none⟩ mk'):=by
 have hG:GrowBut (fun k=>k=p) W (W.setCell ⟨p,40,none⟩ mk'):=GrowBut.setCell _ _ _ rfl
 have hb:=h.pb.set 40 mk'
 rw[pgC_setMarks h.hs h.hl] at hb
 exact⟨h.own hG hb h.hs h.hl,hG⟩
theorem PaIs.setFirst (h:PaIs W0 K p v st last under mk W)(n:Int):PaIs W0 K p v { st with first:=n } last under mk (W.setCell ⟨p,1,none⟩ (.int .i64 n))/\GrowBut (fun k=>k=p) W (W.setCell ⟨p,1,none⟩ (.int .i64 n)):=by
 have hG:GrowBut (fun k=>k=p) W (W.setCell ⟨p,1,none⟩ (.int .i64 n)):=GrowBut.setCell _ _ _ rfl
 have hb:=h.pb.set 1 (.int .i64 n)
 rw[pgC_setFirst] at hb
 exact⟨h.own hG hb h.hs h.hl,hG⟩
theorem PaIs.setMany (h:PaIs W0 K p v st last under mk W)(n:Int):PaIs W0 K p v { st with many:=n } last under mk (W.setCell ⟨p,2,none⟩ (.int .i64 n))/\GrowBut (fun k=>k=p) W (W.setCell ⟨p,2,none⟩ (.int .i64 n)):=by
 have hG:GrowBut (fun k=>k=p) W (W.setCell ⟨p,2,none⟩ (.int .i64 n)):=GrowBut.setCell _ _ _ rfl
 have hb:=h.pb.set 2 (.int .i64 n)
 rw[pgC_setMany] at hb
 exact⟨h.own hG hb h.hs h.hl,hG⟩
theorem PaIs.setRoot (h:PaIs W0 K p v st last under mk W){i:Nat}(hi:i<16)(n:Int):PaIs W0 K p v { st with roots:=st.roots.set i n } last under mk (W.setCell ⟨p,3+i,none⟩ (.int .i64 n))/\GrowBut (fun k=>k=p) W (W.setCell ⟨p,3+i,none⟩ (.int .i64 n)):=by
 have hG:GrowBut (fun k=>k=p) W (W.setCell ⟨p,3+i,none⟩ (.int .i64 n)):=GrowBut.setCell _ _ _ rfl
 have hb:=h.pb.set (3+i) (.int .i64 n)
 rw[pgC_setRoot h.hs hi] at hb
 exact⟨h.own hG hb (by simpa using h.hs) h.hl,hG⟩
theorem PaIs.setState (h:PaIs W0 K p v st last under mk W)(hs:st'.roots.length=16):PaIs W0 K p v st' last under mk (W.setCells p 0 (psC st'))/\GrowBut (fun k=>k=p) W (W.setCells p 0 (psC st')):=by
 have hG:GrowBut (fun k=>k=p) W (W.setCells p 0 (psC st')):=growBut_setCells (Mu:=fun k=>k=p) rfl _ _ _
 have hb:=blk_setCells (psC st') 0 W _ h.pb (by rw[pgCl_length h.hs h.hl,psC_length hs];omega)
 rw[psC_length hs,pgC_state h.hs] at hb
 exact⟨h.own hG hb hs h.hl,hG⟩
theorem PaIs.setLast (h:PaIs W0 K p v st last under mk W)(hl:last'.roots.length=16):PaIs W0 K p v st last' under mk (W.setCells p 20 (psC last'))/\GrowBut (fun k=>k=p) W (W.setCells p 20 (psC last')):=by
 have hG:GrowBut (fun k=>k=p) W (W.setCells p 20 (psC last')):=growBut_setCells (Mu:=fun k=>k=p) rfl _ _ _
 have hb:=blk_setCells (psC last') 20 W _ h.pb (by rw[pgCl_length h.hs h.hl,psC_length hl];omega)
 rw[psC_length hl,pgC_last h.hs h.hl] at hb
 exact⟨h.own hG hb h.hs hl,hG⟩
theorem PaIs.stRange (h:PaIs W0 K p v st last under mk W):W.rangeAt p 0 (psC st):=fun j x hj=>by
 have hl:=(zT.1 hj).1
 rw[psC_length h.hs] at hl
 rw[qG,h.pb.cell,pgC_state' h.hs hl]
 exact hj
theorem PaIs.lastRange (h:PaIs W0 K p v st last under mk W):W.rangeAt p 20 (psC last):=fun j x hj=>by
 have hl:=(zT.1 hj).1
 rw[psC_length h.hl] at hl
 rw[h.pb.cell]
 unfold pgC
 rw[List.getElem?_toArray,zZ (by rw[psC_length h.hs];omega),psC_length h.hs,show 20+j - 19=j+1 by omega,List.getElem?_cons_succ,List.getElem?_append_left (by rw[psC_length h.hl];omega)]
 exact hj
end
def MkCell (x:Value):Prop:=(∃n,x = .int .i64 n)∨(∃m,x = .map m)∨∃A n c,x = .slice A n c
def MkBlk (W:World)(k:Nat):Prop:=∃(T:TypeId) (cs:Array Value),(T=90∨T=39)/\BlkIs W k T cs/\∀(j:Nat) (x:Value),cs[j]? = some x->MkCell x
section
variable {W W':World}{k o:Nat}
theorem MkBlk.cell (h:MkBlk W k){x:Value}(hc:W.cell? ⟨k,o,none⟩=some x):MkCell x:=by
 obtain⟨T,cs,_,hb,h⟩:=h
 rw[hb.cell] at hc
 exact h o x hc
theorem MkBlk.u8 (h:MkBlk W k){n:Int}(hc:W.cell? ⟨k,o,none⟩=some (.int .u8 n)):False:=by
 rcases h.cell hc with⟨m,e⟩|⟨m,e⟩|⟨_,_,_,e⟩<;>cases e
theorem MkBlk.u64 (h:MkBlk W k){n:Int}(hc:W.cell? ⟨k,o,none⟩=some (.int .u64 n)):False:=by
 rcases h.cell hc with⟨m,e⟩|⟨m,e⟩|⟨_,_,_,e⟩<;>cases e
theorem MkBlk.notTy (h:MkBlk W k){T:TypeId}{cs:Array Value}(hb:BlkIs W k T cs)(hT:T≠90/\T≠39):False:=by
 obtain⟨T',cs',hT',hb',_⟩:=h
 rcases hT' with rfl|rfl
 ·exact BlkIs.ne_type hb hb' hT.1 rfl
 ·exact BlkIs.ne_type hb hb' hT.2 rfl
theorem MkBlk.notMap (h:MkBlk W k){es:Array MapEntry}{c:Nat}(hm:MapIs W k es c):False:=by
 obtain⟨_,cs',_,hb',_⟩:=h
 exact hm.notBlk hb' rfl
theorem InB.keepM {Mu:Nat->Prop}{A:Option Addr}{c:Nat}{l:List UInt8}(h:InB W W.heap.size A c l)(hG:GrowBut Mu W W')(hMu:∀k,Mu k->MkBlk W k):InB W' W'.heap.size A c l :=
 hG.inB h (fun g o e h0 hm=>by
  obtain⟨g',o',e',_,hc⟩:=h.lies h0
  rw[e] at e'
  injection e' with e'
  injection e' with e1 e2
  subst e1 e2
  exact(hMu g hm).u8 (hc 0 h0))
theorem DkIs.keepM {Mu:Nat->Prop}{d many:Nat}{g:Nat->List UInt8}{xs:List (Nat×List UInt8)}{left:Int}{st:Bool}(h:DkIs W d many g xs left st)(hG:GrowBut Mu W W')(hMu:∀k,Mu k->MkBlk W k):DkIs W' d many g xs left st:=by
 obtain⟨r,A,c,hb,hm,hw,hx⟩:=h.has
 have hr:¬ Mu r:=fun e=>by
  obtain⟨es,ck,hmi,_⟩:=hm.lies
  exact(hMu r e).notMap hmi
 refine⟨r,A,c,hG.blk hb (fun e=>(hMu d e).notTy hb (by decide)),hm.keep (hG.block r hm.lt hr),hw,⟨hx.le,hx.max,hx.nil,hx.len,hx.one,fun h0 => ?_⟩⟩
 obtain⟨b,o,e,hbl,hrg⟩:=hx.lies h0
 subst e
 have hbn:¬ Mu b:=fun hmb=>by
  have hel:=InW.elem (w:=W) (B:=W.heap.size) (c:=c) ⟨hw,hx⟩ 0 h0
  have h64:=hw xs[0] (qH h0)
  have h65:0<(xs[0]).2.length:=by omega
  have hl1:(lsC xs[0])[1]? = some (b8 ((xs[0]).2[0]'h65)):=by
   show ((xs[0]).2.map b8)[0]? = _
   rw[List.getElem?_map,zI h65]
   rfl
  have hc:=hel 1 _ hl1
  exact(hMu b hmb).u8 hc
 exact⟨b,o,rfl,zP hbl hG.size,fun j v hj=>hG.cell (p:=⟨b,o+j,none⟩) (hrg j v hj) hbl hbn⟩
theorem LogIs.keepM {Mu:Nat->Prop}{l d:Nat}{fr pg:Int}{S:LgS}(h:LogIs W l d fr pg S)(hG:GrowBut Mu W W')(hMu:∀k,Mu k->MkBlk W k):LogIs W' l d fr pg S:=by
 obtain⟨hld,A,c,vs,hlg,hF,hvs⟩:=h
 refine⟨hld,A,c,vs,hG.blk hlg (fun e=>(hMu l e).notTy hlg (by decide)),⟨hF.row.keepG hG (fun g o e hm => ?_),hF.out,hF.nil,fun v hv=>⟨(hF.bys v hv).1.keepM hG hMu,(hF.bys v hv).2⟩⟩,hvs⟩
 subst e
 have ho:=(hF.out g o rfl).2
 subst ho
 have hn:vs≠[]:=fun e=>by have:=hF.nil e;cases this
 have h1:0<vs.length:=List.length_pos_iff.2 hn
 obtain⟨g',o',e',_,hr⟩:=hF.row.lies (by omega)
 injection e' with e'
 injection e' with e1 e2
 subst e1 e2
 have hel:=hF.row.elem 0 h1
 rw[vsC_elem vs 0 h1] at hel
 exact(hMu g hm).u64 (hel 0 (.int .u64 ((vs[0]).1.e:Int)) rfl)
end
section
variable {W0 W W':World}{K:PgK}{p:Nat}{v v':PgV}{st last st' last':PgSt}{under under':Bool}{mk mk':Value}
theorem CaAt.keepM {Mu:Nat->Prop}(h:CaAt W0 K v W)(hG:GrowBut Mu W W')(hMu:∀k,Mu k->MkBlk W k)(hge:∀k,Mu k->W0.heap.size<=k):CaAt W0 K v W':=by
 refine⟨⟨?_,?_,h.cs.nb,h.cs.nz,h.cs.y5⟩,h.st,h.pi,h.ok,h.ro,h.cn⟩
 ·have hf:=h.cs.fh
  exact⟨hf.up.trans (hG.toBelow hf.up.size hge),DkIs.keepM hf.dk hG hMu,LogIs.keepM hf.lg hG hMu,hG.blk hf.fb (fun e=>(hMu _ e).notTy hf.fb (by decide)),hf.gd,hf.gl⟩
 ·have hc:=h.cs.ca
  obtain⟨es,c,hm,he,hs⟩:=hc.mp
  refine⟨hG.blk hc.cb (fun e=>(hMu _ e).notTy hc.cb (by decide)),⟨es,c,(hG.block _ hm.lt (fun e=>(hMu _ e).notMap hm)).trans hm,he,hs⟩,fun k v hv => ?_,hc.inj,hc.iat⟩
  have hr:=hc.rows k v hv
  exact⟨hG.blk hr.blk (fun e=>(hMu _ e).notTy hr.blk (by decide)),hr.key,hr.bys.keepM hG hMu,hr.len,hr.at0⟩
theorem PaIs.keepM {Mu:Nat->Prop}(h:PaIs W0 K p v st last under mk W)(hG:GrowBut Mu W W')(hMu:∀k,Mu k->MkBlk W k)(hge:∀k,Mu k->W0.heap.size<=k):PaIs W0 K p v st last under mk W' :=
 ⟨h.ca.keepM hG hMu hge,hG.blk h.pb (fun e=>(hMu _ e).notTy h.pb (by decide)),h.np,h.hs,h.hl⟩
theorem PgIs.keepS {Mu:Nat->Prop}{f:Int->Option Value}{Y:Int->Option (List UInt8)}(h:PgIs W f Y)(hG:GrowBut Mu W W')(hsm:∀k,Mu k->SmBlk W k):PgIs W' f Y:=fun k=>by
 rcases h k with h1|⟨A,c,y,h1,h2,h3,h4⟩
 ·exact .inl h1
 ·exact .inr ⟨A,c,y,h1,h2,h3,h4.keepC (by omega) hG (fun j hj=>(hsm j hj).ca)⟩
theorem PgIs.keepM {Mu:Nat->Prop}{f:Int->Option Value}{Y:Int->Option (List UInt8)}(h:PgIs W f Y)(hG:GrowBut Mu W W')(hMu:∀k,Mu k->MkBlk W k):PgIs W' f Y:=fun k=>by
 rcases h k with h1|⟨A,c,y,h1,h2,h3,h4⟩
 ·exact .inl h1
 ·exact .inr ⟨A,c,y,h1,h2,h3,h4.keepM hG hMu⟩
theorem PMapAt.lt {M:Nat}{Y:Int->Option (List UInt8)}(h:PMapAt W M Y):M<W.heap.size:=by
 obtain⟨es,co,f,h1,_⟩:=h.has
 exact h1.lt
theorem PMapAt.keepS {Mu:Nat->Prop}{M:Nat}{Y:Int->Option (List UInt8)}(h:PMapAt W M Y)(hG:GrowBut Mu W W')(hsm:∀k,Mu k->SmBlk W k)(hM:¬ Mu M):PMapAt W' M Y:=by
 obtain⟨es,co,f,h1,h2,h3,h4⟩:=h.has
 exact⟨es,co,f,(hG.block M h1.lt hM).trans h1,h2,h3,h4.keepS hG hsm⟩
theorem PMapAt.keepM {Mu:Nat->Prop}{M:Nat}{Y:Int->Option (List UInt8)}(h:PMapAt W M Y)(hG:GrowBut Mu W W')(hMu:∀k,Mu k->MkBlk W k):PMapAt W' M Y:=by
 obtain⟨es,co,f,h1,h2,h3,h4⟩:=h.has
 exact⟨es,co,f,(hG.block M h1.lt (fun e=>(hMu M e).notMap h1)).trans h1,h2,h3,h4.keepM hG hMu⟩
theorem PMapAt.grow {M:Nat}{Y:Int->Option (List UInt8)}(h:PMapAt W M Y)(hB:Below W.heap.size W W'):PMapAt W' M Y :=
 h.keepS (Mu:=fun _=>False) (GrowBut.below hB) (fun _ e=>e.elim) (fun e=>e.elim)
structure MkT where
 s:PgSt
 m:Nat
 D:Int->Option (List UInt8)
def mkC (x:MkT):List Value:=psC x.s++[.map (some x.m)]
def mksC (ms:List MkT):List Value:=(ms.map mkC).flatten
theorem mksC_snoc (ms:List MkT)(x:MkT):mksC (ms++[x])=mksC ms++mkC x:=by simp[mksC]
theorem mkC_length {x:MkT}(h:x.s.roots.length=16):(mkC x).length=20:=by simp[mkC,psC_length h]
theorem mksC_length {ms:List MkT}(h:∀x∈ms,x.s.roots.length=16):(mksC ms).length=ms.length*20:=by
 induction ms with
 | nil=>rfl
 | cons x r ih =>
  have h1:=ih (fun y hy=>h y (by simp[hy]))
  have h2:=mkC_length (h x (by simp))
  have e:mksC (x::r)=mkC x++mksC r:=rfl
  rw[e,zQ,h1,h2,zR]
  omega
theorem mksC_take {ms:List MkT}(h:∀x∈ms,x.s.roots.length=16){n:Nat}(hn:n<=ms.length):(mksC ms).take (n*20)=mksC (ms.take n):=by
 have e:mksC ms=mksC (ms.take n)++mksC (ms.drop n):=by
  unfold mksC
  rw[<-List.flatten_append,<-List.map_append,List.take_append_drop]
 have hl:(mksC (ms.take n)).length=n*20:=by
  rw[mksC_length (fun x hx=>h x (List.mem_of_mem_take hx)),List.length_take]
  congr 1
  omega
 rw[e,<-hl,List.take_left]
theorem mksC_elem {ms:List MkT}(h:∀x∈ms,x.s.roots.length=16)(j:Nat)(hj:j<ms.length):((mksC ms).drop (j*20)).take 20=mkC ms[j]:=by
 have e:mksC ms=mksC (ms.take j)++(mkC ms[j] ++ mksC (ms.drop (j+1))):=by
  have e2:mkC ms[j] ++ mksC (ms.drop (j+1))=mksC (ms.drop j):=by
   rw[List.drop_eq_getElem_cons hj]
   rfl
  rw[e2]
  unfold mksC
  rw[<-List.flatten_append,<-List.map_append,List.take_append_drop]
 have hl:(mksC (ms.take j)).length=j*20:=by
  rw[mksC_length (fun x hx=>h x (List.mem_of_mem_take hx)),List.length_take]
  congr 1
  omega
 rw[e,<-hl,List.drop_left]
 have h5:=mkC_length (h ms[j] (qH hj))
 rw[List.take_append_of_le_length (by omega),zW (by omega)]
theorem mkC_cell (x:MkT):∀u∈mkC x,MkCell u:=by
 intro u hu
 simp only[mkC,psC,qA,qM,qF,List.mem_map,List.not_mem_nil,or_false] at hu
 rcases hu with rfl|rfl|rfl|⟨y,_,rfl⟩|rfl
 ·exact .inl ⟨_,rfl⟩
 ·exact .inl ⟨_,rfl⟩
 ·exact .inl ⟨_,rfl⟩
 ·exact .inl ⟨_,rfl⟩
 ·exact .inr (.inl ⟨_,rfl⟩)
theorem MkCell.one {u:Value}(h:MkCell u):u.oneCell'=true:=by
 rcases h with⟨n,rfl⟩|⟨m,rfl⟩|⟨_,_,_,rfl⟩<;>rfl
def mkMu (mk:Value)(k:Nat):Prop:=∃o n c,mk = .slice (some ⟨k,o,none⟩) n c
structure RowM (B:Nat)(W:World)(mk:Value)(ms:List MkT):Prop where
 has:∃A c,mk = .slice A ms.length c/\ms.length<=c/\c<=maxLen/\(A=none->c=0)/\∀a,A=some a->∃(g:Nat) (cur:List Value),a=⟨g,0,none⟩/\B<=g/\BlkIs W g 90 cur.toArray/\(∀u∈cur,MkCell u)/\c*20<=cur.length/\cur.take (ms.length*20)=mksC ms
 rts:∀x∈ms,x.s.roots.length=16
theorem RowM.nil (B:Nat)(W:World):RowM B W (.slice none 0 0) []:=⟨⟨none,0,rfl,zG _,by unfold maxLen;omega,fun _=>rfl,fun a e=>by cases e⟩,fun x hx=>by cases hx⟩
theorem RowM.blk {B:Nat}{ms:List MkT}(h:RowM B W mk ms):∀k,mkMu mk k->MkBlk W k/\B<=k:=fun k ⟨o,n,c,e⟩=>by
 obtain⟨A,c',e',_,_,_,hA⟩:=h.has
 rw[e] at e'
 injection e' with e1 _ _
 obtain⟨g,cur,e2,hB,hb,hc,_⟩:=hA _ e1.symm
 injection e2 with e2
 subst e2
 exact⟨⟨_,cur.toArray,.inl rfl,hb,fun j x hj=>hc x (by rw[List.getElem?_toArray] at hj;exact List.mem_of_getElem? hj)⟩,hB⟩
theorem RowM.keep {B:Nat}{ms:List MkT}{Mu:Nat->Prop}(h:RowM B W mk ms)(hG:GrowBut Mu W W')(hn:∀k,mkMu mk k->¬ Mu k):RowM B W' mk ms:=by
 obtain⟨A,c,e,h1,h2,h3,hA⟩:=h.has
 refine⟨⟨A,c,e,h1,h2,h3,fun a ea => ?_⟩,h.rts⟩
 obtain⟨g,cur,e2,hB,hb,hc⟩:=hA a ea
 exact⟨g,cur,e2,hB,hG.blk hb (hn g ⟨0,ms.length,c,by rw[e,ea,e2]⟩),hc⟩
theorem RowM.grow {B:Nat}{ms:List MkT}(h:RowM B W mk ms)(hB:Below W.heap.size W W'):RowM B W' mk ms :=
 h.keep (Mu:=fun _=>False) (GrowBut.below hB) (fun _ _ e=>e)
structure MkOk (K:PgK)(D:Int->Option (List UInt8)):Prop where
 key:∀k y,D k=some y->0<=k/\k<(K.P:Int)
 cnt:(cntD K.P D:Int)<=K.room
structure MksIs (W0:World)(K:PgK)(v:PgV)(ms:List MkT)(mk:Value)(W:World):Prop where
 row:RowM W0.heap.size W mk ms
 maps:∀x∈ms,PMapAt W x.m x.D/\¬ K.mu v x.m/\MkOk K x.D
theorem MksIs.nil (W0:World)(K:PgK)(v:PgV)(W:World):MksIs W0 K v [] (.slice none 0 0) W:=⟨RowM.nil _ _,fun x hx=>by cases hx⟩
theorem MksIs.grow {ms:List MkT}(h:MksIs W0 K v ms mk W)(hB:Below W.heap.size W W'):MksIs W0 K v ms mk W' :=
 ⟨h.row.grow hB,fun x hx=>⟨(h.maps x hx).1.grow hB,(h.maps x hx).2⟩⟩
theorem CaAt.notMk (h:CaAt W0 K v W){k:Nat}(hk:MkBlk W k):¬ K.mu v k:=fun hm=>by
 obtain⟨T,cs,hT,hb,_⟩:=hk
 obtain⟨_,_,_,_,hd⟩:=DkIs.bk h.cs.fh.dk
 obtain⟨_,_,_,hl⟩:=h.cs.fh.lg.lg
 rcases hT with rfl|rfl
 all_goals
  rcases hm with e|e|e
  ·exact BlkIs.ne_type hb hd (by decide) e
  ·exact BlkIs.ne_type hb hl (by decide) e
  ·exact CaIs.notTy h.cs.ca hb (by decide) (by decide) e
theorem MksIs.turn {ms:List MkT}(h:MksIs W0 K v ms mk W)(hC:CaAt W0 K v W)(hG:GrowBut (K.mu v) W W')(hN:Names K W v v'):MksIs W0 K v' ms mk W' :=
 ⟨h.row.keep hG (fun k hk=>hC.notMk (h.row.blk k hk).1),fun x hx=>by
  obtain⟨h1,h2,h3⟩:=h.maps x hx
  refine⟨h1.keepS hG hC.sm h2,fun e => ?_,h3⟩
  rcases hN _ e with e|e
  ·exact h2 e
  ·have:=h1.lt
   omega⟩
theorem MksIs.own {ms:List MkT}(h:MksIs W0 K v ms mk W)(hp:PaIs W0 K p v st last under mk' W)(hG:GrowBut (fun k=>k=p) W W'):MksIs W0 K v ms mk W' :=
 ⟨h.row.keep hG (fun k hk e=>by subst e;exact(h.row.blk k hk).1.notTy hp.pb (by decide)),fun x hx=>by
  obtain⟨h1,h2,h3⟩:=h.maps x hx
  refine⟨h1.keepS hG (fun k e=>by subst e;exact hp.sm) (fun e => ?_),h2,h3⟩
  obtain⟨es,co,f,h4,_⟩:=h1.has
  rw[e] at h4
  exact h4.notBlk hp.pb rfl⟩
theorem MksIs.take {ms:List MkT}(h:MksIs W0 K v ms mk W){A:Option Addr}{c n:Nat}(e:mk = .slice A ms.length c)(hn:n<=ms.length):MksIs W0 K v (ms.take n) (.slice A n n) W:=by
 obtain⟨A',c',e',h1,h2,h3,hA⟩:=h.row.has
 rw[e] at e'
 injection e' with e1 _ e2
 subst e1 e2
 have hl:(ms.take n).length=n:=by simp;omega
 refine⟨⟨⟨A,n,by rw[hl],by omega,by omega,fun e=>by have:=h3 e;omega,fun a ea => ?_⟩,fun x hx=>h.row.rts x (List.mem_of_mem_take hx)⟩,fun x hx=>h.maps x (List.mem_of_mem_take hx)⟩
 obtain⟨g,cur,e2,hB,hb,hc,h4,h5⟩:=hA a ea
 refine⟨g,cur,e2,hB,hb,hc,by omega,?_⟩
 rw[hl,<-mksC_take h.row.rts hn,<-h5,List.take_take]
 congr 1
 omega
end
def zMk:Value:=.agg (psC ⟨0,0,0,zN 16 0⟩++[Value.map none]).toArray
theorem elMk:ElT 53 90 20 160 zMk:=⟨Tryz.underlying53,by kernel_rfl,by kernel_rfl,by decide⟩
theorem zeroMk (n:Nat):∀u∈(Builtin.zeroCells zMk.cells n).toList,MkCell u:=by
 intro u hu
 have hc:∀x∈zMk.cells.toList,MkCell x:=by
  intro x hx
  have e:zMk.cells.toList=zN 19 (.int .i64 0)++[.map none]:=by kernel_rfl
  rw[e,qF,List.mem_replicate,List.mem_singleton] at hx
  rcases hx with⟨_,rfl⟩|rfl
  ·exact .inl ⟨_,rfl⟩
  ·exact .inr (.inl ⟨_,rfl⟩)
 have hz:zMk.cells.size=20:=by kernel_rfl
 unfold Builtin.zeroCells at hu
 rw[Array.toList_map,List.mem_map] at hu
 obtain⟨i,_,rfl⟩:=hu
 refine hc _ ?_
 have hlt:i % zMk.cells.size<zMk.cells.size:=Nat.mod_lt _ (by rw[hz];omega)
 rw[getElem!_pos zMk.cells (i % zMk.cells.size) hlt]
 exact Array.mem_toList_iff.2 (Array.getElem_mem hlt)
section
variable {W:World}{mk:Value}{ms:List MkT}{B:Nat}
theorem RowM.append (ty:TypeId)(h:RowM B W mk ms)(hn:ms.length<=1000)(hB:B<=W.heap.size)(x:MkT)(hx:x.s.roots.length=16)(q:Nat)(hq:BlkIs W q 90 (mkC x).toArray) :
  ∃mk' W',(Builtin.append_ #[53,53] ty #[mk,.slice (some ⟨q,0,none⟩) 1 1]).run Tryz.prog W = .ok mk' W'/\RowM B W' mk' (ms++[x])/\GrowBut (mkMu mk) W W'/\∀k,mkMu mk' k->mkMu mk k∨W.heap.size<=k:=by
 obtain⟨i,hi,hz,hsz,hby⟩:=info_parts elMk.inf
 have hc20:(mkC x).length=1*i.size:=by rw[hsz,mkC_length hx]
 have hml:(mksC ms).length=ms.length*i.size:=by rw[hsz,mksC_length h.rts]
 have hnews:∀j u,(mkC x)[j]? = some u->W.cell? (Addr.add ⟨q,0,none⟩ j)=some u:=fun j u hj=>by
  rw[Addr.add_lit,hq.cell]
  simpa using hj
 have hrts:∀y∈ms++[x],y.s.roots.length=16:=fun y hy=>by
  rcases qF.1 hy with hy|hy
  ·exact h.rts y hy
  ·rw[List.mem_singleton] at hy
   rw[hy]
   exact hx
 have hG0:∀(cs:Array Value),GrowBut (mkMu mk) W (W.drew.alloc (.cells cs 90)):=fun cs=>GrowBut.below (((Below.refl _ W).drew).alloc (zG _) _)
 have hnew:∀(cap:Nat) (z:Array Value),ms.length+1<=cap->cap<=maxLen->z=Builtin.zeroCells zMk.cells (cap - (ms.length+1)) ->
   (∀u∈mksC ms,MkCell u)->RowM B (W.drew.alloc (.cells ((mksC ms).toArray++(mkC x).toArray++z) 90)) (.slice (some ⟨W.heap.size,0,none⟩) (ms.length+1) cap) (ms++[x]):=fun cap z h1 h2 hze hmc=>by
  refine⟨⟨some ⟨W.heap.size,0,none⟩,cap,by simp,by simp;omega,h2,(fun e=>by cases e),fun a e => ?_⟩,hrts⟩
  injection e with e
  refine⟨W.heap.size,mksC ms++mkC x++z.toList,e.symm,hB,?_,fun u hu => ?_,?_,?_⟩
  ·have:=BlkIs.new W.drew 90 ((mksC ms).toArray++(mkC x).toArray++z)
   have e2:(mksC ms++mkC x++z.toList).toArray=(mksC ms).toArray++(mkC x).toArray++z:=by simp
   rw[e2]
   exact this
  ·rcases qF.1 hu with hu|hu
   ·rcases qF.1 hu with hu|hu
    ·exact hmc u hu
    ·exact mkC_cell x u hu
   ·rw[hze] at hu
    exact zeroMk _ u hu
  ·have hzl:z.toList.length=(cap - (ms.length+1))*20:=by
    rw[Array.length_toList,hze,size_zeroCells]
    rfl
   rw[zQ,zQ,hml,hc20,hzl,hsz]
   omega
  ·rw[mksC_snoc]
   have e3:(ms++[x]).length*20=(mksC ms++mkC x).length:=by
    rw[show (mksC ms++mkC x).length=(mksC ms).length+(mkC x).length from zQ,hml,hc20,hsz]
    simp
    omega
   rw[e3,List.take_left]
 obtain⟨A,c,rfl,hle,hmx,hno,hA⟩:=h.has
 have hmaxl:maxLen=9223372036854775807∨1001<=maxLen:=by unfold maxLen;omega
 cases A with
 | none =>
  obtain rfl:=hno rfl
  have h0:ms=[]:=zY (by omega)
  subst h0
  have hr:=run_append_nil (P:=Tryz.prog) W 53 ty 90 i _ elMk.und hi hz ⟨q,0,none⟩ 1 1 (mkC x) hc20 hnews (by omega) (by omega) (by rw[hby];omega)
  have hge:=grownCap_ge W 1 0 90
  have hcm:=grownCap_le_maxLen W 1 0 90 (by unfold maxLen;omega)
  refine⟨_,_,hr,?_,hG0 _,fun k ⟨o,n,c,e⟩ => ?_⟩
  ·have:=hnew (grownCap W 1 0 90) _ hge hcm rfl (fun u hu=>by cases hu)
   simpa[mksC] using this
  ·injection e with e1 _ _
   injection e1 with e1
   injection e1 with e1
   exact .inr (by omega)
 | some a =>
  obtain⟨g,cur,rfl,hBg,hb,hcell,hcl,htk⟩:=hA a rfl
  have hmc:∀u∈mksC ms,MkCell u:=fun u hu=>hcell u (by rw[<-htk] at hu;exact List.mem_of_mem_take hu)
  have holds:∀j u,(mksC ms)[j]? = some u->W.cell? ⟨g,0+j,none⟩=some u:=fun j u hj=>by
   rw[hb.cell,qG,List.getElem?_toArray]
   rw[<-htk] at hj
   have hj2:=(zT.1 hj).1
   rw[List.getElem?_take_of_lt (by simp at hj2;omega)] at hj
   exact hj
  by_cases hroom:ms.length+1<=c
  ·have hlen:ms.length*20+(mkC x).length<=cur.length:=by rw[hc20,hsz];omega
   have hth:=blk_there (o:=ms.length*20) (n:=(mkC x).length) hb (by simpa using hlen)
   have hr:=run_append_room_cells (P:=Tryz.prog) W 53 ty 90 i elMk.und hi g 0 ms.length c ⟨q,0,none⟩ 1 1 (mkC x) hc20 hnews (fun u hu=>(mkC_cell x u hu).one) hroom
    (fun j hj=>by rw[hsz,qG];exact(hth j hj).1) (fun j hj=>by rw[hsz,qG];exact(hth j hj).2)
   rw[hsz,qG] at hr
   refine⟨_,_,hr,⟨⟨some ⟨g,0,none⟩,c,by simp,by simp;omega,hmx,(fun e=>by cases e),fun a e => ?_⟩,hrts⟩,growBut_setCells ⟨0,_,_,rfl⟩ _ _ _,fun k ⟨o,n,c',e⟩ => ?_⟩
   ·injection e with e
    refine⟨g,_,e.symm,hBg,blk_setCells _ _ _ _ hb hlen,fun u hu => ?_,?_,?_⟩
    ·rcases qF.1 hu with hu|hu
     ·rcases qF.1 hu with hu|hu
      ·exact hcell u (List.mem_of_mem_take hu)
      ·exact mkC_cell x u hu
     ·exact hcell u (List.mem_of_mem_drop hu)
    ·simp only[zQ,List.length_take,List.length_drop]
     omega
    ·rw[mksC_snoc,htk]
     have e3:(ms++[x]).length*20=(mksC ms++mkC x).length:=by
      rw[show (mksC ms++mkC x).length=(mksC ms).length+(mkC x).length from zQ,hml,hc20,hsz]
      simp
      omega
     rw[e3,List.take_left]
   ·left
    injection e with e1 _ _
    injection e1 with e1
    injection e1 with e1
    exact⟨0,ms.length,c,by rw[e1]⟩
  ·have hr:=run_append_grow (P:=Tryz.prog) W 53 ty 90 i _ elMk.und hi hz ⟨g,0,none⟩ ms.length c (mksC ms) hml (fun j u hj=>by rw[Addr.add_lit];exact holds j u hj) ⟨q,0,none⟩ 1 1 (mkC x) hc20 hnews (by omega) (by omega) (growslice_fits (by omega) (by rw[hby];omega))
   have hge:=grownCap_ge W (ms.length+1) c 90
   have hcm:=grownCap_le_maxLen W (ms.length+1) c 90 (by unfold maxLen;omega)
   refine⟨_,_,hr,hnew _ _ hge hcm rfl hmc,hG0 _,fun k ⟨o,n,c,e⟩ => ?_⟩
   injection e with e1 _ _
   injection e1 with e1
   injection e1 with e1
   exact .inr (by omega)
end
theorem zeroBm (n:Nat):∀u∈(Builtin.zeroCells (Value.slice none 0 0).cells n).toList,MkCell u:=by
 intro u hu
 unfold Builtin.zeroCells at hu
 rw[Array.toList_map,List.mem_map] at hu
 obtain⟨i,_,rfl⟩:=hu
 have hc:(Value.slice none 0 0).cells=#[Value.slice none 0 0]:=rfl
 have hlt:i % (Value.slice none 0 0).cells.size<(Value.slice none 0 0).cells.size:=Nat.mod_lt _ (by rw[hc];decide)
 rw[getElem!_pos (Value.slice none 0 0).cells (i % (Value.slice none 0 0).cells.size) hlt]
 have hm:=Array.getElem_mem hlt
 have hm2:∀u,u∈(Value.slice none 0 0).cells->u=Value.slice none 0 0:=fun u hu=>by
  have h:u∈#[Value.slice none 0 0]:=hu
  simpa using h
 rw[hm2 _ hm]
 exact .inr (.inr ⟨_,_,_,rfl⟩)
structure RowB (B:Nat)(W:World)(mk:Value)(ms:List Value):Prop where
 has:∃A c,mk = .slice A ms.length c/\ms.length<=c/\c<=maxLen/\(A=none->c=0)/\∀a,A=some a->∃(g:Nat) (cur:List Value),a=⟨g,0,none⟩/\B<=g/\BlkIs W g 39 cur.toArray/\(∀u∈cur,MkCell u)/\c<=cur.length/\cur.take ms.length=ms
section
variable {W W':World}{mk:Value}{ms:List Value}{B:Nat}
theorem RowB.nil (B:Nat)(W:World):RowB B W (.slice none 0 0) []:=⟨⟨none,0,rfl,zG _,by unfold maxLen;omega,fun _=>rfl,fun a e=>by cases e⟩⟩
theorem RowB.blk (h:RowB B W mk ms):∀k,mkMu mk k->(MkBlk W k/\∃cs,BlkIs W k 39 cs)/\B<=k:=fun k ⟨o,n,c,e⟩=>by
 obtain⟨A,c',e',_,_,_,hA⟩:=h.has
 rw[e] at e'
 injection e' with e1 _ _
 obtain⟨g,cur,e2,hB,hb,hc,_⟩:=hA _ e1.symm
 injection e2 with e2
 subst e2
 exact⟨⟨⟨_,cur.toArray,.inr rfl,hb,fun j x hj=>hc x (by rw[List.getElem?_toArray] at hj;exact List.mem_of_getElem? hj)⟩,_,hb⟩,hB⟩
theorem RowB.keep {Mu:Nat->Prop}(h:RowB B W mk ms)(hG:GrowBut Mu W W')(hn:∀k cs,BlkIs W k 39 cs->¬ Mu k):RowB B W' mk ms:=by
 obtain⟨A,c,e,h1,h2,h3,hA⟩:=h.has
 refine⟨⟨A,c,e,h1,h2,h3,fun a ea => ?_⟩⟩
 obtain⟨g,cur,e2,hB,hb,hc⟩:=hA a ea
 exact⟨g,cur,e2,hB,hG.blk hb (hn _ _ hb),hc⟩
theorem RowB.append (ty:TypeId)(h:RowB B W mk ms)(hn:ms.length<=1000)(hB:B<=W.heap.size)(x:Value)(hx:MkCell x)(q:Nat)(hq:BlkIs W q 39 #[x]) :
  ∃mk' W',(Builtin.append_ #[40,40] ty #[mk,.slice (some ⟨q,0,none⟩) 1 1]).run Tryz.prog W = .ok mk' W'/\RowB B W' mk' (ms++[x])/\GrowBut (mkMu mk) W W'/\∀k,mkMu mk' k->mkMu mk k∨W.heap.size<=k:=by
 obtain⟨i,hi,hz,hsz,hby⟩:=info_parts elBools.inf
 have hc20:[x].length=1*i.size:=by rw[hsz];rfl
 have hml:ms.length=ms.length*i.size:=by rw[hsz,Nat.mul_one]
 have hnews:∀j u,[x][j]? = some u->W.cell? (Addr.add ⟨q,0,none⟩ j)=some u:=fun j u hj=>by
  rw[Addr.add_lit,hq.cell]
  simpa using hj
 have hG0:∀(cs:Array Value),GrowBut (mkMu mk) W (W.drew.alloc (.cells cs 39)):=fun cs=>GrowBut.below (((Below.refl _ W).drew).alloc (zG _) _)
 have hnew:∀(cap:Nat) (z:Array Value),ms.length+1<=cap->cap<=maxLen->z=Builtin.zeroCells (Value.slice none 0 0).cells (cap - (ms.length+1)) ->
   (∀u∈ms,MkCell u)->RowB B (W.drew.alloc (.cells (ms.toArray++#[x] ++ z) 39)) (.slice (some ⟨W.heap.size,0,none⟩) (ms.length+1) cap) (ms++[x]):=fun cap z h1 h2 hze hmc=>by
  refine⟨⟨some ⟨W.heap.size,0,none⟩,cap,by simp,by simp;omega,h2,(fun e=>by cases e),fun a e => ?_⟩⟩
  injection e with e
  refine⟨W.heap.size,ms++[x] ++ z.toList,e.symm,hB,?_,fun u hu => ?_,?_,?_⟩
  ·have:=BlkIs.new W.drew 39 (ms.toArray++#[x] ++ z)
   have e2:(ms++[x] ++ z.toList).toArray=ms.toArray++#[x] ++ z:=by simp
   rw[e2]
   exact this
  ·rcases qF.1 hu with hu|hu
   ·rcases qF.1 hu with hu|hu
    ·exact hmc u hu
    ·exact(by rw[List.mem_singleton.1 hu];exact hx)
   ·rw[hze] at hu
    exact zeroBm _ u hu
  ·have hzl:z.toList.length=(cap - (ms.length+1)):=by
    rw[Array.length_toList,hze,size_zeroCells]
    exact Nat.mul_one _
   rw[zQ,zQ,hml,hc20,hzl,hsz]
   omega
  ·exact List.take_left
 obtain⟨A,c,rfl,hle,hmx,hno,hA⟩:=h.has
 have hmaxl:maxLen=9223372036854775807∨1001<=maxLen:=by unfold maxLen;omega
 cases A with
 | none =>
  obtain rfl:=hno rfl
  have h0:ms=[]:=zY (by omega)
  subst h0
  have hr:=run_append_nil (P:=Tryz.prog) W 40 ty 39 i _ elBools.und hi hz ⟨q,0,none⟩ 1 1 [x] hc20 hnews (by omega) (by omega) (by rw[hby];omega)
  have hge:=grownCap_ge W 1 0 39
  have hcm:=grownCap_le_maxLen W 1 0 39 (by unfold maxLen;omega)
  refine⟨_,_,hr,?_,hG0 _,fun k ⟨o,n,c,e⟩ => ?_⟩
  ·have:=hnew (grownCap W 1 0 39) _ hge hcm rfl (fun u hu=>by cases hu)
   simpa using this
  ·injection e with e1 _ _
   injection e1 with e1
   injection e1 with e1
   exact .inr (by omega)
 | some a =>
  obtain⟨g,cur,rfl,hBg,hb,hcell,hcl,htk⟩:=hA a rfl
  have hmc:∀u∈ms,MkCell u:=fun u hu=>hcell u (by rw[<-htk] at hu;exact List.mem_of_mem_take hu)
  have holds:∀j u,ms[j]? = some u->W.cell? ⟨g,0+j,none⟩=some u:=fun j u hj=>by
   rw[hb.cell,qG,List.getElem?_toArray]
   rw[<-htk] at hj
   have hj2:=(zT.1 hj).1
   rw[List.getElem?_take_of_lt (by simp at hj2;omega)] at hj
   exact hj
  by_cases hroom:ms.length+1<=c
  ·have hlen:ms.length+[x].length<=cur.length:=by rw[hc20,hsz];omega
   have hth:=blk_there (o:=ms.length) (n:=[x].length) hb (by simpa using hlen)
   have hr:=run_append_room_cells (P:=Tryz.prog) W 40 ty 39 i elBools.und hi g 0 ms.length c ⟨q,0,none⟩ 1 1 [x] hc20 hnews (fun u hu=>MkCell.one (by rw[List.mem_singleton.1 hu];exact hx)) hroom
    (fun j hj=>by rw[hsz,qG,Nat.mul_one];exact(hth j hj).1) (fun j hj=>by rw[hsz,qG,Nat.mul_one];exact(hth j hj).2)
   rw[hsz,qG,Nat.mul_one] at hr
   refine⟨_,_,hr,⟨⟨some ⟨g,0,none⟩,c,by simp,by simp;omega,hmx,(fun e=>by cases e),fun a e => ?_⟩⟩,growBut_setCells ⟨0,_,_,rfl⟩ _ _ _,fun k ⟨o,n,c',e⟩ => ?_⟩
   ·injection e with e
    refine⟨g,_,e.symm,hBg,blk_setCells _ _ _ _ hb hlen,fun u hu => ?_,?_,?_⟩
    ·rcases qF.1 hu with hu|hu
     ·rcases qF.1 hu with hu|hu
      ·exact hcell u (List.mem_of_mem_take hu)
      ·exact(by rw[List.mem_singleton.1 hu];exact hx)
     ·exact hcell u (List.mem_of_mem_drop hu)
    ·simp only[zQ,List.length_take,List.length_drop]
     omega
    ·rw[htk]
     exact List.take_left
   ·left
    injection e with e1 _ _
    injection e1 with e1
    injection e1 with e1
    exact⟨0,ms.length,c,by rw[e1]⟩
  ·have hr:=run_append_grow (P:=Tryz.prog) W 40 ty 39 i _ elBools.und hi hz ⟨g,0,none⟩ ms.length c ms hml (fun j u hj=>by rw[Addr.add_lit];exact holds j u hj) ⟨q,0,none⟩ 1 1 [x] hc20 hnews (by omega) (by omega) (growslice_fits (by omega) (by rw[hby];omega))
   have hge:=grownCap_ge W (ms.length+1) c 39
   have hcm:=grownCap_le_maxLen W (ms.length+1) c 39 (by unfold maxLen;omega)
   refine⟨_,_,hr,hnew _ _ hge hcm rfl hmc,hG0 _,fun k ⟨o,n,c,e⟩ => ?_⟩
   injection e with e1 _ _
   injection e1 with e1
   injection e1 with e1
   exact .inr (by omega)
end
structure BmAt (B:Nat)(W:World)(v:Value)(ls:List (List Bool)):Prop where
 has:∃vs:List Value,RowB B W v vs/\vs.length=ls.length/\∀(i:Nat) (u:Value) (l:List Bool),vs[i]? = some u->ls[i]? = some l->BsAt B W u l
section
variable {B:Nat}{W W':World}{v:Value}{ls:List (List Bool)}
theorem BmAt.nil (B:Nat)(W:World):BmAt B W (.slice none 0 0) []:=⟨[],RowB.nil _ _,rfl,fun i u l h=>by simp at h⟩
theorem BmAt.keep {Mu:Nat->Prop}(h:BmAt B W v ls)(hG:GrowBut Mu W W')(hn:∀k cs,BlkIs W k 4 cs->¬ Mu k)(hn2:∀k cs,BlkIs W k 39 cs->¬ Mu k):BmAt B W' v ls:=by
 obtain⟨vs,h1,h2,h3⟩:=h.has
 exact⟨vs,h1.keep hG hn2,h2,fun i u l hu hl=>(h3 i u l hu hl).keep hG hn⟩
theorem BmAt.grow (h:BmAt B W v ls)(hB:Below W.heap.size W W'):BmAt B W' v ls :=
 h.keep (Mu:=fun _=>False) (GrowBut.below hB) (fun _ _ _ e=>e) (fun _ _ _ e=>e)
theorem BmAt.slice (h:BmAt B W v ls):∃A c,v = .slice A ls.length c:=by
 obtain⟨vs,h1,h2,_⟩:=h.has
 obtain⟨A,c,e,_⟩:=h1.has
 exact⟨A,c,by rw[<-h2];exact e⟩
theorem BmAt.elem (h:BmAt B W v ls){i:Nat}{l:List Bool}(hi:ls[i]? = some l):∃g c u,v = .slice (some ⟨g,0,none⟩) ls.length c/\ls.length<=c/\W.cell? ⟨g,i,none⟩=some u/\BsAt B W u l/\BmAt B W (.slice (some ⟨g,0,none⟩) i c) (ls.take i):=by
 obtain⟨vs,h1,h2,h3⟩:=h.has
 have hil:=(zT.1 hi).1
 obtain⟨A,c,e,q1,q2,q3,hA⟩:=h1.has
 rcases A with _|a
 ·have:=q3 rfl
  omega
 obtain⟨g,cur,rfl,hb,hg,hcl,hcc,htk⟩:=hA a rfl
 have hvl:i<vs.length:=by omega
 have hc:W.cell? ⟨g,i,none⟩=some vs[i]:=by
  rw[hg.cell]
  have e:(cur.take vs.length)[i]? = vs[i]?:=by rw[htk]
  rw[List.getElem?_take_of_lt (by omega),zI hvl] at e
  simpa using e
 refine⟨g,c,vs[i],by rw[e,h2],by omega,hc,h3 i _ _ (zI hvl) hi,⟨vs.take i,⟨⟨some ⟨g,0,none⟩,c,?_,by simp;omega,q2,(fun e=>by cases e),fun a ea => ?_⟩⟩,by simp;omega,fun j u l' hu hl' => ?_⟩⟩
 ·rw[List.length_take,Nat.min_eq_left (by omega)]
 ·injection ea with ea
  refine⟨g,cur,ea.symm,hb,hg,hcl,hcc,?_⟩
  rw[List.length_take,Nat.min_eq_left (by omega),<-htk,List.take_take]
  congr 1
  omega
 ·have hj:j<i:=by
   have:=(zT.1 hu).1
   rw[List.length_take] at this
   omega
  rw[List.getElem?_take_of_lt hj] at hu hl'
  exact h3 j u l' hu hl'
theorem BmAt.snoc {v' u:Value}{l:List Bool}{vs:List Value}(h1:RowB B W v' (vs++[u]))(h2:vs.length=ls.length)(h3:∀(i:Nat) (u:Value) (l:List Bool),vs[i]? = some u->ls[i]? = some l->BsAt B W u l)(h4:BsAt B W u l):BmAt B W v' (ls++[l]):=by
 refine⟨vs++[u],h1,by simp[h2],fun i x y hx hy => ?_⟩
 by_cases hi:i<vs.length
 ·rw[List.getElem?_append_left hi] at hx
  rw[List.getElem?_append_left (by omega)] at hy
  exact h3 i x y hx hy
 ·rw[zZ (by omega)] at hx
  rw[zZ (by omega)] at hy
  have e:i - vs.length=0:=by
   have:=(zT.1 hx).1
   simp at this
   omega
  rw[e] at hx
  rw[show i - ls.length=0 by omega] at hy
  injection hx with hx
  injection hy with hy
  subst hx hy
  exact h4
theorem BmAt.append (ty:TypeId)(h:BmAt B W v ls)(hn:ls.length<=1000)(hB:B<=W.heap.size){u:Value}{l:List Bool}(hu:BsAt B W u l)(q:Nat)(hq:BlkIs W q 39 #[u]) :
  ∃v' W',(Builtin.append_ #[40,40] ty #[v,.slice (some ⟨q,0,none⟩) 1 1]).run Tryz.prog W = .ok v' W'/\BmAt B W' v' (ls++[l])/\GrowBut (mkMu v) W W':=by
 obtain⟨vs,h1,h2,h3⟩:=h.has
 have hm:MkCell u:=by
  obtain⟨A,c,rfl,_⟩:=hu.inG
  exact .inr (.inr ⟨_,_,_,rfl⟩)
 obtain⟨v',W',hr,hR,hG,_⟩:=h1.append ty (by omega) hB u hm q hq
 have hnb:∀k cs,BlkIs W k 4 cs->¬ mkMu v k:=fun k cs hb hk=>by
  obtain⟨⟨_,cs2,hb2⟩,_⟩:=h1.blk k hk
  exact BlkIs.ne_type hb hb2 (by decide) rfl
 exact⟨v',W',hr,BmAt.snoc hR h2 (fun i x y hx hy=>(h3 i x y hx hy).keep hG hnb) (hu.keep hG hnb),hG⟩
theorem BmAt.blk (h:BmAt B W v ls):∀k,mkMu v k->(MkBlk W k/\∃cs,BlkIs W k 39 cs)/\B<=k:=by
 obtain⟨vs,h1,_⟩:=h.has
 exact h1.blk
end
theorem x_appM {ρ:Operand->Value}{o:Oper}{w w':World}{s x:Operand}{S:TypeId}{v xv v':Value}(hc:o.op = .call { callee:=.builtin .append,args:=#[s,x],argTypes:=#[S,S] })(hs:ρ s=v)(hx:ρ x=xv)(hr:(Builtin.append_ #[S,S] o.type #[v,xv]).run Tryz.prog w = .ok v' w'):(execOp ρ o).run Tryz.prog w = .ok (.value v') w':=by
 unfold execOp
 simp only[hc,resolve,invoke,builtin,Sem.run_bind,Sem.run_pure,Result.andThen_ok,zJ,zK,zL,hs,hx,hr]
def askE:List PAsk->Int
 | []=>0
 | x::xs=>if x.b then x.er else askE xs
theorem askE_at:∀(l:List PAsk) (k:Nat) (hk:k<l.length),l[k].b=true->(∀j (hj:j<l.length),j<k->l[j].b=false)->askE l=l[k].er
 | x::l,0,_,h,_=>by
  have h:x.b=true:=h
  show (if x.b then x.er else askE l)=x.er
  rw[h]
  rfl
 | x::l,k+1,hk,h,hf=>by
  have h0:x.b=false:=hf 0 (by simp) (by omega)
  show (if x.b then x.er else askE l)=_
  rw[h0]
  exact askE_at l k (by simpa using hk) h (fun j hj hjk=>hf (j+1) (by simpa using hj) (by omega))
theorem askE_none:∀(l:List PAsk),(∀x∈l,x.b=false)->askE l=0
 | [],_=>rfl
 | x::l,h=>by
  show (if x.b then x.er else askE l)=0
  rw[h x (by simp)]
  exact askE_none l (fun y hy=>h y (by simp[hy]))
theorem elPAsk:ElT 138 92 2 16 (.agg #[.nilFunc,.int .i64 0]):=⟨Tryz.underlying138,by kernel_rfl,by kernel_rfl,by decide⟩
theorem pasksC_length (l:List PAsk):(pasksC l).length=l.length*2:=by
 induction l with
 | nil=>rfl
 | cons x l ih =>
  have e:pasksC (x::l)=paskC x++pasksC l:=rfl
  rw[e,zQ,ih,zR]
  show 2+l.length*2=_
  omega
theorem pasksC_er {l:List PAsk}{k:Nat}(h:k<l.length):(pasksC l)[k*2+1]? = some (.int .i64 l[k].er):=by
 have e:=pasksC_elem l k h
 have e2:(((pasksC l).drop (k*2)).take 2)[1]? = (paskC l[k])[1]?:=by rw[e]
 rw[List.getElem?_take,if_pos (by omega),List.getElem?_drop] at e2
 exact e2
theorem pasked_gives (w:World)(P:Option Addr)(n0 b u:Bool)(hn:AnsF w 46 #[.pointer P] n0)(hu:n0=false->∃p,P=some ⟨p,0,none⟩/\w.cell? ⟨p,39,none⟩=some (.bool b)/\p<w.heap.size)(A:Option Addr)(c:Nat)(xs:List PAsk)(h:InG w w.heap.size 2 A xs.length c (pasksC xs))(hl:xs.length<=900)(ha:n0=false->∀x∈xs,PAskIs w x) :
  Calls Tryz.prog 41 #[.pointer P,.bool u,.slice A xs.length c] w fun e w'=>e = .returned (.int .i64 (if n0 then 1 else if b != u then 191 else askE xs))/\Below w.heap.size w w':=by
 obtain⟨W0,hW0⟩:∃W0,W0=(w.alloc (.cells #[.pointer P] 34)).alloc (.cells #[.bool u] 4):=⟨_,rfl⟩
 have hB0:Below w.heap.size w W0:=by rw[hW0];exact((Below.refl _ w).alloc (zG _) _).alloc (by simp) _
 have s0:W0.heap.size=w.heap.size+1+1:=by rw[hW0];simp
 have b0:BlkIs W0 w.heap.size 34 #[.pointer P]:=by rw[hW0];exact(BlkIs.new w _ _).alloc _
 have b1:BlkIs W0 (w.heap.size+1) 4 #[.bool u]:=by
  have:=BlkIs.new (w.alloc (.cells #[.pointer P] 34)) 4 #[.bool u]
  rw[World.size_alloc] at this
  rw[hW0]
  exact this
 obtain⟨own,hown⟩:∃own:List PAsk,own=[⟨.func (.func 46) #[.pointer P] #[],1,n0⟩,⟨.func (.func 76) #[] #[.pointer (some ⟨w.heap.size,0,none⟩),.pointer (some ⟨w.heap.size+1,0,none⟩)],191,b != u⟩]:=⟨_,rfl⟩
 have hE:askE (own++xs)=if n0 then 1 else if b != u then 191 else askE xs:=by rw[hown];rfl
 generalize (if n0 then 1 else if b != u then 191 else askE xs)=R at *
 have hol:own.length=2:=by rw[hown];rfl
 have hall:∀W,Below W0.heap.size W0 W->∀k (hk:k<(own++xs).length),(∀j (hj:j<(own++xs).length),j<k->(own++xs)[j].b=false)->PAskIs W (own++xs)[k]:=fun W hW k hk hf=>by
  refine PAskIs.later ?_ hW
  match k,hk,hf with
  | 0,hk,_ =>
   have e:(own++xs)[0]=⟨.func (.func 46) #[.pointer P] #[],1,n0⟩:=by simp[hown]
   rw[e]
   exact PAskIs.bound 1 (hn.later hB0)
  | 1,hk,hf =>
   have e:(own++xs)[1]=⟨.func (.func 76) #[] #[.pointer (some ⟨w.heap.size,0,none⟩),.pointer (some ⟨w.heap.size+1,0,none⟩)],191,b != u⟩:=by simp[hown]
   have e0:(own++xs)[0].b=n0:=by simp[hown]
   obtain⟨p,rfl,h39,hp⟩:=hu (e0▸hf 0 (by simp[hol];omega) (by omega))
   rw[e]
   exact PAskIs.two 191 (ansUnder ((b0.cell 0).trans rfl) ((b1.cell 0).trans rfl) ((hB0.cell (p:=⟨p,39,none⟩) hp).trans h39) b0.lt b1.lt (by omega))
  | k+2,hk,hf =>
   have hk2:k<xs.length:=by simp[hol] at hk;omega
   have e:(own++xs)[k+2]=xs[k]:=by rw[List.getElem_append_right (by omega)];simp[hol]
   have e0:(own++xs)[0].b=n0:=by simp[hown]
   rw[e]
   exact PAskIs.later (ha (e0▸hf 0 (by simp[hol];omega) (by omega)) _ (qH hk2)) hB0
 have hxs:=(h.below hB0).more hB0.size
 have hcat:pasksC (own++xs)=pasksC own++pasksC xs:=by simp[pasksC]
 have hcl:pasksC own=[.func (.func 46) #[.pointer P] #[],.int .i64 1,.func (.func 76) #[] #[.pointer (some ⟨w.heap.size,0,none⟩),.pointer (some ⟨w.heap.size+1,0,none⟩)],.int .i64 191]:=by rw[hown];rfl
 have hone:∀v∈pasksC own++pasksC xs,v.oneCell'=true:=fun v hv=>by
  rcases qF.1 hv with hv|hv
  ·rw[hcl] at hv
   simp only[qM,List.not_mem_nil,or_false] at hv
   rcases hv with rfl|rfl|rfl|rfl<;>rfl
  ·exact h.one v hv
 obtain⟨W1,hW1⟩:∃W1,W1=W0.alloc (.cells #[.func (.func 46) #[.pointer P] #[],.int .i64 1,.func (.func 76) #[] #[.pointer (some ⟨w.heap.size,0,none⟩),.pointer (some ⟨w.heap.size+1,0,none⟩)],.int .i64 191] 92):=⟨_,rfl⟩
 have hB1:Below W0.heap.size W0 W1:=by rw[hW1];exact(Below.refl _ _).alloc (zG _) _
 have hxs1:=(hxs.below hB1).more hB1.size
 have hownR:W1.ownsRow W0.heap.size 92 2 (.slice (some ⟨w.heap.size+1+1,0,none⟩) 2 2) 2 (pasksC own):=by
  refine⟨by rw[hcl];rfl,.inr ⟨w.heap.size+1+1,2,#[.func (.func 46) #[.pointer P] #[],.int .i64 1,.func (.func 76) #[] #[.pointer (some ⟨w.heap.size,0,none⟩),.pointer (some ⟨w.heap.size+1,0,none⟩)],.int .i64 191],rfl,by omega,?_,zG _,by decide,rfl,by rw[hcl];rfl⟩⟩
  rw[hW1,<-s0]
  exact heap_alloc_new W0 _
 have HW1:Hid (((w.alloc (.cells #[.pointer P] 34)).alloc (.cells #[.bool u] 4)).alloc (.cells #[.func (.func 46) #[.pointer P] #[],.int .i64 1,.func (.func 76) #[] #[.pointer (some ⟨w.heap.size,0,none⟩),.pointer (some ⟨w.heap.size+1,0,none⟩)],.int .i64 191] 92)=W1):=Lib.hid (by rw[hW1,hW0])
 have hs1:W0.heap.size<=W1.heap.size:=hB1.size
 have HALL:=Lib.hid hall
 have HE:=Lib.hid hE
 have HCAT:=Lib.hid hcat
 have HONE:=Lib.hid hone
 have h16:(2+xs.length)*16<=140737488355328:=by omega
 have h17:2+xs.length<=maxLen:=by unfold maxLen;omega
 have k0:W0.cell? ⟨w.heap.size,0,none⟩=some (.pointer P):=(b0.cell 0).trans rfl
 have hol2:(own++xs).length=2+xs.length:=by rw[zQ,hol]
 clear hW1 hall hE hcat hcl hone hown hu hn ha h hW0 b0 b1 hxs
 go_enter Tryz.func41,Tryz.ntmps41
 go_wp2_with (first
  | (at_builtin;rw[HW1.out];refine wp_appG rfl elPAsk (.tmp 14) (.tmp 15) rfl W0.heap.size (.slice (some ⟨w.heap.size+1+1,0,none⟩) 2 2) 2 (pasksC own) rfl hownR W1.heap.size A xs.length c (pasksC xs) rfl hxs1 h17 h16 hs1 ?_;intro v2 W2 own2 hg2)
  )
 obtain⟨A2,c2,rfl,hin2⟩:=ownG_in own2 HONE.out
 have hB2:Below W0.heap.size W0 W2:=hB1.grown hg2 hB1.size (fun k hk=>(World.ownsRow.lt hownR k hk).1)
 have HI:=pindex_gives W2 A2 c2 (own++xs) (by rw[hol2,HCAT.out];exact hin2) (by omega) (fun k hk hf=>HALL.out W2 hB2 k hk hf)
 have e2:(#[.slice A2 (own++xs).length c2,.func (.func 78) #[] #[]]:Array Value)=#[.slice A2 (2+xs.length) c2,.func (.func 78) #[] #[]]:=by rw[hol2]
 rw[e2] at HI
 clear e2
 have hB02:Below w.heap.size w W2:=hB0.trans (hB2.mono hB0.size)
 refine HI.mono ?_
 rintro e W3 ⟨hB3,⟨k,hk,rfl,hb,hf⟩|⟨rfl,hf⟩⟩
 ·have hv:=askE_at (own++xs) k hk hb hf
  rw[HE.out] at hv
  obtain⟨g,o,rfl,hg,hr⟩:=hin2.lies (by omega)
  have hce:W3.cell? ⟨g,o+k*2+1,none⟩=some (.int .i64 (own++xs)[k].er):=by
   rw[Nat.add_assoc]
   exact(hB3.cell (p:=⟨g,o+(k*2+1),none⟩) hg).trans (hr (k*2+1) _ (by rw[<-HCAT.out];exact pasksC_er hk))
  have hB03:Below w.heap.size w W3:=hB02.trans (hB3.mono hB02.size)
  generalize (own++xs)[k].er=er at *
  have HV:=Lib.hid hv
  have hk2:k<2+xs.length:=by omega
  clear hv hb hf hr hin2 HI own2 hg2 hownR hxs1 hB3 hB2 hB02 hk
  go_wp2
  go_ret
  exact⟨by rw[HV.out];rfl,hB03⟩
 ·have hv:=askE_none (own++xs) hf
  rw[HE.out] at hv
  have hB03:Below w.heap.size w W3:=hB02.trans (hB3.mono hB02.size)
  have HV:=Lib.hid hv
  clear hv hf hin2 HI own2 hg2 hownR hxs1 hB3 hB2 hB02
  go_wp2
  go_ret
  exact⟨by rw[HV.out];rfl,hB03⟩
def magicB:List UInt8:=[108,111,117,112,101,48,48,49]
def headX (fi ma:Int)(ro:List Int):List UInt8:=padB [magicB,numsB [fi,ma],numsB ro].flatten
def headPB (s:PgSt):List UInt8:=headX s.first s.many s.roots
theorem headX_fits {fi ma:Int}{ro:List Int}(h:ro.length=16):[magicB,numsB [fi,ma],numsB ro].flatten.length=80:=by
 have h1:=numsB_length [fi,ma]
 have h2:=numsB_length ro
 simp only[zR,qK] at h1
 simp only[List.flatten_cons,List.flatten_nil,zQ,qK,h1,h2,h]
 rfl
theorem headPB_length {s:PgSt}(h:s.roots.length=16):(headPB s).length=512:=padB_length (by rw[headX_fits h];omega)
theorem x_sliceR {ρ:Operand->Value}{o:Oper}{w:World}{x:Operand}{g:Nat}(ho:o.op = .slice 49 x none none none)(h:ρ x = .pointer (some ⟨g,3,none⟩)):(execOp ρ o).run Tryz.prog w = .ok (.value (.slice (some ⟨g,3,none⟩) 16 16)) w:=by
 have ht:=Tryz.underlying49
 simp[execOp,ho,h,go_sem,Result.andThen,ht]
section
variable {ρ:Operand->Value}{o:Oper}{W:World}
theorem x_magic (ho:o.op = .buildSlice 22 8 #[(0,.const (.int .u8 108)),(1,.const (.int .u8 111)),(2,.const (.int .u8 117)),(3,.const (.int .u8 112)),(4,.const (.int .u8 101)),(5,.const (.int .u8 48)),(6,.const (.int .u8 48)),(7,.const (.int .u8 49))])
  (h0:∀v,ρ (.const v)=v):(execOp ρ o).run Tryz.prog W = .ok (.value (.slice (some ⟨W.heap.size,0,none⟩) 8 8)) (W.alloc (.cells (magicB.map b8).toArray 5)):=by
 simp[execOp,ho,go_sem,Result.andThen,magicB,b8,h0]
theorem x_ints2 {x y:Operand}{a b:Int}(ho:o.op = .buildSlice 94 2 #[(0,x),(1,y)])(h1:ρ x = .int .i64 a)(h2:ρ y = .int .i64 b):(execOp ρ o).run Tryz.prog W = .ok (.value (.slice (some ⟨W.heap.size,0,none⟩) 2 2)) (W.alloc (.cells #[.int .i64 a,.int .i64 b] 3)):=by
 simp[execOp,ho,h1,h2,go_sem,Result.andThen]
theorem x_lists3 {x y z:Operand}{A B C:Option Addr}{n m k a b c:Nat}(ho:o.op = .buildSlice 141 3 #[(0,x),(1,y),(2,z)])(h1:ρ x = .slice A n a)(h2:ρ y = .slice B m b)(h3:ρ z = .slice C k c):(execOp ρ o).run Tryz.prog W = .ok (.value (.slice (some ⟨W.heap.size,0,none⟩) 3 3)) (W.alloc (.cells #[.slice A n a,.slice B m b,.slice C k c] 22)):=by
 simp[execOp,ho,h1,h2,h3,go_sem,Result.andThen]
end
theorem ints2_new (W:World)(a b:Int):IntsL [a,b] (.slice (some ⟨W.heap.size,0,none⟩) 2 2) (W.alloc (.cells #[.int .i64 a,.int .i64 b] 3)):=⟨W.heap.size,rfl,fun j hj=>by
 rw[(BlkIs.new W 3 #[.int .i64 a,.int .i64 b]).cell]
 match j,hj with
 | 0,_=>rfl
 | 1,_=>rfl
 | j+2,hj=>exact absurd hj (by simp)⟩
theorem lists3_new {W:World}{A B C:Option Addr}{a b c:Nat}{l1 l2 l3:List UInt8}(h1:InB W W.heap.size A a l1)(h2:InB W W.heap.size B b l2)(h3:InB W W.heap.size C c l3):Lists [l1,l2,l3] (.slice (some ⟨W.heap.size,0,none⟩) 3 3) (W.alloc (.cells #[.slice A l1.length a,.slice B l2.length b,.slice C l3.length c] 22)) :=
 Lists.new (w:=W) [((A,a),l1),((B,b),l2),((C,c),l3)] (by
  intro x hx
  simp only[qM,List.not_mem_nil,or_false] at hx
  rcases hx with rfl|rfl|rfl
  ·exact h1
  ·exact h2
  ·exact h3)
theorem IntsL.cells {xs:List Int}{v:Value}{W W':World}(h:IntsL xs v W)(hc:∀p v,W.cell? p=some v->W'.cell? p=some v):IntsL xs v W':=by
 obtain⟨b,e,h⟩:=h
 exact⟨b,e,fun j hj=>hc _ _ (h j hj)⟩
theorem InB.cells {W W':World}{A:Option Addr}{c:Nat}{l:List UInt8}(h:InB W W.heap.size A c l)(hs:W'.heap.size=W.heap.size)(hc:∀p v,W.cell? p=some v->W'.cell? p=some v):InB W' W'.heap.size A c l:=by
 refine⟨h.le,h.max,h.nil,fun h0 => ?_⟩
 obtain⟨g,o,e,hg,h⟩:=h.lies h0
 exact⟨g,o,e,by omega,fun j hj=>hc _ _ (h j hj)⟩
theorem x_convM {W:World}{g n c:Nat}{cs:Array Value}(hb:BlkIs W g 5 cs):∃W',(∀(ρ:Operand->Value) (o:Oper) {x:Operand},o.op = .convert 22 22 x->ρ x = .slice (some ⟨g,0,none⟩) n c->(execOp ρ o).run Tryz.prog W = .ok (.value (.slice (some ⟨g,0,none⟩) n c)) W')/\W'.heap.size=W.heap.size/\(∀p v,W.cell? p=some v->W'.cell? p=some v)/\GrowBut (fun k=>k=g) W W':=by
 have hh:W.heap[g]? = some (.cells cs 5 (0,0)):=hb
 have hsh:W.shape? g=some (5,cs.size):=by
  unfold World.shape?
  rw[hh]
 have ht:=Tryz.underlying22
 have he:=Tryz.underlying5
 refine⟨W.freeze ⟨g,cs.size,none⟩ 1,fun ρ o x ho hx => ?_,?_,?_,?_⟩
 ·simp[execOp,ho,hx,convert,run_underlying ht,run_underlying he,markStringish,hsh,Result.andThen,go_sem]
 ·simp[World.freeze]
 ·intro p v hp
  have hbl:(W.freeze ⟨g,cs.size,none⟩ 1).heap[p.block]? = if p.block=g then some (.cells cs 5 (cs.size,cs.size+1)) else W.heap[p.block]?:=by
   by_cases e:p.block=g
   ·rw[if_pos e,e]
    simp[World.freeze,Array.getElem?_modify,hh]
   ·rw[if_neg e]
    simp[World.freeze,Array.getElem?_modify,Ne.symm e]
  by_cases e:p.block=g
  ·rw[if_pos e] at hbl
   rw[<-e] at hh
   simp only[World.cell?,hh] at hp
   simp only[World.cell?,hbl]
   exact hp
  ·rw[if_neg e] at hbl
   rw[World.cell?_of_block hbl]
   exact hp
 ·refine⟨rfl,rfl,rfl,by simp[World.freeze],fun k hk hn => ?_⟩
  have hn:¬ g=k:=fun e=>hn e.symm
  simp[World.freeze,Array.getElem?_modify,hn]
-- THE WALK
theorem phead_gives (w:World)(s:PgSt)(hsz:s.roots.length=16):Calls Tryz.prog 35 #[.agg (psC s).toArray] w fun e w'=>∃A c,e = .returned (.slice A 512 c)/\InB w' w'.heap.size A c (headPB s)/\Below w.heap.size w w':=by
 have hlen:=headPB_length hsz
 obtain⟨cs,hcs⟩:∃cs,cs=(psC s).toArray:=⟨_,rfl⟩
 have hc1':cs[1]? = some (.int .i64 s.first):=by rw[hcs];rfl
 have hc2':cs[2]? = some (.int .i64 s.many):=by rw[hcs];rfl
 have hcr:∀j (h:j<s.roots.length),cs[3+j]? = some (.int .i64 s.roots[j]):=fun j h=>by
  rw[hcs,show 3+j=j+1+1+1 by omega]
  unfold psC
  simp[h]
 rw[<-hcs]
 unfold headPB at hlen ⊢
 generalize s.first=fi at *
 generalize s.many=ma at *
 generalize s.roots=ro at *
 have hpg:∀w u,Lists [magicB,numsB [fi,ma],numsB ro] u w->Calls Tryz.prog 44 #[u] w (GivesB w (headX fi ma ro)):=fun w u hu=>ppage_gives hu (by simp) (by rw[headX_fits hsz];omega)
 have hBw:Below w.heap.size w (w.alloc (.cells cs 51)):=(Below.refl _ w).alloc (zG _) _
 have hbh:=BlkIs.new w 51 cs
 clear hcs
 go_enter Tryz.func35,Tryz.ntmps35
 go_wp2_with fail
 generalize w.alloc (.cells cs 51)=w1 at *
 have hS:∀W,Below w1.heap.size w1 W->W.cell? ⟨w.heap.size,1,none⟩=some (.int .i64 fi)/\W.cell? ⟨w.heap.size,2,none⟩=some (.int .i64 ma):=fun W hg=>⟨(hg.cell (p:=⟨w.heap.size,1,none⟩) hbh.lt).trans (by rw[hbh.cell];exact hc1'),(hg.cell (p:=⟨w.heap.size,2,none⟩) hbh.lt).trans (by rw[hbh.cell];exact hc2')⟩
 have hro:∀w',Below w1.heap.size w1 w'->Calls Tryz.prog 47 #[.slice (some ⟨w.heap.size,3,none⟩) 16 16] w' (GivesB w' (numsB ro)):=fun w' hg=>by
  have:=pnumbers_gives w' (some ⟨w.heap.size,3,none⟩) 16 ro ⟨fun _=>⟨w.heap.size,3,rfl,fun j hj=>(hg.cell (p:=⟨w.heap.size,3+j,none⟩) hbh.lt).trans (by rw[hbh.cell];exact hcr j hj)⟩⟩ (by omega)
  rw[hsz] at this
  exact this
 have hS0:=hS w1.drew (Below.refl _ _).drew
 have HB:Below w1.heap.size w1 w1.drew:=(Below.refl _ _).drew
 clear hbh hcr hc1' hc2'
 refine RegF.start (fun W:World=>W.cell? ⟨w.heap.size,1,none⟩=some (.int .i64 fi)/\W.cell? ⟨w.heap.size,2,none⟩=some (.int .i64 ma)) 99 (by kernel_rfl) ?_
 refine RegF.t0 2 (.pointer (some ⟨w.heap.size,1,none⟩)) rfl hS0 (fun W ⟨e0,e1⟩=>by go_simp) ?_
 simp only[zD,zC,zB,Act.put,zA,zF,zE]
 refine RegF.t0 3 (.int .i64 fi) rfl hS0 (fun W ⟨e0,e1⟩=>by go_simp) ?_
 simp only[zD,zC,zB,Act.put,zA,zF,zE]
 refine RegF.t0 4 (.pointer (some ⟨w.heap.size,2,none⟩)) rfl hS0 (fun W ⟨e0,e1⟩=>by go_simp) ?_
 simp only[zD,zC,zB,Act.put,zA,zF,zE]
 refine RegF.t0 5 (.int .i64 ma) rfl hS0 (fun W ⟨e0,e1⟩=>by go_simp) ?_
 simp only[zD,zC,zB,Act.put,zA,zF,zE]
 refine RegF.t0 8 (.pointer (some ⟨w.heap.size,3,none⟩)) rfl hS0 (fun W ⟨e0,e1⟩=>by go_simp) ?_
 simp only[zD,zC,zB,Act.put,zA,zF,zE]
 refine RegF.t0 9 (.slice (some ⟨w.heap.size,3,none⟩) 16 16) rfl hS0 (fun W ⟨e0,e1⟩=>by exact x_sliceR rfl rfl) ?_
 simp only[zD,zC,zB,Act.put,zA,zF,zE]
 clear hS0
 refine RegF.two 0 6 (by kernel_rfl) ?_ ?_
 ·skip
  obtain⟨W1,hW⟩:∃W,W=w1.drew.alloc (.cells (magicB.map b8).toArray 5):=⟨_,rfl⟩
  obtain⟨g0,hg0⟩:∃g,g=w1.drew.heap.size:=⟨_,rfl⟩
  have hG:Below w1.drew.heap.size w1.drew W1:=by rw[hW];exact(Below.refl _ _).alloc (zG _) _
  have hb0:BlkIs W1 g0 5 (magicB.map b8).toArray:=by rw[hW,hg0];exact BlkIs.new _ _ _
  have hgs:w1.heap.size<=g0:=by rw[hg0];exact HB.size
  replace HB:=HB.trans (hG.mono HB.size)
  refine RegF.opV (w':=W1) (.slice (some ⟨g0,0,none⟩) 8 8) rfl rfl (by rw[hW,hg0];exact x_magic rfl (fun _=>rfl)) ⟨fun _=>hS _ HB,?_⟩
  clear hW hg0 hG
  simp only[zD,zB,Act.put,zA,zF,zE]
  refine RegF.two 1 6 (by kernel_rfl) ?_ ?_
  ·skip
   obtain⟨W2,hrun,hSz,hCl,hbl⟩:=x_convM (W:=W1) (g:=g0) (n:=8) (c:=8) hb0
   have in4:InB W2 W2.heap.size (some ⟨g0,0,none⟩) 8 magicB:=InB.cells (hb0.inB _ hb0.lt (by decide)) hSz hCl
   replace HB:=HB.trans (hbl.toBelow HB.size (fun k e=>by rw[e];exact hgs))
   refine RegF.opV (w':=W2) (.slice (some ⟨g0,0,none⟩) 8 8) rfl rfl (hrun _ _ rfl rfl) ⟨fun _=>hS _ HB,?_⟩
   clear hrun hSz hCl hbl hb0 hgs
   simp only[zD,zC,zB,Act.put,zA,zF,zE]
   refine RegF.one 6 (by kernel_rfl) ?_
   obtain⟨W3,hW⟩:∃W,W=W2.alloc (.cells #[.int .i64 fi,.int .i64 ma] 3):=⟨_,rfl⟩
   obtain⟨g9,hg9⟩:∃g,g=W2.heap.size:=⟨_,rfl⟩
   have hG:Below W2.heap.size W2 W3:=by rw[hW];exact(Below.refl _ _).alloc (zG _) _
   have i9:IntsL [fi,ma] (.slice (some ⟨g9,0,none⟩) 2 2) W3:=by rw[hW,hg9];exact ints2_new _ _ _
   replace in4:=(in4.below hG).more hG.size
   replace HB:=HB.trans (hG.mono HB.size)
   refine RegF.opV (w':=W3) (.slice (some ⟨g9,0,none⟩) 2 2) rfl rfl (by rw[hW,hg9];exact x_ints2 rfl rfl rfl) ⟨fun _=>hS _ HB,?_⟩
   clear hW hg9 hG
   simp only[zD,zC,zB,Act.put,zA,zF,zE]
   refine RegF.one 7 (by kernel_rfl) ?_
   refine RegF.opC 47 #[.tmp 9] #[94] rfl rfl rfl (enters_of Tryz.func47 (by kernel_rfl) rfl) #[.slice (some ⟨g9,0,none⟩) 2 2] (by simp only[zJ,zK,zL];rfl) ((IntsL.gives i9 (by simp)).mono ?_)
   rintro e W4 ⟨v10,rfl,own10,hG⟩
   obtain⟨A10,c10,rfl,in10⟩:=own10.inB
   replace in4:=(in4.below hG).more hG.size
   replace i9:=ints_stable _ _ _ _ i9 hG
   replace HB:=HB.trans (hG.mono HB.size)
   refine⟨_,rfl,fun _=>hS _ HB,?_⟩
   clear hG own10
   simp only[zD,zC,zB,Act.put,zA,zF,zE]
   refine RegF.one 10 (by kernel_rfl) ?_
   refine RegF.opC 47 #[.tmp 12] #[94] rfl rfl rfl (enters_of Tryz.func47 (by kernel_rfl) rfl) #[.slice (some ⟨w.heap.size,3,none⟩) 16 16] (by simp only[zJ,zK,zL];rfl) ((hro _ HB).mono ?_)
   rintro e W5 ⟨v13,rfl,own13,hG⟩
   obtain⟨A13,c13,rfl,in13⟩:=own13.inB
   replace in4:=(in4.below hG).more hG.size
   replace i9:=ints_stable _ _ _ _ i9 hG
   replace in10:=(in10.below hG).more hG.size
   replace HB:=HB.trans (hG.mono HB.size)
   refine⟨_,rfl,fun _=>hS _ HB,?_⟩
   clear hG own13
   simp only[zD,zC,zB,Act.put,zA,zF,zE]
   obtain⟨W6,hW⟩:∃W,W=W5.alloc (.cells #[.slice (some ⟨g0,0,none⟩) 8 8,.slice A10 (numsB [fi,ma]).length c10,.slice A13 (numsB ro).length c13] 22):=⟨_,rfl⟩
   obtain⟨g14,hg14⟩:∃g,g=W5.heap.size:=⟨_,rfl⟩
   have hL:Lists [magicB,numsB [fi,ma],numsB ro] (.slice (some ⟨g14,0,none⟩) 3 3) W6:=by rw[hW,hg14];exact lists3_new in4 in10 in13
   replace HB:Below w1.heap.size w1 W6:=by rw[hW];exact HB.alloc HB.size _
   refine RegF.one 11 (by kernel_rfl) (RegF.opV (w':=W6) (.slice (some ⟨g14,0,none⟩) 3 3) rfl rfl (by rw[hW,hg14];exact x_lists3 rfl rfl rfl rfl) ⟨fun _=>hS _ HB,?_⟩)
   simp only[zD,zC,zB,Act.put,zA,zF,zE]
   refine RegF.one 12 (by kernel_rfl) ?_
   refine RegF.opC 44 #[.tmp 14] #[141] rfl rfl rfl (enters_of Tryz.func44 (by kernel_rfl) rfl) #[.slice (some ⟨g14,0,none⟩) 3 3] (by simp only[zJ,zK,zL];rfl) ((hpg _ _ hL).mono ?_)
   rintro e W7 ⟨v15,rfl,own15,hG⟩
   obtain⟨A15,c15,rfl,in15⟩:=own15.inB
   replace HB:=HB.trans (hG.mono HB.size)
   refine⟨_,rfl,fun _=>hS _ HB,?_⟩
   simp only[zD,zC,zB,Act.put,zA,zF,zE]
   refine RegF.one 13 (by kernel_rfl) (RegF.opV (w':=W7) (.slice A15 (headX fi ma ro).length c15) rfl rfl (by go_simp) ⟨fun _=>hS _ HB,RegF.done (by kernel_rfl) ?_⟩)
   simp only[zD,zC,zB,Act.put,zA,zF,zE]
   have HBF:=Lib.hid (hBw.trans (HB.mono hBw.size))
   have H15:=Lib.hid in15
   rw[hlen]
   clear hS hro hpg HB in4 i9 in10 in13 hL hW hg14 own15 hG in15 hBw hlen
   go_wp2
   go_ret
   exact⟨A15,c15,rfl,H15.out,HBF.out⟩
  ·skip
   obtain⟨W8,hW⟩:∃W,W=W1.alloc (.cells #[.int .i64 fi,.int .i64 ma] 3):=⟨_,rfl⟩
   obtain⟨g9,hg9⟩:∃g,g=W1.heap.size:=⟨_,rfl⟩
   have hG:Below W1.heap.size W1 W8:=by rw[hW];exact(Below.refl _ _).alloc (zG _) _
   have i9:IntsL [fi,ma] (.slice (some ⟨g9,0,none⟩) 2 2) W8:=by rw[hW,hg9];exact ints2_new _ _ _
   replace hb0:=hb0.below hG hb0.lt
   replace HB:=HB.trans (hG.mono HB.size)
   refine RegF.opV (w':=W8) (.slice (some ⟨g9,0,none⟩) 2 2) rfl rfl (by rw[hW,hg9];exact x_ints2 rfl rfl rfl) ⟨fun _=>hS _ HB,?_⟩
   clear hW hg9 hG
   simp only[zD,zC,zB,Act.put,zA,zF,zE]
   refine RegF.two 1 7 (by kernel_rfl) ?_ ?_
   ·skip
    obtain⟨W9,hrun,hSz,hCl,hbl⟩:=x_convM (W:=W8) (g:=g0) (n:=8) (c:=8) hb0
    have in4:InB W9 W9.heap.size (some ⟨g0,0,none⟩) 8 magicB:=InB.cells (hb0.inB _ hb0.lt (by decide)) hSz hCl
    replace i9:=i9.cells hCl
    replace HB:=HB.trans (hbl.toBelow HB.size (fun k e=>by rw[e];exact hgs))
    refine RegF.opV (w':=W9) (.slice (some ⟨g0,0,none⟩) 8 8) rfl rfl (hrun _ _ rfl rfl) ⟨fun _=>hS _ HB,?_⟩
    clear hrun hSz hCl hbl hb0 hgs
    simp only[zD,zC,zB,Act.put,zA,zF,zE]
    refine RegF.one 7 (by kernel_rfl) ?_
    refine RegF.opC 47 #[.tmp 9] #[94] rfl rfl rfl (enters_of Tryz.func47 (by kernel_rfl) rfl) #[.slice (some ⟨g9,0,none⟩) 2 2] (by simp only[zJ,zK,zL];rfl) ((IntsL.gives i9 (by simp)).mono ?_)
    rintro e W10 ⟨v10,rfl,own10,hG⟩
    obtain⟨A10,c10,rfl,in10⟩:=own10.inB
    replace in4:=(in4.below hG).more hG.size
    replace i9:=ints_stable _ _ _ _ i9 hG
    replace HB:=HB.trans (hG.mono HB.size)
    refine⟨_,rfl,fun _=>hS _ HB,?_⟩
    clear hG own10
    simp only[zD,zC,zB,Act.put,zA,zF,zE]
    refine RegF.one 10 (by kernel_rfl) ?_
    refine RegF.opC 47 #[.tmp 12] #[94] rfl rfl rfl (enters_of Tryz.func47 (by kernel_rfl) rfl) #[.slice (some ⟨w.heap.size,3,none⟩) 16 16] (by simp only[zJ,zK,zL];rfl) ((hro _ HB).mono ?_)
    rintro e W11 ⟨v13,rfl,own13,hG⟩
    obtain⟨A13,c13,rfl,in13⟩:=own13.inB
    replace in4:=(in4.below hG).more hG.size
    replace i9:=ints_stable _ _ _ _ i9 hG
    replace in10:=(in10.below hG).more hG.size
    replace HB:=HB.trans (hG.mono HB.size)
    refine⟨_,rfl,fun _=>hS _ HB,?_⟩
    clear hG own13
    simp only[zD,zC,zB,Act.put,zA,zF,zE]
    obtain⟨W12,hW⟩:∃W,W=W11.alloc (.cells #[.slice (some ⟨g0,0,none⟩) 8 8,.slice A10 (numsB [fi,ma]).length c10,.slice A13 (numsB ro).length c13] 22):=⟨_,rfl⟩
    obtain⟨g14,hg14⟩:∃g,g=W11.heap.size:=⟨_,rfl⟩
    have hL:Lists [magicB,numsB [fi,ma],numsB ro] (.slice (some ⟨g14,0,none⟩) 3 3) W12:=by rw[hW,hg14];exact lists3_new in4 in10 in13
    replace HB:Below w1.heap.size w1 W12:=by rw[hW];exact HB.alloc HB.size _
    refine RegF.one 11 (by kernel_rfl) (RegF.opV (w':=W12) (.slice (some ⟨g14,0,none⟩) 3 3) rfl rfl (by rw[hW,hg14];exact x_lists3 rfl rfl rfl rfl) ⟨fun _=>hS _ HB,?_⟩)
    simp only[zD,zC,zB,Act.put,zA,zF,zE]
    refine RegF.one 12 (by kernel_rfl) ?_
    refine RegF.opC 44 #[.tmp 14] #[141] rfl rfl rfl (enters_of Tryz.func44 (by kernel_rfl) rfl) #[.slice (some ⟨g14,0,none⟩) 3 3] (by simp only[zJ,zK,zL];rfl) ((hpg _ _ hL).mono ?_)
    rintro e W13 ⟨v15,rfl,own15,hG⟩
    obtain⟨A15,c15,rfl,in15⟩:=own15.inB
    replace HB:=HB.trans (hG.mono HB.size)
    refine⟨_,rfl,fun _=>hS _ HB,?_⟩
    simp only[zD,zC,zB,Act.put,zA,zF,zE]
    refine RegF.one 13 (by kernel_rfl) (RegF.opV (w':=W13) (.slice A15 (headX fi ma ro).length c15) rfl rfl (by go_simp) ⟨fun _=>hS _ HB,RegF.done (by kernel_rfl) ?_⟩)
    simp only[zD,zC,zB,Act.put,zA,zF,zE]
    have HBF:=Lib.hid (hBw.trans (HB.mono hBw.size))
    have H15:=Lib.hid in15
    rw[hlen]
    clear hS hro hpg HB in4 i9 in10 in13 hL hW hg14 own15 hG in15 hBw hlen
    go_wp2
    go_ret
    exact⟨A15,c15,rfl,H15.out,HBF.out⟩
   ·skip
    refine RegF.opC 47 #[.tmp 9] #[94] rfl rfl rfl (enters_of Tryz.func47 (by kernel_rfl) rfl) #[.slice (some ⟨g9,0,none⟩) 2 2] (by simp only[zJ,zK,zL];rfl) ((IntsL.gives i9 (by simp)).mono ?_)
    rintro e W14 ⟨v10,rfl,own10,hG⟩
    obtain⟨A10,c10,rfl,in10⟩:=own10.inB
    replace hb0:=hb0.below hG hb0.lt
    replace i9:=ints_stable _ _ _ _ i9 hG
    replace HB:=HB.trans (hG.mono HB.size)
    refine⟨_,rfl,fun _=>hS _ HB,?_⟩
    clear hG own10
    simp only[zD,zC,zB,Act.put,zA,zF,zE]
    refine RegF.two 1 10 (by kernel_rfl) ?_ ?_
    ·skip
     obtain⟨W15,hrun,hSz,hCl,hbl⟩:=x_convM (W:=W14) (g:=g0) (n:=8) (c:=8) hb0
     have in4:InB W15 W15.heap.size (some ⟨g0,0,none⟩) 8 magicB:=InB.cells (hb0.inB _ hb0.lt (by decide)) hSz hCl
     replace i9:=i9.cells hCl
     replace in10:=in10.cells hSz hCl
     replace HB:=HB.trans (hbl.toBelow HB.size (fun k e=>by rw[e];exact hgs))
     refine RegF.opV (w':=W15) (.slice (some ⟨g0,0,none⟩) 8 8) rfl rfl (hrun _ _ rfl rfl) ⟨fun _=>hS _ HB,?_⟩
     clear hrun hSz hCl hbl hb0 hgs
     simp only[zD,zC,zB,Act.put,zA,zF,zE]
     refine RegF.one 10 (by kernel_rfl) ?_
     refine RegF.opC 47 #[.tmp 12] #[94] rfl rfl rfl (enters_of Tryz.func47 (by kernel_rfl) rfl) #[.slice (some ⟨w.heap.size,3,none⟩) 16 16] (by simp only[zJ,zK,zL];rfl) ((hro _ HB).mono ?_)
     rintro e W16 ⟨v13,rfl,own13,hG⟩
     obtain⟨A13,c13,rfl,in13⟩:=own13.inB
     replace in4:=(in4.below hG).more hG.size
     replace i9:=ints_stable _ _ _ _ i9 hG
     replace in10:=(in10.below hG).more hG.size
     replace HB:=HB.trans (hG.mono HB.size)
     refine⟨_,rfl,fun _=>hS _ HB,?_⟩
     clear hG own13
     simp only[zD,zC,zB,Act.put,zA,zF,zE]
     obtain⟨W17,hW⟩:∃W,W=W16.alloc (.cells #[.slice (some ⟨g0,0,none⟩) 8 8,.slice A10 (numsB [fi,ma]).length c10,.slice A13 (numsB ro).length c13] 22):=⟨_,rfl⟩
     obtain⟨g14,hg14⟩:∃g,g=W16.heap.size:=⟨_,rfl⟩
     have hL:Lists [magicB,numsB [fi,ma],numsB ro] (.slice (some ⟨g14,0,none⟩) 3 3) W17:=by rw[hW,hg14];exact lists3_new in4 in10 in13
     replace HB:Below w1.heap.size w1 W17:=by rw[hW];exact HB.alloc HB.size _
     refine RegF.one 11 (by kernel_rfl) (RegF.opV (w':=W17) (.slice (some ⟨g14,0,none⟩) 3 3) rfl rfl (by rw[hW,hg14];exact x_lists3 rfl rfl rfl rfl) ⟨fun _=>hS _ HB,?_⟩)
     simp only[zD,zC,zB,Act.put,zA,zF,zE]
     refine RegF.one 12 (by kernel_rfl) ?_
     refine RegF.opC 44 #[.tmp 14] #[141] rfl rfl rfl (enters_of Tryz.func44 (by kernel_rfl) rfl) #[.slice (some ⟨g14,0,none⟩) 3 3] (by simp only[zJ,zK,zL];rfl) ((hpg _ _ hL).mono ?_)
     rintro e W18 ⟨v15,rfl,own15,hG⟩
     obtain⟨A15,c15,rfl,in15⟩:=own15.inB
     replace HB:=HB.trans (hG.mono HB.size)
     refine⟨_,rfl,fun _=>hS _ HB,?_⟩
     simp only[zD,zC,zB,Act.put,zA,zF,zE]
     refine RegF.one 13 (by kernel_rfl) (RegF.opV (w':=W18) (.slice A15 (headX fi ma ro).length c15) rfl rfl (by go_simp) ⟨fun _=>hS _ HB,RegF.done (by kernel_rfl) ?_⟩)
     simp only[zD,zC,zB,Act.put,zA,zF,zE]
     have HBF:=Lib.hid (hBw.trans (HB.mono hBw.size))
     have H15:=Lib.hid in15
     rw[hlen]
     clear hS hro hpg HB in4 i9 in10 in13 hL hW hg14 own15 hG in15 hBw hlen
     go_wp2
     go_ret
     exact⟨A15,c15,rfl,H15.out,HBF.out⟩
    ·skip
     refine RegF.opC 47 #[.tmp 12] #[94] rfl rfl rfl (enters_of Tryz.func47 (by kernel_rfl) rfl) #[.slice (some ⟨w.heap.size,3,none⟩) 16 16] (by simp only[zJ,zK,zL];rfl) ((hro _ HB).mono ?_)
     rintro e W19 ⟨v13,rfl,own13,hG⟩
     obtain⟨A13,c13,rfl,in13⟩:=own13.inB
     replace hb0:=hb0.below hG hb0.lt
     replace i9:=ints_stable _ _ _ _ i9 hG
     replace in10:=(in10.below hG).more hG.size
     replace HB:=HB.trans (hG.mono HB.size)
     refine⟨_,rfl,fun _=>hS _ HB,?_⟩
     clear hG own13
     simp only[zD,zC,zB,Act.put,zA,zF,zE]
     refine RegF.one 1 (by kernel_rfl) ?_
     obtain⟨W20,hrun,hSz,hCl,hbl⟩:=x_convM (W:=W19) (g:=g0) (n:=8) (c:=8) hb0
     have in4:InB W20 W20.heap.size (some ⟨g0,0,none⟩) 8 magicB:=InB.cells (hb0.inB _ hb0.lt (by decide)) hSz hCl
     replace i9:=i9.cells hCl
     replace in10:=in10.cells hSz hCl
     replace in13:=in13.cells hSz hCl
     replace HB:=HB.trans (hbl.toBelow HB.size (fun k e=>by rw[e];exact hgs))
     refine RegF.opV (w':=W20) (.slice (some ⟨g0,0,none⟩) 8 8) rfl rfl (hrun _ _ rfl rfl) ⟨fun _=>hS _ HB,?_⟩
     clear hrun hSz hCl hbl hb0 hgs
     simp only[zD,zC,zB,Act.put,zA,zF,zE]
     obtain⟨W21,hW⟩:∃W,W=W20.alloc (.cells #[.slice (some ⟨g0,0,none⟩) 8 8,.slice A10 (numsB [fi,ma]).length c10,.slice A13 (numsB ro).length c13] 22):=⟨_,rfl⟩
     obtain⟨g14,hg14⟩:∃g,g=W20.heap.size:=⟨_,rfl⟩
     have hL:Lists [magicB,numsB [fi,ma],numsB ro] (.slice (some ⟨g14,0,none⟩) 3 3) W21:=by rw[hW,hg14];exact lists3_new in4 in10 in13
     replace HB:Below w1.heap.size w1 W21:=by rw[hW];exact HB.alloc HB.size _
     refine RegF.one 11 (by kernel_rfl) (RegF.opV (w':=W21) (.slice (some ⟨g14,0,none⟩) 3 3) rfl rfl (by rw[hW,hg14];exact x_lists3 rfl rfl rfl rfl) ⟨fun _=>hS _ HB,?_⟩)
     simp only[zD,zC,zB,Act.put,zA,zF,zE]
     refine RegF.one 12 (by kernel_rfl) ?_
     refine RegF.opC 44 #[.tmp 14] #[141] rfl rfl rfl (enters_of Tryz.func44 (by kernel_rfl) rfl) #[.slice (some ⟨g14,0,none⟩) 3 3] (by simp only[zJ,zK,zL];rfl) ((hpg _ _ hL).mono ?_)
     rintro e W22 ⟨v15,rfl,own15,hG⟩
     obtain⟨A15,c15,rfl,in15⟩:=own15.inB
     replace HB:=HB.trans (hG.mono HB.size)
     refine⟨_,rfl,fun _=>hS _ HB,?_⟩
     simp only[zD,zC,zB,Act.put,zA,zF,zE]
     refine RegF.one 13 (by kernel_rfl) (RegF.opV (w':=W22) (.slice A15 (headX fi ma ro).length c15) rfl rfl (by go_simp) ⟨fun _=>hS _ HB,RegF.done (by kernel_rfl) ?_⟩)
     simp only[zD,zC,zB,Act.put,zA,zF,zE]
     have HBF:=Lib.hid (hBw.trans (HB.mono hBw.size))
     have H15:=Lib.hid in15
     rw[hlen]
     clear hS hro hpg HB in4 i9 in10 in13 hL hW hg14 own15 hG in15 hBw hlen
     go_wp2
     go_ret
     exact⟨A15,c15,rfl,H15.out,HBF.out⟩
 ·skip
  obtain⟨W23,hW⟩:∃W,W=w1.drew.alloc (.cells #[.int .i64 fi,.int .i64 ma] 3):=⟨_,rfl⟩
  obtain⟨g9,hg9⟩:∃g,g=w1.drew.heap.size:=⟨_,rfl⟩
  have hG:Below w1.drew.heap.size w1.drew W23:=by rw[hW];exact(Below.refl _ _).alloc (zG _) _
  have i9:IntsL [fi,ma] (.slice (some ⟨g9,0,none⟩) 2 2) W23:=by rw[hW,hg9];exact ints2_new _ _ _
  replace HB:=HB.trans (hG.mono HB.size)
  refine RegF.opV (w':=W23) (.slice (some ⟨g9,0,none⟩) 2 2) rfl rfl (by rw[hW,hg9];exact x_ints2 rfl rfl rfl) ⟨fun _=>hS _ HB,?_⟩
  clear hW hg9 hG
  simp only[zD,zC,zB,Act.put,zA,zF,zE]
  refine RegF.two 0 7 (by kernel_rfl) ?_ ?_
  ·skip
   obtain⟨W24,hW⟩:∃W,W=W23.alloc (.cells (magicB.map b8).toArray 5):=⟨_,rfl⟩
   obtain⟨g0,hg0⟩:∃g,g=W23.heap.size:=⟨_,rfl⟩
   have hG:Below W23.heap.size W23 W24:=by rw[hW];exact(Below.refl _ _).alloc (zG _) _
   have hb0:BlkIs W24 g0 5 (magicB.map b8).toArray:=by rw[hW,hg0];exact BlkIs.new _ _ _
   have hgs:w1.heap.size<=g0:=by rw[hg0];exact HB.size
   replace i9:=ints_stable _ _ _ _ i9 hG
   replace HB:=HB.trans (hG.mono HB.size)
   refine RegF.opV (w':=W24) (.slice (some ⟨g0,0,none⟩) 8 8) rfl rfl (by rw[hW,hg0];exact x_magic rfl (fun _=>rfl)) ⟨fun _=>hS _ HB,?_⟩
   clear hW hg0 hG
   simp only[zD,zB,Act.put,zA,zF,zE]
   refine RegF.two 1 7 (by kernel_rfl) ?_ ?_
   ·skip
    obtain⟨W25,hrun,hSz,hCl,hbl⟩:=x_convM (W:=W24) (g:=g0) (n:=8) (c:=8) hb0
    have in4:InB W25 W25.heap.size (some ⟨g0,0,none⟩) 8 magicB:=InB.cells (hb0.inB _ hb0.lt (by decide)) hSz hCl
    replace i9:=i9.cells hCl
    replace HB:=HB.trans (hbl.toBelow HB.size (fun k e=>by rw[e];exact hgs))
    refine RegF.opV (w':=W25) (.slice (some ⟨g0,0,none⟩) 8 8) rfl rfl (hrun _ _ rfl rfl) ⟨fun _=>hS _ HB,?_⟩
    clear hrun hSz hCl hbl hb0 hgs
    simp only[zD,zC,zB,Act.put,zA,zF,zE]
    refine RegF.one 7 (by kernel_rfl) ?_
    refine RegF.opC 47 #[.tmp 9] #[94] rfl rfl rfl (enters_of Tryz.func47 (by kernel_rfl) rfl) #[.slice (some ⟨g9,0,none⟩) 2 2] (by simp only[zJ,zK,zL];rfl) ((IntsL.gives i9 (by simp)).mono ?_)
    rintro e W26 ⟨v10,rfl,own10,hG⟩
    obtain⟨A10,c10,rfl,in10⟩:=own10.inB
    replace in4:=(in4.below hG).more hG.size
    replace i9:=ints_stable _ _ _ _ i9 hG
    replace HB:=HB.trans (hG.mono HB.size)
    refine⟨_,rfl,fun _=>hS _ HB,?_⟩
    clear hG own10
    simp only[zD,zC,zB,Act.put,zA,zF,zE]
    refine RegF.one 10 (by kernel_rfl) ?_
    refine RegF.opC 47 #[.tmp 12] #[94] rfl rfl rfl (enters_of Tryz.func47 (by kernel_rfl) rfl) #[.slice (some ⟨w.heap.size,3,none⟩) 16 16] (by simp only[zJ,zK,zL];rfl) ((hro _ HB).mono ?_)
    rintro e W27 ⟨v13,rfl,own13,hG⟩
    obtain⟨A13,c13,rfl,in13⟩:=own13.inB
    replace in4:=(in4.below hG).more hG.size
    replace i9:=ints_stable _ _ _ _ i9 hG
    replace in10:=(in10.below hG).more hG.size
    replace HB:=HB.trans (hG.mono HB.size)
    refine⟨_,rfl,fun _=>hS _ HB,?_⟩
    clear hG own13
    simp only[zD,zC,zB,Act.put,zA,zF,zE]
    obtain⟨W28,hW⟩:∃W,W=W27.alloc (.cells #[.slice (some ⟨g0,0,none⟩) 8 8,.slice A10 (numsB [fi,ma]).length c10,.slice A13 (numsB ro).length c13] 22):=⟨_,rfl⟩
    obtain⟨g14,hg14⟩:∃g,g=W27.heap.size:=⟨_,rfl⟩
    have hL:Lists [magicB,numsB [fi,ma],numsB ro] (.slice (some ⟨g14,0,none⟩) 3 3) W28:=by rw[hW,hg14];exact lists3_new in4 in10 in13
    replace HB:Below w1.heap.size w1 W28:=by rw[hW];exact HB.alloc HB.size _
    refine RegF.one 11 (by kernel_rfl) (RegF.opV (w':=W28) (.slice (some ⟨g14,0,none⟩) 3 3) rfl rfl (by rw[hW,hg14];exact x_lists3 rfl rfl rfl rfl) ⟨fun _=>hS _ HB,?_⟩)
    simp only[zD,zC,zB,Act.put,zA,zF,zE]
    refine RegF.one 12 (by kernel_rfl) ?_
    refine RegF.opC 44 #[.tmp 14] #[141] rfl rfl rfl (enters_of Tryz.func44 (by kernel_rfl) rfl) #[.slice (some ⟨g14,0,none⟩) 3 3] (by simp only[zJ,zK,zL];rfl) ((hpg _ _ hL).mono ?_)
    rintro e W29 ⟨v15,rfl,own15,hG⟩
    obtain⟨A15,c15,rfl,in15⟩:=own15.inB
    replace HB:=HB.trans (hG.mono HB.size)
    refine⟨_,rfl,fun _=>hS _ HB,?_⟩
    simp only[zD,zC,zB,Act.put,zA,zF,zE]
    refine RegF.one 13 (by kernel_rfl) (RegF.opV (w':=W29) (.slice A15 (headX fi ma ro).length c15) rfl rfl (by go_simp) ⟨fun _=>hS _ HB,RegF.done (by kernel_rfl) ?_⟩)
    simp only[zD,zC,zB,Act.put,zA,zF,zE]
    have HBF:=Lib.hid (hBw.trans (HB.mono hBw.size))
    have H15:=Lib.hid in15
    rw[hlen]
    clear hS hro hpg HB in4 i9 in10 in13 hL hW hg14 own15 hG in15 hBw hlen
    go_wp2
    go_ret
    exact⟨A15,c15,rfl,H15.out,HBF.out⟩
   ·skip
    refine RegF.opC 47 #[.tmp 9] #[94] rfl rfl rfl (enters_of Tryz.func47 (by kernel_rfl) rfl) #[.slice (some ⟨g9,0,none⟩) 2 2] (by simp only[zJ,zK,zL];rfl) ((IntsL.gives i9 (by simp)).mono ?_)
    rintro e W30 ⟨v10,rfl,own10,hG⟩
    obtain⟨A10,c10,rfl,in10⟩:=own10.inB
    replace hb0:=hb0.below hG hb0.lt
    replace i9:=ints_stable _ _ _ _ i9 hG
    replace HB:=HB.trans (hG.mono HB.size)
    refine⟨_,rfl,fun _=>hS _ HB,?_⟩
    clear hG own10
    simp only[zD,zC,zB,Act.put,zA,zF,zE]
    refine RegF.two 1 10 (by kernel_rfl) ?_ ?_
    ·skip
     obtain⟨W31,hrun,hSz,hCl,hbl⟩:=x_convM (W:=W30) (g:=g0) (n:=8) (c:=8) hb0
     have in4:InB W31 W31.heap.size (some ⟨g0,0,none⟩) 8 magicB:=InB.cells (hb0.inB _ hb0.lt (by decide)) hSz hCl
     replace i9:=i9.cells hCl
     replace in10:=in10.cells hSz hCl
     replace HB:=HB.trans (hbl.toBelow HB.size (fun k e=>by rw[e];exact hgs))
     refine RegF.opV (w':=W31) (.slice (some ⟨g0,0,none⟩) 8 8) rfl rfl (hrun _ _ rfl rfl) ⟨fun _=>hS _ HB,?_⟩
     clear hrun hSz hCl hbl hb0 hgs
     simp only[zD,zC,zB,Act.put,zA,zF,zE]
     refine RegF.one 10 (by kernel_rfl) ?_
     refine RegF.opC 47 #[.tmp 12] #[94] rfl rfl rfl (enters_of Tryz.func47 (by kernel_rfl) rfl) #[.slice (some ⟨w.heap.size,3,none⟩) 16 16] (by simp only[zJ,zK,zL];rfl) ((hro _ HB).mono ?_)
     rintro e W32 ⟨v13,rfl,own13,hG⟩
     obtain⟨A13,c13,rfl,in13⟩:=own13.inB
     replace in4:=(in4.below hG).more hG.size
     replace i9:=ints_stable _ _ _ _ i9 hG
     replace in10:=(in10.below hG).more hG.size
     replace HB:=HB.trans (hG.mono HB.size)
     refine⟨_,rfl,fun _=>hS _ HB,?_⟩
     clear hG own13
     simp only[zD,zC,zB,Act.put,zA,zF,zE]
     obtain⟨W33,hW⟩:∃W,W=W32.alloc (.cells #[.slice (some ⟨g0,0,none⟩) 8 8,.slice A10 (numsB [fi,ma]).length c10,.slice A13 (numsB ro).length c13] 22):=⟨_,rfl⟩
     obtain⟨g14,hg14⟩:∃g,g=W32.heap.size:=⟨_,rfl⟩
     have hL:Lists [magicB,numsB [fi,ma],numsB ro] (.slice (some ⟨g14,0,none⟩) 3 3) W33:=by rw[hW,hg14];exact lists3_new in4 in10 in13
     replace HB:Below w1.heap.size w1 W33:=by rw[hW];exact HB.alloc HB.size _
     refine RegF.one 11 (by kernel_rfl) (RegF.opV (w':=W33) (.slice (some ⟨g14,0,none⟩) 3 3) rfl rfl (by rw[hW,hg14];exact x_lists3 rfl rfl rfl rfl) ⟨fun _=>hS _ HB,?_⟩)
     simp only[zD,zC,zB,Act.put,zA,zF,zE]
     refine RegF.one 12 (by kernel_rfl) ?_
     refine RegF.opC 44 #[.tmp 14] #[141] rfl rfl rfl (enters_of Tryz.func44 (by kernel_rfl) rfl) #[.slice (some ⟨g14,0,none⟩) 3 3] (by simp only[zJ,zK,zL];rfl) ((hpg _ _ hL).mono ?_)
     rintro e W34 ⟨v15,rfl,own15,hG⟩
     obtain⟨A15,c15,rfl,in15⟩:=own15.inB
     replace HB:=HB.trans (hG.mono HB.size)
     refine⟨_,rfl,fun _=>hS _ HB,?_⟩
     simp only[zD,zC,zB,Act.put,zA,zF,zE]
     refine RegF.one 13 (by kernel_rfl) (RegF.opV (w':=W34) (.slice A15 (headX fi ma ro).length c15) rfl rfl (by go_simp) ⟨fun _=>hS _ HB,RegF.done (by kernel_rfl) ?_⟩)
     simp only[zD,zC,zB,Act.put,zA,zF,zE]
     have HBF:=Lib.hid (hBw.trans (HB.mono hBw.size))
     have H15:=Lib.hid in15
     rw[hlen]
     clear hS hro hpg HB in4 i9 in10 in13 hL hW hg14 own15 hG in15 hBw hlen
     go_wp2
     go_ret
     exact⟨A15,c15,rfl,H15.out,HBF.out⟩
    ·skip
     refine RegF.opC 47 #[.tmp 12] #[94] rfl rfl rfl (enters_of Tryz.func47 (by kernel_rfl) rfl) #[.slice (some ⟨w.heap.size,3,none⟩) 16 16] (by simp only[zJ,zK,zL];rfl) ((hro _ HB).mono ?_)
     rintro e W35 ⟨v13,rfl,own13,hG⟩
     obtain⟨A13,c13,rfl,in13⟩:=own13.inB
     replace hb0:=hb0.below hG hb0.lt
     replace i9:=ints_stable _ _ _ _ i9 hG
     replace in10:=(in10.below hG).more hG.size
     replace HB:=HB.trans (hG.mono HB.size)
     refine⟨_,rfl,fun _=>hS _ HB,?_⟩
     clear hG own13
     simp only[zD,zC,zB,Act.put,zA,zF,zE]
     refine RegF.one 1 (by kernel_rfl) ?_
     obtain⟨W36,hrun,hSz,hCl,hbl⟩:=x_convM (W:=W35) (g:=g0) (n:=8) (c:=8) hb0
     have in4:InB W36 W36.heap.size (some ⟨g0,0,none⟩) 8 magicB:=InB.cells (hb0.inB _ hb0.lt (by decide)) hSz hCl
     replace i9:=i9.cells hCl
     replace in10:=in10.cells hSz hCl
     replace in13:=in13.cells hSz hCl
     replace HB:=HB.trans (hbl.toBelow HB.size (fun k e=>by rw[e];exact hgs))
     refine RegF.opV (w':=W36) (.slice (some ⟨g0,0,none⟩) 8 8) rfl rfl (hrun _ _ rfl rfl) ⟨fun _=>hS _ HB,?_⟩
     clear hrun hSz hCl hbl hb0 hgs
     simp only[zD,zC,zB,Act.put,zA,zF,zE]
     obtain⟨W37,hW⟩:∃W,W=W36.alloc (.cells #[.slice (some ⟨g0,0,none⟩) 8 8,.slice A10 (numsB [fi,ma]).length c10,.slice A13 (numsB ro).length c13] 22):=⟨_,rfl⟩
     obtain⟨g14,hg14⟩:∃g,g=W36.heap.size:=⟨_,rfl⟩
     have hL:Lists [magicB,numsB [fi,ma],numsB ro] (.slice (some ⟨g14,0,none⟩) 3 3) W37:=by rw[hW,hg14];exact lists3_new in4 in10 in13
     replace HB:Below w1.heap.size w1 W37:=by rw[hW];exact HB.alloc HB.size _
     refine RegF.one 11 (by kernel_rfl) (RegF.opV (w':=W37) (.slice (some ⟨g14,0,none⟩) 3 3) rfl rfl (by rw[hW,hg14];exact x_lists3 rfl rfl rfl rfl) ⟨fun _=>hS _ HB,?_⟩)
     simp only[zD,zC,zB,Act.put,zA,zF,zE]
     refine RegF.one 12 (by kernel_rfl) ?_
     refine RegF.opC 44 #[.tmp 14] #[141] rfl rfl rfl (enters_of Tryz.func44 (by kernel_rfl) rfl) #[.slice (some ⟨g14,0,none⟩) 3 3] (by simp only[zJ,zK,zL];rfl) ((hpg _ _ hL).mono ?_)
     rintro e W38 ⟨v15,rfl,own15,hG⟩
     obtain⟨A15,c15,rfl,in15⟩:=own15.inB
     replace HB:=HB.trans (hG.mono HB.size)
     refine⟨_,rfl,fun _=>hS _ HB,?_⟩
     simp only[zD,zC,zB,Act.put,zA,zF,zE]
     refine RegF.one 13 (by kernel_rfl) (RegF.opV (w':=W38) (.slice A15 (headX fi ma ro).length c15) rfl rfl (by go_simp) ⟨fun _=>hS _ HB,RegF.done (by kernel_rfl) ?_⟩)
     simp only[zD,zC,zB,Act.put,zA,zF,zE]
     have HBF:=Lib.hid (hBw.trans (HB.mono hBw.size))
     have H15:=Lib.hid in15
     rw[hlen]
     clear hS hro hpg HB in4 i9 in10 in13 hL hW hg14 own15 hG in15 hBw hlen
     go_wp2
     go_ret
     exact⟨A15,c15,rfl,H15.out,HBF.out⟩
  ·skip
   refine RegF.opC 47 #[.tmp 9] #[94] rfl rfl rfl (enters_of Tryz.func47 (by kernel_rfl) rfl) #[.slice (some ⟨g9,0,none⟩) 2 2] (by simp only[zJ,zK,zL];rfl) ((IntsL.gives i9 (by simp)).mono ?_)
   rintro e W39 ⟨v10,rfl,own10,hG⟩
   obtain⟨A10,c10,rfl,in10⟩:=own10.inB
   replace i9:=ints_stable _ _ _ _ i9 hG
   replace HB:=HB.trans (hG.mono HB.size)
   refine⟨_,rfl,fun _=>hS _ HB,?_⟩
   clear hG own10
   simp only[zD,zC,zB,Act.put,zA,zF,zE]
   refine RegF.two 0 10 (by kernel_rfl) ?_ ?_
   ·skip
    obtain⟨W40,hW⟩:∃W,W=W39.alloc (.cells (magicB.map b8).toArray 5):=⟨_,rfl⟩
    obtain⟨g0,hg0⟩:∃g,g=W39.heap.size:=⟨_,rfl⟩
    have hG:Below W39.heap.size W39 W40:=by rw[hW];exact(Below.refl _ _).alloc (zG _) _
    have hb0:BlkIs W40 g0 5 (magicB.map b8).toArray:=by rw[hW,hg0];exact BlkIs.new _ _ _
    have hgs:w1.heap.size<=g0:=by rw[hg0];exact HB.size
    replace i9:=ints_stable _ _ _ _ i9 hG
    replace in10:=(in10.below hG).more hG.size
    replace HB:=HB.trans (hG.mono HB.size)
    refine RegF.opV (w':=W40) (.slice (some ⟨g0,0,none⟩) 8 8) rfl rfl (by rw[hW,hg0];exact x_magic rfl (fun _=>rfl)) ⟨fun _=>hS _ HB,?_⟩
    clear hW hg0 hG
    simp only[zD,zB,Act.put,zA,zF,zE]
    refine RegF.two 1 10 (by kernel_rfl) ?_ ?_
    ·skip
     obtain⟨W41,hrun,hSz,hCl,hbl⟩:=x_convM (W:=W40) (g:=g0) (n:=8) (c:=8) hb0
     have in4:InB W41 W41.heap.size (some ⟨g0,0,none⟩) 8 magicB:=InB.cells (hb0.inB _ hb0.lt (by decide)) hSz hCl
     replace i9:=i9.cells hCl
     replace in10:=in10.cells hSz hCl
     replace HB:=HB.trans (hbl.toBelow HB.size (fun k e=>by rw[e];exact hgs))
     refine RegF.opV (w':=W41) (.slice (some ⟨g0,0,none⟩) 8 8) rfl rfl (hrun _ _ rfl rfl) ⟨fun _=>hS _ HB,?_⟩
     clear hrun hSz hCl hbl hb0 hgs
     simp only[zD,zC,zB,Act.put,zA,zF,zE]
     refine RegF.one 10 (by kernel_rfl) ?_
     refine RegF.opC 47 #[.tmp 12] #[94] rfl rfl rfl (enters_of Tryz.func47 (by kernel_rfl) rfl) #[.slice (some ⟨w.heap.size,3,none⟩) 16 16] (by simp only[zJ,zK,zL];rfl) ((hro _ HB).mono ?_)
     rintro e W42 ⟨v13,rfl,own13,hG⟩
     obtain⟨A13,c13,rfl,in13⟩:=own13.inB
     replace in4:=(in4.below hG).more hG.size
     replace i9:=ints_stable _ _ _ _ i9 hG
     replace in10:=(in10.below hG).more hG.size
     replace HB:=HB.trans (hG.mono HB.size)
     refine⟨_,rfl,fun _=>hS _ HB,?_⟩
     clear hG own13
     simp only[zD,zC,zB,Act.put,zA,zF,zE]
     obtain⟨W43,hW⟩:∃W,W=W42.alloc (.cells #[.slice (some ⟨g0,0,none⟩) 8 8,.slice A10 (numsB [fi,ma]).length c10,.slice A13 (numsB ro).length c13] 22):=⟨_,rfl⟩
     obtain⟨g14,hg14⟩:∃g,g=W42.heap.size:=⟨_,rfl⟩
     have hL:Lists [magicB,numsB [fi,ma],numsB ro] (.slice (some ⟨g14,0,none⟩) 3 3) W43:=by rw[hW,hg14];exact lists3_new in4 in10 in13
     replace HB:Below w1.heap.size w1 W43:=by rw[hW];exact HB.alloc HB.size _
     refine RegF.one 11 (by kernel_rfl) (RegF.opV (w':=W43) (.slice (some ⟨g14,0,none⟩) 3 3) rfl rfl (by rw[hW,hg14];exact x_lists3 rfl rfl rfl rfl) ⟨fun _=>hS _ HB,?_⟩)
     simp only[zD,zC,zB,Act.put,zA,zF,zE]
     refine RegF.one 12 (by kernel_rfl) ?_
     refine RegF.opC 44 #[.tmp 14] #[141] rfl rfl rfl (enters_of Tryz.func44 (by kernel_rfl) rfl) #[.slice (some ⟨g14,0,none⟩) 3 3] (by simp only[zJ,zK,zL];rfl) ((hpg _ _ hL).mono ?_)
     rintro e W44 ⟨v15,rfl,own15,hG⟩
     obtain⟨A15,c15,rfl,in15⟩:=own15.inB
     replace HB:=HB.trans (hG.mono HB.size)
     refine⟨_,rfl,fun _=>hS _ HB,?_⟩
     simp only[zD,zC,zB,Act.put,zA,zF,zE]
     refine RegF.one 13 (by kernel_rfl) (RegF.opV (w':=W44) (.slice A15 (headX fi ma ro).length c15) rfl rfl (by go_simp) ⟨fun _=>hS _ HB,RegF.done (by kernel_rfl) ?_⟩)
     simp only[zD,zC,zB,Act.put,zA,zF,zE]
     have HBF:=Lib.hid (hBw.trans (HB.mono hBw.size))
     have H15:=Lib.hid in15
     rw[hlen]
     clear hS hro hpg HB in4 i9 in10 in13 hL hW hg14 own15 hG in15 hBw hlen
     go_wp2
     go_ret
     exact⟨A15,c15,rfl,H15.out,HBF.out⟩
    ·skip
     refine RegF.opC 47 #[.tmp 12] #[94] rfl rfl rfl (enters_of Tryz.func47 (by kernel_rfl) rfl) #[.slice (some ⟨w.heap.size,3,none⟩) 16 16] (by simp only[zJ,zK,zL];rfl) ((hro _ HB).mono ?_)
     rintro e W45 ⟨v13,rfl,own13,hG⟩
     obtain⟨A13,c13,rfl,in13⟩:=own13.inB
     replace hb0:=hb0.below hG hb0.lt
     replace i9:=ints_stable _ _ _ _ i9 hG
     replace in10:=(in10.below hG).more hG.size
     replace HB:=HB.trans (hG.mono HB.size)
     refine⟨_,rfl,fun _=>hS _ HB,?_⟩
     clear hG own13
     simp only[zD,zC,zB,Act.put,zA,zF,zE]
     refine RegF.one 1 (by kernel_rfl) ?_
     obtain⟨W46,hrun,hSz,hCl,hbl⟩:=x_convM (W:=W45) (g:=g0) (n:=8) (c:=8) hb0
     have in4:InB W46 W46.heap.size (some ⟨g0,0,none⟩) 8 magicB:=InB.cells (hb0.inB _ hb0.lt (by decide)) hSz hCl
     replace i9:=i9.cells hCl
     replace in10:=in10.cells hSz hCl
     replace in13:=in13.cells hSz hCl
     replace HB:=HB.trans (hbl.toBelow HB.size (fun k e=>by rw[e];exact hgs))
     refine RegF.opV (w':=W46) (.slice (some ⟨g0,0,none⟩) 8 8) rfl rfl (hrun _ _ rfl rfl) ⟨fun _=>hS _ HB,?_⟩
     clear hrun hSz hCl hbl hb0 hgs
     simp only[zD,zC,zB,Act.put,zA,zF,zE]
     obtain⟨W47,hW⟩:∃W,W=W46.alloc (.cells #[.slice (some ⟨g0,0,none⟩) 8 8,.slice A10 (numsB [fi,ma]).length c10,.slice A13 (numsB ro).length c13] 22):=⟨_,rfl⟩
     obtain⟨g14,hg14⟩:∃g,g=W46.heap.size:=⟨_,rfl⟩
     have hL:Lists [magicB,numsB [fi,ma],numsB ro] (.slice (some ⟨g14,0,none⟩) 3 3) W47:=by rw[hW,hg14];exact lists3_new in4 in10 in13
     replace HB:Below w1.heap.size w1 W47:=by rw[hW];exact HB.alloc HB.size _
     refine RegF.one 11 (by kernel_rfl) (RegF.opV (w':=W47) (.slice (some ⟨g14,0,none⟩) 3 3) rfl rfl (by rw[hW,hg14];exact x_lists3 rfl rfl rfl rfl) ⟨fun _=>hS _ HB,?_⟩)
     simp only[zD,zC,zB,Act.put,zA,zF,zE]
     refine RegF.one 12 (by kernel_rfl) ?_
     refine RegF.opC 44 #[.tmp 14] #[141] rfl rfl rfl (enters_of Tryz.func44 (by kernel_rfl) rfl) #[.slice (some ⟨g14,0,none⟩) 3 3] (by simp only[zJ,zK,zL];rfl) ((hpg _ _ hL).mono ?_)
     rintro e W48 ⟨v15,rfl,own15,hG⟩
     obtain⟨A15,c15,rfl,in15⟩:=own15.inB
     replace HB:=HB.trans (hG.mono HB.size)
     refine⟨_,rfl,fun _=>hS _ HB,?_⟩
     simp only[zD,zC,zB,Act.put,zA,zF,zE]
     refine RegF.one 13 (by kernel_rfl) (RegF.opV (w':=W48) (.slice A15 (headX fi ma ro).length c15) rfl rfl (by go_simp) ⟨fun _=>hS _ HB,RegF.done (by kernel_rfl) ?_⟩)
     simp only[zD,zC,zB,Act.put,zA,zF,zE]
     have HBF:=Lib.hid (hBw.trans (HB.mono hBw.size))
     have H15:=Lib.hid in15
     rw[hlen]
     clear hS hro hpg HB in4 i9 in10 in13 hL hW hg14 own15 hG in15 hBw hlen
     go_wp2
     go_ret
     exact⟨A15,c15,rfl,H15.out,HBF.out⟩
   ·skip
    refine RegF.opC 47 #[.tmp 12] #[94] rfl rfl rfl (enters_of Tryz.func47 (by kernel_rfl) rfl) #[.slice (some ⟨w.heap.size,3,none⟩) 16 16] (by simp only[zJ,zK,zL];rfl) ((hro _ HB).mono ?_)
    rintro e W49 ⟨v13,rfl,own13,hG⟩
    obtain⟨A13,c13,rfl,in13⟩:=own13.inB
    replace i9:=ints_stable _ _ _ _ i9 hG
    replace in10:=(in10.below hG).more hG.size
    replace HB:=HB.trans (hG.mono HB.size)
    refine⟨_,rfl,fun _=>hS _ HB,?_⟩
    clear hG own13
    simp only[zD,zC,zB,Act.put,zA,zF,zE]
    refine RegF.one 0 (by kernel_rfl) ?_
    obtain⟨W50,hW⟩:∃W,W=W49.alloc (.cells (magicB.map b8).toArray 5):=⟨_,rfl⟩
    obtain⟨g0,hg0⟩:∃g,g=W49.heap.size:=⟨_,rfl⟩
    have hG:Below W49.heap.size W49 W50:=by rw[hW];exact(Below.refl _ _).alloc (zG _) _
    have hb0:BlkIs W50 g0 5 (magicB.map b8).toArray:=by rw[hW,hg0];exact BlkIs.new _ _ _
    have hgs:w1.heap.size<=g0:=by rw[hg0];exact HB.size
    replace i9:=ints_stable _ _ _ _ i9 hG
    replace in10:=(in10.below hG).more hG.size
    replace in13:=(in13.below hG).more hG.size
    replace HB:=HB.trans (hG.mono HB.size)
    refine RegF.opV (w':=W50) (.slice (some ⟨g0,0,none⟩) 8 8) rfl rfl (by rw[hW,hg0];exact x_magic rfl (fun _=>rfl)) ⟨fun _=>hS _ HB,?_⟩
    clear hW hg0 hG
    simp only[zD,zB,Act.put,zA,zF,zE]
    refine RegF.one 1 (by kernel_rfl) ?_
    obtain⟨W51,hrun,hSz,hCl,hbl⟩:=x_convM (W:=W50) (g:=g0) (n:=8) (c:=8) hb0
    have in4:InB W51 W51.heap.size (some ⟨g0,0,none⟩) 8 magicB:=InB.cells (hb0.inB _ hb0.lt (by decide)) hSz hCl
    replace i9:=i9.cells hCl
    replace in10:=in10.cells hSz hCl
    replace in13:=in13.cells hSz hCl
    replace HB:=HB.trans (hbl.toBelow HB.size (fun k e=>by rw[e];exact hgs))
    refine RegF.opV (w':=W51) (.slice (some ⟨g0,0,none⟩) 8 8) rfl rfl (hrun _ _ rfl rfl) ⟨fun _=>hS _ HB,?_⟩
    clear hrun hSz hCl hbl hb0 hgs
    simp only[zD,zC,zB,Act.put,zA,zF,zE]
    obtain⟨W52,hW⟩:∃W,W=W51.alloc (.cells #[.slice (some ⟨g0,0,none⟩) 8 8,.slice A10 (numsB [fi,ma]).length c10,.slice A13 (numsB ro).length c13] 22):=⟨_,rfl⟩
    obtain⟨g14,hg14⟩:∃g,g=W51.heap.size:=⟨_,rfl⟩
    have hL:Lists [magicB,numsB [fi,ma],numsB ro] (.slice (some ⟨g14,0,none⟩) 3 3) W52:=by rw[hW,hg14];exact lists3_new in4 in10 in13
    replace HB:Below w1.heap.size w1 W52:=by rw[hW];exact HB.alloc HB.size _
    refine RegF.one 11 (by kernel_rfl) (RegF.opV (w':=W52) (.slice (some ⟨g14,0,none⟩) 3 3) rfl rfl (by rw[hW,hg14];exact x_lists3 rfl rfl rfl rfl) ⟨fun _=>hS _ HB,?_⟩)
    simp only[zD,zC,zB,Act.put,zA,zF,zE]
    refine RegF.one 12 (by kernel_rfl) ?_
    refine RegF.opC 44 #[.tmp 14] #[141] rfl rfl rfl (enters_of Tryz.func44 (by kernel_rfl) rfl) #[.slice (some ⟨g14,0,none⟩) 3 3] (by simp only[zJ,zK,zL];rfl) ((hpg _ _ hL).mono ?_)
    rintro e W53 ⟨v15,rfl,own15,hG⟩
    obtain⟨A15,c15,rfl,in15⟩:=own15.inB
    replace HB:=HB.trans (hG.mono HB.size)
    refine⟨_,rfl,fun _=>hS _ HB,?_⟩
    simp only[zD,zC,zB,Act.put,zA,zF,zE]
    refine RegF.one 13 (by kernel_rfl) (RegF.opV (w':=W53) (.slice A15 (headX fi ma ro).length c15) rfl rfl (by go_simp) ⟨fun _=>hS _ HB,RegF.done (by kernel_rfl) ?_⟩)
    simp only[zD,zC,zB,Act.put,zA,zF,zE]
    have HBF:=Lib.hid (hBw.trans (HB.mono hBw.size))
    have H15:=Lib.hid in15
    rw[hlen]
    clear hS hro hpg HB in4 i9 in10 in13 hL hW hg14 own15 hG in15 hBw hlen
    go_wp2
    go_ret
    exact⟨A15,c15,rfl,H15.out,HBF.out⟩
theorem wp_storeBox {w:World}{ops:Array Oper}{rest:List Oper}{o:Oper}{a:Act}{Q:Exit->Act->World->Prop}(hgd:o.guard=none)(T:TypeId)(x y:Operand)(ho:o.op = .store T x y){t:TypeId}{cs cs':Array Value}(hx:a.eval x = .pointer (some ⟨w.heap.size,0,none⟩))(hy:a.eval y = .agg cs'){n:Nat}(hT:RowTy Tryz.prog T n)(hn:cs.size=n)(hs:cs'.size=cs.size)(h1:∀v∈cs'.toList,v.oneCell'=true)
  (h:∀w',Below w.heap.size w w'->BlkIs w' w.heap.size t cs'->wpList Tryz.prog ops Q rest (a.put o.dst undef) w'):wpList Tryz.prog ops Q (o::rest) a (w.alloc (.cells cs t)) :=
 wp_storeW hgd T x y ho w.heap.size hx hy hT (BlkIs.new w t cs) hn hs h1 (h _ (below_setRow ((Below.refl _ w).alloc (zG _) _) (zG _) _) ((BlkIs.new w t cs).setRow cs'))
theorem CaSt.Ok.zero:(⟨0,0,0,fun _=>none⟩:CaSt).Ok 0:=⟨⟨Int.le_refl _,Int.le_refl _⟩,⟨Int.le_refl _,Int.le_refl _⟩,⟨Int.le_refl _,Int.le_refl _⟩⟩
section
variable {P:Nat}{fr pg rm1 rm2:Int}{G1 G2:Nat->List UInt8}{S1 S2:LgS}{c1 c2 c1' c2':CaSt}{i j:Nat}
end
theorem pthere_gives (w:World)(P:Option Addr)(n least:Int):Calls Tryz.prog 53 #[.pointer P,.int .i64 n,.int .i64 least] w fun e w'=>∃f,e = .returned (.agg #[f,.int .i64 4])/\f.oneCell'=true/\Below w.heap.size w w'/\∀p size,P=some ⟨p,0,none⟩->w.cell? ⟨p,0,none⟩=some (.int .i64 size)->PAskIs w' ⟨f,4,decide (n<least∨size<=n)⟩:=by
 obtain⟨W0,hW0⟩:∃W0,W0=((w.alloc (.cells #[.pointer P] 34)).alloc (.cells #[.int .i64 n] 3)).alloc (.cells #[.int .i64 least] 3):=⟨_,rfl⟩
 have hB0:Below w.heap.size w W0:=by rw[hW0];exact(((Below.refl _ w).alloc (zG _) _).alloc (by simp) _).alloc (by simp;omega) _
 have s0:W0.heap.size=w.heap.size+1+1+1:=by rw[hW0];simp
 have b0:BlkIs W0 w.heap.size 34 #[.pointer P]:=by rw[hW0];exact((BlkIs.new w _ _).alloc _).alloc _
 have b1:BlkIs W0 (w.heap.size+1) 3 #[.int .i64 n]:=by
  have:=(BlkIs.new (w.alloc (.cells #[.pointer P] 34)) 3 #[.int .i64 n]).alloc (.cells #[.int .i64 least] 3)
  rw[World.size_alloc] at this
  rw[hW0]
  exact this
 have b2:BlkIs W0 (w.heap.size+1+1) 3 #[.int .i64 least]:=by
  have:=BlkIs.new ((w.alloc (.cells #[.pointer P] 34)).alloc (.cells #[.int .i64 n] 3)) 3 #[.int .i64 least]
  rw[World.size_alloc,World.size_alloc] at this
  rw[hW0]
  exact this
 obtain⟨f,hf⟩:∃f:Value,f = .func (.func 87) #[] #[.pointer (some ⟨w.heap.size+1,0,none⟩),.pointer (some ⟨w.heap.size+1+1,0,none⟩),.pointer (some ⟨w.heap.size,0,none⟩)]:=⟨_,rfl⟩
 have hf1:f.oneCell'=true:=by rw[hf];rfl
 have hA:∀W,Below W0.heap.size W0 W->∀p size,P=some ⟨p,0,none⟩->w.cell? ⟨p,0,none⟩=some (.int .i64 size)->PAskIs W ⟨f,4,decide (n<least∨size<=n)⟩:=fun W hW p size e hc=>by
  subst e
  rw[hf]
  exact PAskIs.later (PAskIs.three 4 (ansThere (p:=p) ((b1.cell 0).trans rfl) ((b2.cell 0).trans rfl) ((b0.cell 0).trans rfl) ((hB0.cell (p:=⟨p,0,none⟩) (cell_lt hc)).trans hc) b1.lt b2.lt b0.lt (zP (cell_lt hc) hB0.size))) hW
 have HA:=Lib.hid hA
 have HW0:Hid (((w.alloc (.cells #[.pointer P] 34)).alloc (.cells #[.int .i64 n] 3)).alloc (.cells #[.int .i64 least] 3)=W0):=Lib.hid hW0.symm
 have HF:=Lib.hid hf
 have S0:=Lib.hid s0
 clear hA b0 b1 b2 hW0 s0 hf
 go_enter Tryz.func53,Tryz.ntmps53
 go_wp2_with (rw[HW0.out];refine wp_storeBox rfl 92 (.tmp 6) (.tmp 8) (w:=W0) rfl (cs':=#[f,.int .i64 4]) (by rw[S0.out];rfl) (by rw[HF.out];rfl) rowPAsk rfl rfl (by simp[hf1];rfl) ?_;intro w4 hB4 b4)
 have hB04:Below w.heap.size w w4:=hB0.trans (hB4.mono hB0.size)
 rw[S0.out] at b4
 refine bodyPost_ret_by (results_cellW 6 rfl rfl rowPAsk b4 rfl) rfl ⟨f,rfl,hf1,hB04,HA.out _ hB4⟩
theorem pmarked_gives (w:World)(P:Option Addr)(n:Int):Calls Tryz.prog 49 #[.pointer P,.int .i64 n] w fun e w'=>∃f,e = .returned (.agg #[f,.int .i64 2])/\f.oneCell'=true/\Below w.heap.size w w'/\∀p A len c,P=some ⟨p,0,none⟩->w.cell? ⟨p,40,none⟩=some (.slice A len c)->PAskIs w' ⟨f,2,decide (n<0∨(len:Int)<=n)⟩:=by
 obtain⟨W0,hW0⟩:∃W0,W0=(w.alloc (.cells #[.pointer P] 34)).alloc (.cells #[.int .i64 n] 3):=⟨_,rfl⟩
 have hB0:Below w.heap.size w W0:=by rw[hW0];exact((Below.refl _ w).alloc (zG _) _).alloc (by simp) _
 have s0:W0.heap.size=w.heap.size+1+1:=by rw[hW0];simp
 have b0:BlkIs W0 w.heap.size 34 #[.pointer P]:=by rw[hW0];exact(BlkIs.new w _ _).alloc _
 have b1:BlkIs W0 (w.heap.size+1) 3 #[.int .i64 n]:=by
  have:=BlkIs.new (w.alloc (.cells #[.pointer P] 34)) 3 #[.int .i64 n]
  rw[World.size_alloc] at this
  rw[hW0]
  exact this
 obtain⟨f,hf⟩:∃f:Value,f = .func (.func 82) #[] #[.pointer (some ⟨w.heap.size+1,0,none⟩),.pointer (some ⟨w.heap.size,0,none⟩)]:=⟨_,rfl⟩
 have hf1:f.oneCell'=true:=by rw[hf];rfl
 have hA:∀W,Below W0.heap.size W0 W->∀p A len c,P=some ⟨p,0,none⟩->w.cell? ⟨p,40,none⟩=some (.slice A len c)->PAskIs W ⟨f,2,decide (n<0∨(len:Int)<=n)⟩:=fun W hW p A len c e hc=>by
  subst e
  rw[hf]
  exact PAskIs.later (PAskIs.two 2 (ansMarked (p:=p) ((b1.cell 0).trans rfl) ((b0.cell 0).trans rfl) ((hB0.cell (p:=⟨p,40,none⟩) (cell_lt hc)).trans hc) b1.lt b0.lt (zP (cell_lt hc) hB0.size))) hW
 have HA:=Lib.hid hA
 have HW0:Hid ((w.alloc (.cells #[.pointer P] 34)).alloc (.cells #[.int .i64 n] 3)=W0):=Lib.hid hW0.symm
 have HF:=Lib.hid hf
 have S0:=Lib.hid s0
 clear hA b0 b1 hW0 s0 hf
 go_enter Tryz.func49,Tryz.ntmps49
 go_wp2_with (rw[HW0.out];refine wp_storeBox rfl 92 (.tmp 4) (.tmp 6) (w:=W0) rfl (cs':=#[f,.int .i64 2]) (by rw[S0.out];rfl) (by rw[HF.out];rfl) rowPAsk rfl rfl (by simp[hf1];rfl) ?_;intro w4 hB4 b4)
 have hB04:Below w.heap.size w w4:=hB0.trans (hB4.mono hB0.size)
 rw[S0.out] at b4
 refine bodyPost_ret_by (results_cellW 4 rfl rfl rowPAsk b4 rfl) rfl ⟨f,rfl,hf1,hB04,HA.out _ hB4⟩
section
variable {W0 W:World}{K:PgK}{p:Nat}{v:PgV}{st last:PgSt}{under:Bool}{mk:Value}
theorem PaIs.asked (h:PaIs W0 K p v st last under mk W)(u:Bool)(A:Option Addr)(c:Nat)(xs:List PAsk)(hin:InG W W.heap.size 2 A xs.length c (pasksC xs))(hl:xs.length<=900)(ha:∀x∈xs,PAskIs W x) :
  Calls Tryz.prog 41 #[.pointer (some ⟨p,0,none⟩),.bool u,.slice A xs.length c] W fun e w'=>e = .returned (.int .i64 (if under != u then 191 else askE xs))/\Below W.heap.size W w' :=
 (pasked_gives W (some ⟨p,0,none⟩) false under u (ansNone h.chc h.pb.lt) (fun _=>⟨p,rfl,h.und,h.pb.lt⟩) A c xs hin hl (fun _=>ha)).mono fun e w' h=>⟨by rw[h.1];rfl,h.2⟩
theorem inG_none (W:World)(n sz:Nat):InG W n sz none 0 0 []:=⟨zG _,by decide,fun _=>rfl,by simp,fun v hv=>absurd hv (by simp),fun h=>absurd h (by simp)⟩
theorem PaIs.asked0 (h:PaIs W0 K p v st last under mk W)(u:Bool) :
  Calls Tryz.prog 41 #[.pointer (some ⟨p,0,none⟩),.bool u,.slice none 0 0] W fun e w'=>e = .returned (.int .i64 (if under != u then 191 else 0))/\Below W.heap.size W w' :=
 h.asked u none 0 [] (inG_none _ _ _) (by simp) (fun x hx=>absurd hx (by simp))
theorem pbegin_gives (h:PaIs W0 K p v st last false mk W):Calls Tryz.prog 11 #[.pointer (some ⟨p,0,none⟩)] W fun e w'=>e = .returned (.int .i64 0)/\PaIs W0 K p v st last true mk w'/\GrowBut (fun k=>k=p) W w':=by
 have HA:=h.asked0 false
 go_enter Tryz.func11,Tryz.ntmps11
 go_wp2_with (go_at_call 41;refine HA.mono ?_;rintro e w1 ⟨rfl,hB1⟩;have h1:=h.grow hB1;have c39:=h1.und;have f39:=h1.pb.free 39)
 go_ret
 obtain⟨h2,hG2⟩:=h1.setUnder (under':=true)
 exact⟨rfl,h2,(GrowBut.below hB1).trans hG2⟩
theorem pover_gives (h:PaIs W0 K p v st last under mk W):Calls Tryz.prog 52 #[.pointer (some ⟨p,0,none⟩)] W fun e w'=>(∃x,e = .returned x)/\PaIs W0 K p v st last false (.slice none 0 0) w'/\GrowBut (fun k=>k=p) W w':=by
 have c39:=h.und
 obtain⟨h1,hG1⟩:=h.setUnder (under':=false)
 have c40:=h1.mks
 have f39:=h.pb.free 39
 have f40:=h1.pb.free 40
 obtain⟨h2,hG2⟩:=h1.setMarks (mk':=.slice none 0 0)
 go_enter Tryz.func52,Tryz.ntmps52
 go_wp2
 go_end0
 exact⟨⟨_,rfl⟩,h2,hG1.trans hG2⟩
theorem psize_gives (h:PaIs W0 K p v st last under mk W):Calls Tryz.prog 20 #[.pointer (some ⟨p,0,none⟩)] W fun e w'=>e = .returned (.int .i64 st.size)/\W=w':=by
 have HN:=pnone_gives h.chc
 have c0:=h.szc
 go_enter Tryz.func20,Tryz.ntmps20
 go_wp2_with (go_at_call 46;refine HN.mono ?_;rintro e w1 ⟨rfl,rfl⟩)
 go_ret
 exact⟨rfl,rfl⟩
theorem pspare_gives (h:PaIs W0 K p v st last under mk W):Calls Tryz.prog 21 #[.pointer (some ⟨p,0,none⟩)] W fun e w'=>e = .returned (.int .i64 st.many)/\W=w':=by
 have HN:=pnone_gives h.chc
 have c2:=h.mac
 go_enter Tryz.func21,Tryz.ntmps21
 go_wp2_with (go_at_call 46;refine HN.mono ?_;rintro e w1 ⟨rfl,rfl⟩)
 go_ret
 exact⟨rfl,rfl⟩
end
end Go.Proofs.YtnlimngkagmjpaaGreat
