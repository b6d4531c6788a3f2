/- Texts that the proof of PagerHolds leans on, part 15. -/
import Derived.Test.YtnlimngkagmjpaaGreatPagerHoldsB14
open List renaming getElem_toArray → zD, getElem_cons_zero → zB, setIfInBounds_toArray → zA, set_cons_zero → zF, set_cons_succ → zE, getElem_cons_succ → zC, map_toArray → zJ, map_cons → zK, map_nil → zL, length_map → qB, getElem_mem → qH, getElem?_eq_getElem → zI, replicate → zN, cons_append → qA, nil_append → zV, mem_cons → qM, getElem?_eq_some_iff → zT, mem_append → qF, getElem?_append_right → zZ
open Nat renaming le_refl → zG, le_trans → zO
set_option linter.unusedVariables false
set_option maxRecDepth 100000
set_option maxHeartbeats 8000000

namespace Go.Proofs.YtnlimngkagmjpaaGreat
open Go Go.RowKit Lou
structure PcF (K:PgK)(v v':PgV)(st last:PgSt)(x:Int):Prop where
 nn:v'.N<=v.N+3
 ii:v'.i<=v.i+2
 dd:(x=0/\v'.S.sz=st.size/\(∀q:Nat,1<=q->q<K.P->v'.Y K q=v.view K q)/\v'.D=fun _=>none)∨(x≠0/\v'.S.sz=v.S.sz/\(∀q:Nat,q<K.P->v'.Y K q=v.Y K q)/\∀q:Int,q≠0->v'.D q=v.D q)
 why:st≠last->x=160∨∃v1:PgV,v1.S.sz=v.S.sz/\(v1.D=v.D∨v1.D=fun j=>if j=0 then some (headPB st) else v.D j)/\(v.view K 0=headPB st->v1.D=v.D)/\(v.view K 0≠headPB st->v1.D=fun j=>if j=0 then some (headPB st) else v.D j)/\v1.Y K=v.Y K/\ComWhy K v1 st.size x
def PcOut (W0:World)(K:PgK)(p:Nat)(v:PgV)(st last:PgSt)(mk:Value)(W:World)(e:Ending)(w':World):Prop:=∃x v' last' under' mk',e = .returned (.int .i64 x)/\PaIs W0 K p v' st last' under' mk' w'/\PcF K v v' st last x/\((x=0/\last'=st/\under'=false/\mk' = .slice none 0 0)∨(x≠0/\last'=last/\under'=true/\mk'=mk))/\Names K W v v'/\GrowBut (pgMu K p v) W w'
theorem PcOut.mk {W0:World}{K:PgK}{p:Nat}{v:PgV}{st last:PgSt}{mk:Value}{W:World}{e:Ending}{w':World}(h:∃x v' last' under' mk',e = .returned (.int .i64 x)/\PaIs W0 K p v' st last' under' mk' w'/\PcF K v v' st last x/\((x=0/\last'=st/\under'=false/\mk' = .slice none 0 0)∨(x≠0/\last'=last/\under'=true/\mk'=mk))/\Names K W v v'/\GrowBut (pgMu K p v) W w'):PcOut W0 K p v st last mk W e w':=h
theorem view_same {K:PgK}{v v1:PgV}(hy:v1.Y K=v.Y K)(hd:∀q:Int,q≠0->v1.D q=v.D q){q:Nat}(hq:1<=q):v1.view K q=v.view K q:=by
 rw[PgV.view_eq,PgV.view_eq,hy,hd (q:Int) (by omega)]
theorem wp_cutA {P:Program}{C:Code}{Q:Exit->Act->World->Prop}{a:Act}{w:World}(S:Act->Act->World->Prop)(h1:C.wp P (postS (S a)) a w)(h2:∀b w',S a b w'->Q .normal b w'):C.wp P Q a w:=wp_cutS (S a) h1 h2
-- THE WALK
section
variable {W0 W:World}{K:PgK}{p:Nat}{v:PgV}{st last:PgSt}{mk:Value}
theorem PaIs.turn' {v':PgV}{under:Bool}{W':World}(h:PaIs W0 K p v st last under mk W)(hG:GrowBut (K.mu v) W W')(hC:CaAt W0 K v' W'):PaIs W0 K p v' st last under mk W':=h.turn hG hC
theorem pcommit_gives (h:PaIs W0 K p v st last true mk W)(hK:K.Ok)(hN:v.N<=700000)(hi:v.i<=800)(hP0:0<K.P) :
  Calls Tryz.prog 17 #[.pointer (some ⟨p,0,none⟩)] W (PcOut W0 K p v st last mk W):=by
 have HA:=h.asked0 true
 have hsl:=psC_length h.hs
 have hll:=psC_length h.hl
 have hhl:=headPB_length h.hs
 go_enter Tryz.func17,Tryz.ntmps17
 go_wp2_with (go_at_call 41;refine HA.mono ?_;rintro e w1 ⟨rfl,hB1⟩)
 obtain⟨w1d,hw1d⟩:∃x,x=w1.drew:=⟨_,rfl⟩
 have hB1d:Below W.heap.size W w1d:=by rw[hw1d];exact hB1.trans ((Below.refl _ _).drew.mono hB1.size)
 have h1:=h.grow hB1d
 have HD:=callsIn_wide.1 (pdirty_in 10 (zG _) h1 hK)
 refine wp_cutA (fun a b W'=>∃(x11 x12 x13 x14 x15 x16 x17 x18 x19 x20 x21 x22 x23 x24:Value) (bb:Bool),b=((((((((((((((a.put (some 11) x11).put (some 12) x12).put (some 13) x13).put (some 14) x14).put (some 15) x15).put (some 16) x16).put (some 17) x17).put (some 18) x18).put (some 19) x19).put (some 20) x20).put (some 21) x21).put (some 22) x22).put (some 23) x23).put (some 24) x24).put (some 25) (.bool bb)/\Below W.heap.size W W'/\(bb=false->st=last)) ?_ ?_
 ·have hS0:w1d.rangeAt p 0 (psC st)/\w1d.rangeAt p 20 (psC last):=⟨h1.stRange,h1.lastRange⟩
  refine RegF.start (fun W':World=>W'.rangeAt p 0 (psC st)/\W'.rangeAt p 20 (psC last)) 99 (by kernel_rfl) ?_
  rw[<-hw1d]
  refine RegF.t0 0 (.pointer (some ⟨p,0,none⟩)) rfl hS0 (fun W ⟨e0,e1⟩=>by go_simp) ?_
  simp only[zD,zB,Act.put,zA,zF,zE]
  refine RegF.t0 1 (.pointer (some ⟨p,0,none⟩)) rfl hS0 (fun W ⟨e0,e1⟩=>by go_simp) ?_
  simp only[zD,zC,zB,Act.put,zA,zF,zE]
  refine RegF.t0 2 (.pointer (some ⟨p,0,none⟩)) rfl hS0 (fun W ⟨e0,e1⟩=>by go_simp) ?_
  simp only[zD,zC,zB,Act.put,zA,zF,zE]
  refine RegF.t0 3 (.agg (psC st).toArray) rfl hS0 (fun W ⟨e0,e1⟩=>by exact x_loadM rowPgSt e0 hsl rfl rfl) ?_
  simp only[zD,zC,zB,Act.put,zA,zF,zE]
  refine RegF.t0 4 (.pointer (some ⟨p,0,none⟩)) rfl hS0 (fun W ⟨e0,e1⟩=>by go_simp) ?_
  simp only[zD,zC,zB,Act.put,zA,zF,zE]
  refine RegF.t0 5 (.pointer (some ⟨p,0,none⟩)) rfl hS0 (fun W ⟨e0,e1⟩=>by go_simp) ?_
  simp only[zD,zC,zB,Act.put,zA,zF,zE]
  refine RegF.t0 6 (.pointer (some ⟨p,20,none⟩)) rfl hS0 (fun W ⟨e0,e1⟩=>by go_simp) ?_
  simp only[zD,zC,zB,Act.put,zA,zF,zE]
  refine RegF.t0 7 (.agg (psC last).toArray) rfl hS0 (fun W ⟨e0,e1⟩=>by exact x_loadM rowPgSt e1 hll rfl rfl) ?_
  simp only[zD,zC,zB,Act.put,zA,zF,zE]
  by_cases hne:st=last
  ·skip
   refine RegF.t0 8 (.bool false) rfl hS0 (fun W ⟨e0,e1⟩=>by exact x_neSt h.hs h.hl rfl rfl rfl (iff_of_false (by simp) (fun hn=>hn hne))) ?_
   simp only[zD,zC,zB,Act.put,zA,zF,zE]
   refine RegF.t0 9 (.bool false) rfl hS0 (fun W ⟨e0,e1⟩=>by go_simp) ?_
   simp only[zD,zC,zB,Act.put,zA,zF,zE]
   refine RegF.take0 10 (.pointer (some ⟨p,0,none⟩)) rfl (by kernel_rfl) (by kernel_rfl) (by kernel_rfl) rfl (fun _ _ _ h=>h) hS0 (RegF.yldG (by rfl) (fun W hW=>by obtain⟨e0,e1⟩:=hW;go_simp)) ?_
   simp only[zD,zC,zB,Act.put,zA,zF,zE]
   refine RegF.one 11 (by kernel_rfl) ?_
   refine RegF.opCg 48 #[.tmp 21] #[34] rfl (by rfl) rfl (enters_of Tryz.func48 (by kernel_rfl) rfl) #[.pointer (some ⟨p,0,none⟩)] (by simp only[zJ,zK,zL];rfl) (HD.mono ?_)
   rintro e w2 ⟨M,rfl,hPM,hMn,hB2⟩
   obtain⟨es,co,fm,hmi,_⟩:=hPM.has
   have h2:=h1.grow hB2
   have hS2:w2.rangeAt p 0 (psC st)/\w2.rangeAt p 20 (psC last):=⟨h2.stRange,h2.lastRange⟩
   refine⟨_,rfl,fun _=>hS2,?_⟩
   simp only[zD,zC,zB,Act.put,zA,zF,zE]
   refine RegF.one 12 (by kernel_rfl) (RegF.opVg (w':=w2) (.int .i64 (es.size:Int)) rfl (by rfl) (x_lenT Tryz.underlying87 hmi rfl rfl) ⟨fun _=>hS2,?_⟩)
   simp only[zD,zC,zB,Act.put,zA,zF,zE]
   obtain⟨bb,hb⟩:∃b,b=decide ((0:Int)<(es.size:Int)):=⟨_,rfl⟩
   refine RegF.one 13 (by kernel_rfl) (RegF.opVg (w':=w2) (.bool bb) rfl (by rfl) (by rw[hb];go_simp) ⟨fun _=>hS2,?_⟩)
   simp only[zD,zC,zB,Act.put,zA,zF,zE]
   refine RegF.one 14 (by kernel_rfl) (RegF.opV (w':=w2) (.bool bb) rfl rfl (by go_simp) ⟨fun _=>hS2,RegF.done (by kernel_rfl) ?_⟩)
   simp only[zD,zC,zB,Act.put,zA,zF,zE]
   exact⟨_,_,_,_,_,_,_,_,_,_,_,_,_,_,bb,by first|(simp only[Act.put];done)|rfl,hB1d.trans (hB2.mono hB1d.size),fun _=>hne⟩
  ·skip
   refine RegF.t0 8 (.bool true) rfl hS0 (fun W ⟨e0,e1⟩=>by exact x_neSt h.hs h.hl rfl rfl rfl (iff_of_true rfl hne)) ?_
   simp only[zD,zC,zB,Act.put,zA,zF,zE]
   refine RegF.t0 9 (.bool true) rfl hS0 (fun W ⟨e0,e1⟩=>by go_simp) ?_
   simp only[zD,zC,zB,Act.put,zA,zF,zE]
   refine RegF.take0 10 undef rfl (by kernel_rfl) (by kernel_rfl) (by kernel_rfl) rfl (fun _ _ _ h=>h) hS0 (.inr ⟨by rfl,rfl⟩) ?_
   simp only[zD,zC,zB,Act.put,zA,zF,zE]
   refine RegF.take0 11 undef rfl (by kernel_rfl) (by kernel_rfl) (by kernel_rfl) rfl (fun _ _ _ h=>h) hS0 (.inr ⟨by rfl,rfl⟩) ?_
   simp only[zD,zC,zB,Act.put,zA,zF,zE]
   refine RegF.take0 12 undef rfl (by kernel_rfl) (by kernel_rfl) (by kernel_rfl) rfl (fun _ _ _ h=>h) hS0 (.inr ⟨by rfl,rfl⟩) ?_
   simp only[zD,zC,zB,Act.put,zA,zF,zE]
   refine RegF.take0 13 undef rfl (by kernel_rfl) (by kernel_rfl) (by kernel_rfl) rfl (fun _ _ _ h=>h) hS0 (.inr ⟨by rfl,rfl⟩) ?_
   simp only[zD,zC,zB,Act.put,zA,zF,zE]
   refine RegF.one 14 (by kernel_rfl) (RegF.opV (w':=w1d) (.bool true) rfl rfl (by go_simp) ⟨fun _=>hS0,RegF.done (by kernel_rfl) ?_⟩)
   simp only[zD,zC,zB,Act.put,zA,zF,zE]
   exact⟨_,_,_,_,_,_,_,_,_,_,_,_,_,_,true,by first|(simp only[Act.put];done)|rfl,hB1d,(fun e=>by cases e)⟩
 clear HA hw1d hB1 HD h1 hB1d
 rintro b W1 ⟨x11,x12,x13,x14,x15,x16,x17,x18,x19,x20,x21,x22,x23,x24,bb,rfl,hB1d,hbb⟩
 simp only[Act.put,zA,zF,zE]
 have h1:=h.grow hB1d
 have HBB:=Lib.hid hbb
 clear hbb
 rcases bb with _|_
 ·have hG1:GrowBut (pgMu K p v) W W1:=GrowBut.below hB1d
  have hNv:Names K W v v:=fun k hk => .inl hk
  clear hB1d
  go_wp2_with fail
  have hd:=h1.grow (Below.refl _ _).drew
  have hS0:W1.drew.cell? ⟨p,19,none⟩=some (.pointer (some ⟨K.a,0,none⟩))/\W1.drew.cell? ⟨p,0,none⟩=some (.int .i64 st.size):=⟨hd.chc,hd.szc⟩
  refine RegF.start (fun W':World=>W'.cell? ⟨p,19,none⟩=some (.pointer (some ⟨K.a,0,none⟩))/\W'.cell? ⟨p,0,none⟩=some (.int .i64 st.size)) 99 (by kernel_rfl) ?_
  refine RegF.t0 0 (.pointer (some ⟨p,0,none⟩)) rfl hS0 (fun W ⟨e0,e1⟩=>by go_simp) ?_
  simp only[zD,zB,Act.put,zA,zF,zE]
  refine RegF.t0 1 (.pointer (some ⟨p,0,none⟩)) rfl hS0 (fun W ⟨e0,e1⟩=>by go_simp) ?_
  simp only[zD,zC,zB,Act.put,zA,zF,zE]
  refine RegF.t0 2 (.pointer (some ⟨p,19,none⟩)) rfl hS0 (fun W ⟨e0,e1⟩=>by go_simp) ?_
  simp only[zD,zC,zB,Act.put,zA,zF,zE]
  refine RegF.t0 3 (.pointer (some ⟨K.a,0,none⟩)) rfl hS0 (fun W ⟨e0,e1⟩=>by go_simp) ?_
  simp only[zD,zC,zB,Act.put,zA,zF,zE]
  refine RegF.t0 4 (.pointer (some ⟨p,0,none⟩)) rfl hS0 (fun W ⟨e0,e1⟩=>by go_simp) ?_
  simp only[zD,zC,zB,Act.put,zA,zF,zE]
  refine RegF.t0 5 (.pointer (some ⟨p,0,none⟩)) rfl hS0 (fun W ⟨e0,e1⟩=>by go_simp) ?_
  simp only[zD,zC,zB,Act.put,zA,zF,zE]
  refine RegF.t0 6 (.pointer (some ⟨p,0,none⟩)) rfl hS0 (fun W ⟨e0,e1⟩=>by go_simp) ?_
  simp only[zD,zC,zB,Act.put,zA,zF,zE]
  refine RegF.t0 7 (.pointer (some ⟨p,0,none⟩)) rfl hS0 (fun W ⟨e0,e1⟩=>by go_simp) ?_
  simp only[zD,zC,zB,Act.put,zA,zF,zE]
  refine RegF.t0 8 (.int .i64 st.size) rfl hS0 (fun W ⟨e0,e1⟩=>by go_simp) ?_
  simp only[zD,zC,zB,Act.put,zA,zF,zE]
  refine RegF.one 9 (by kernel_rfl) ?_
  refine RegF.opC 36 #[.tmp 62,.tmp 67] #[52,3] rfl rfl rfl (enters_of Tryz.func36 (by kernel_rfl) rfl) #[.pointer (some ⟨K.a,0,none⟩),.int .i64 st.size] (by simp only[zJ,zK,zL];rfl) ((gcommit hd.ca hK (by omega) (by omega) st.size).mono ?_)
  rintro e w8 ⟨x,v8,rfl,hC8,e1,e2,hq,hwhy,hn8,hG8⟩
  have h8:=hd.turn' hG8 hC8
  have hS8:w8.cell? ⟨p,19,none⟩=some (.pointer (some ⟨K.a,0,none⟩))/\w8.cell? ⟨p,0,none⟩=some (.int .i64 st.size):=⟨h8.chc,h8.szc⟩
  refine⟨_,rfl,fun _=>hS8,?_⟩
  simp only[zD,zC,zB,Act.put,zA,zF,zE]
  refine RegF.one 10 (by kernel_rfl) (RegF.opV (w':=w8) (.int .i64 x) rfl rfl (by go_simp) ⟨fun _=>hS8,RegF.done (by kernel_rfl) ?_⟩)
  simp only[zD,zC,zB,Act.put,zA,zF,zE]
  have hws:=hG1.size
  have hGB:GrowBut (K.mu v) W1 w8:=(GrowBut.below ((Below.refl _ _).drew)).trans hG8
  have hG8':GrowBut (pgMu K p v) W w8:=((hG1.more (Nu:=fun k=>pgMu K p v k∨K.mu v k) (fun _ hk _ => .inl hk)).trans (hGB.more fun _ hk _ => .inr hk)).more (fun k hk hl=>hk.elim id (fun hm=>(hNv k hm).elim .inr (fun he=>by omega)))
  have hN8:Names K W v v8:=fun k hk=>((hn8.mono hws) k hk).elim (fun hm=>hNv k hm) .inr
  have hF:PcF K v v8 st last x:=⟨by omega,by omega,by
   rcases hq with⟨q1,q2,q3,q4⟩|⟨q1,q2,q3,q4⟩
   ·exact .inl ⟨q1,q2,fun q h1 h2=>(q3 q h2).trans (view_same (v:=v) (v1:=v) rfl (fun _ _=>rfl) h1),q4⟩
   ·exact .inr ⟨q1,q2,fun q h1=>(q3 q h1).trans rfl,fun q hq=>(congrFun q4 q).trans rfl⟩,fun hne=>absurd (HBB.out (by first|rfl|trivial)) hne⟩
  have HF:=Lib.hid hF
  clear hF hq hwhy hS0 hS8 hd hG8 hGB hn8
  by_cases hx:x=0
  ·subst hx
   have hR8:=h8.stRange
   have hT8:w8.there p 20 (psC st).toArray.size:=blk_there h8.pb (by rw[pgC_size' h8.hs h8.hl];simp[hsl])
   obtain⟨h9,hG9⟩:=h8.setLast h8.hs
   go_wp2_with (first
    | (refine wp_exec rfl (x_loadM rowPgSt hR8 hsl rfl rfl) ?_)
    | (refine wpList_store_mid rfl 51 _ _ rfl p 20 (psC st).toArray rfl rfl hT8 (by simpa[hsl] using rowPgSt.size) (all_oneCell_toArray (psC_one _)) ?_)
    | (go_at_call 52;refine(pover_gives h9).mono ?_;rintro e w9 ⟨⟨z,rfl⟩,h10,hG10⟩))
   go_ret
   exact PcOut.mk ⟨0,v8,st,false,_,rfl,h10,HF.out,.inl ⟨rfl,rfl,rfl,rfl⟩,hN8,hG8'.trans ((growP hG9).trans (growP hG10))⟩
  ·go_wp2
   go_ret
   exact PcOut.mk ⟨x,v8,last,true,mk,rfl,h8,HF.out,.inr ⟨hx,rfl,rfl,rfl⟩,hN8,hG8'⟩
 ·have c19:=h1.chc
  go_wp2_with fail
  refine(gread h1.ca hK (by omega) 0).mono ?_
  rintro e w4 ⟨x4,v4,hE4,hC4,r1,r2,r3,r4,r5,r6,r7,hn4,hG4⟩
  have h4:=h1.turn hG4 hC4
  have hG04:GrowBut (pgMu K p v) W w4:=(GrowBut.below hB1d).trans (growMu hG4)
  have hN4:Names K W v v4:=hn4.mono hB1d.size
  have hT4:=h1.ca.tight
  have hvl:=h1.ca.viewLen 0
  clear h1 hB1d hG4 hn4 hC4 c19
  rcases x4 with er|y
  ·have he:=r7 er rfl
   obtain rfl:e = .returned (.tuple #[.slice none 0 0,.int .i64 er]):=hE4
   have h160:er=160:=by
    rcases he with h1|h1
    ·omega
    ·exact h1.1
   subst h160
   have hF:PcF K v v4 st last 160:=⟨by omega,by omega,.inr ⟨by decide,r4,fun q _=>by rw[r3],fun q _=>by rw[r5]⟩,fun _ => .inl rfl⟩
   have HF:=Lib.hid hF
   clear hF r6 r7 he hT4
   go_wp2
   go_ret
   exact PcOut.mk ⟨160,v4,last,true,mk,rfl,h4,HF.out,.inr ⟨by decide,rfl,rfl,rfl⟩,hN4,hG04⟩
  obtain⟨A4,c4,rfl,hin4,_⟩:=hE4
  obtain⟨_,hyv⟩:=r6 y rfl
  have hyv:y=v.view K 0:=hyv
  have hyl:y.length=512:=by rw[hyv];exact hvl
  rw[hyl]
  have hR4:=h4.stRange
  obtain⟨hb,hhb⟩:∃hb,hb=headPB st:=⟨_,rfl⟩
  have HH:=fun W=>phead_gives W st h.hs
  rw[<-hhb] at HH hhl
  have HEQ:∀W A c A' c',InB W W.heap.size A c y->InB W W.heap.size A' c' hb->Calls Tryz.prog 40 #[.slice A 512 c,.slice A' 512 c'] W fun e w'=>e = .returned (.bool (decide (y=hb)))/\Below W.heap.size W w':=fun W A c A' c' i1 i2=>by
   have:=eqB_gives W A A' c c' y hb i1 i2
   rw[hyl,hhl] at this
   exact this
  have HYV:=Lib.hid hyv
  have HHB:=Lib.hid hhb
  clear r6 r7 hT4 hvl hyv hhb
  by_cases heq:y=hb
  ·have hdd:decide (y=hb)=true:=decide_eq_true heq
   rw[hdd] at HEQ
   go_wp2_with (first
    | (refine wp_execG (by first|rfl|simp[Region.wanted,yielded]) (x_loadM rowPgSt hR4 hsl rfl rfl) ?_)
    | (go_at_call 35;refine(HH _).mono ?_;rintro e w5 ⟨A5,c5,rfl,hin5,hB5⟩;have in45:=(hin4.below hB5).more hB5.size)
    | (revert in45;intro in45;go_at_call 40;refine(HEQ _ _ _ _ _ in45 hin5).mono ?_;rintro e w6 ⟨rfl,hB6⟩))
   have hB46:Below w4.heap.size w4 w6:=hB5.trans (hB6.mono hB5.size)
   have h6:=h4.grow hB46
   have hG6:GrowBut (pgMu K p v) W w6:=hG04.trans (GrowBut.below hB46)
   have hVD:∀q:Int,q≠0->v4.D q=v.D q:=fun q _=>by rw[r5]
   have hVY:=r3
   have hVs:=r4
   clear HEQ HH hin4 hR4 hB5 hB6 hB46 hin5 in45 h4 hG04
   go_wp2_with fail
   have hd:=h6.grow (Below.refl _ _).drew
   have hS0:w6.drew.cell? ⟨p,19,none⟩=some (.pointer (some ⟨K.a,0,none⟩))/\w6.drew.cell? ⟨p,0,none⟩=some (.int .i64 st.size):=⟨hd.chc,hd.szc⟩
   refine RegF.start (fun W':World=>W'.cell? ⟨p,19,none⟩=some (.pointer (some ⟨K.a,0,none⟩))/\W'.cell? ⟨p,0,none⟩=some (.int .i64 st.size)) 99 (by kernel_rfl) ?_
   refine RegF.t0 0 (.pointer (some ⟨p,0,none⟩)) rfl hS0 (fun W ⟨e0,e1⟩=>by go_simp) ?_
   simp only[zD,zB,Act.put,zA,zF,zE]
   refine RegF.t0 1 (.pointer (some ⟨p,0,none⟩)) rfl hS0 (fun W ⟨e0,e1⟩=>by go_simp) ?_
   simp only[zD,zC,zB,Act.put,zA,zF,zE]
   refine RegF.t0 2 (.pointer (some ⟨p,19,none⟩)) rfl hS0 (fun W ⟨e0,e1⟩=>by go_simp) ?_
   simp only[zD,zC,zB,Act.put,zA,zF,zE]
   refine RegF.t0 3 (.pointer (some ⟨K.a,0,none⟩)) rfl hS0 (fun W ⟨e0,e1⟩=>by go_simp) ?_
   simp only[zD,zC,zB,Act.put,zA,zF,zE]
   refine RegF.t0 4 (.pointer (some ⟨p,0,none⟩)) rfl hS0 (fun W ⟨e0,e1⟩=>by go_simp) ?_
   simp only[zD,zC,zB,Act.put,zA,zF,zE]
   refine RegF.t0 5 (.pointer (some ⟨p,0,none⟩)) rfl hS0 (fun W ⟨e0,e1⟩=>by go_simp) ?_
   simp only[zD,zC,zB,Act.put,zA,zF,zE]
   refine RegF.t0 6 (.pointer (some ⟨p,0,none⟩)) rfl hS0 (fun W ⟨e0,e1⟩=>by go_simp) ?_
   simp only[zD,zC,zB,Act.put,zA,zF,zE]
   refine RegF.t0 7 (.pointer (some ⟨p,0,none⟩)) rfl hS0 (fun W ⟨e0,e1⟩=>by go_simp) ?_
   simp only[zD,zC,zB,Act.put,zA,zF,zE]
   refine RegF.t0 8 (.int .i64 st.size) rfl hS0 (fun W ⟨e0,e1⟩=>by go_simp) ?_
   simp only[zD,zC,zB,Act.put,zA,zF,zE]
   refine RegF.one 9 (by kernel_rfl) ?_
   refine RegF.opC 36 #[.tmp 62,.tmp 67] #[52,3] rfl rfl rfl (enters_of Tryz.func36 (by kernel_rfl) rfl) #[.pointer (some ⟨K.a,0,none⟩),.int .i64 st.size] (by simp only[zJ,zK,zL];rfl) ((gcommit hd.ca hK (by omega) (by omega) st.size).mono ?_)
   rintro e w8 ⟨x,v8,rfl,hC8,e1,e2,hq,hwhy,hn8,hG8⟩
   have h8:=hd.turn' hG8 hC8
   have hS8:w8.cell? ⟨p,19,none⟩=some (.pointer (some ⟨K.a,0,none⟩))/\w8.cell? ⟨p,0,none⟩=some (.int .i64 st.size):=⟨h8.chc,h8.szc⟩
   refine⟨_,rfl,fun _=>hS8,?_⟩
   simp only[zD,zC,zB,Act.put,zA,zF,zE]
   refine RegF.one 10 (by kernel_rfl) (RegF.opV (w':=w8) (.int .i64 x) rfl rfl (by go_simp) ⟨fun _=>hS8,RegF.done (by kernel_rfl) ?_⟩)
   simp only[zD,zC,zB,Act.put,zA,zF,zE]
   have hws:=hG6.size
   have hGB:GrowBut (K.mu v4) w6 w8:=(GrowBut.below ((Below.refl _ _).drew)).trans hG8
   have hG8':GrowBut (pgMu K p v) W w8:=((hG6.more (Nu:=fun k=>pgMu K p v k∨K.mu v4 k) (fun _ hk _ => .inl hk)).trans (hGB.more fun _ hk _ => .inr hk)).more (fun k hk hl=>hk.elim id (fun hm=>(hN4 k hm).elim .inr (fun he=>by omega)))
   have hN8:Names K W v v8:=fun k hk=>((hn8.mono hws) k hk).elim (fun hm=>hN4 k hm) .inr
   have hF:PcF K v v8 st last x:=⟨by omega,by omega,by
    rcases hq with⟨q1,q2,q3,q4⟩|⟨q1,q2,q3,q4⟩
    ·exact .inl ⟨q1,q2,fun q h1 h2=>(q3 q h2).trans (view_same hVY hVD h1),q4⟩
    ·exact .inr ⟨q1,q2.trans hVs,fun q h1=>(q3 q h1).trans (by rw[hVY]),fun q hq=>(congrFun q4 q).trans (hVD q hq)⟩,fun _ => .inr ⟨v4,r4,.inl r5,fun _=>r5,fun hn=>absurd (HYV.out.symm.trans (heq.trans HHB.out)) hn,r3,hwhy⟩⟩
   have HF:=Lib.hid hF
   clear hF hq hwhy hS0 hS8 hd hG8 hGB hn8
   by_cases hx:x=0
   ·subst hx
    have hR8:=h8.stRange
    have hT8:w8.there p 20 (psC st).toArray.size:=blk_there h8.pb (by rw[pgC_size' h8.hs h8.hl];simp[hsl])
    obtain⟨h9,hG9⟩:=h8.setLast h8.hs
    go_wp2_with (first
     | (refine wp_exec rfl (x_loadM rowPgSt hR8 hsl rfl rfl) ?_)
     | (refine wpList_store_mid rfl 51 _ _ rfl p 20 (psC st).toArray rfl rfl hT8 (by simpa[hsl] using rowPgSt.size) (all_oneCell_toArray (psC_one _)) ?_)
     | (go_at_call 52;refine(pover_gives h9).mono ?_;rintro e w9 ⟨⟨z,rfl⟩,h10,hG10⟩))
    go_ret
    exact PcOut.mk ⟨0,v8,st,false,_,rfl,h10,HF.out,.inl ⟨rfl,rfl,rfl,rfl⟩,hN8,hG8'.trans ((growP hG9).trans (growP hG10))⟩
   ·go_wp2
    go_ret
    exact PcOut.mk ⟨x,v8,last,true,mk,rfl,h8,HF.out,.inr ⟨hx,rfl,rfl,rfl⟩,hN8,hG8'⟩
  ·have hdd:decide (y=hb)=false:=decide_eq_false heq
   rw[hdd] at HEQ
   go_wp2_with (first
    | (refine wp_execG (by first|rfl|simp[Region.wanted,yielded]) (x_loadM rowPgSt hR4 hsl rfl rfl) ?_)
    | (go_at_call 35;refine(HH _).mono ?_;rintro e w5 ⟨A5,c5,rfl,hin5,hB5⟩;have in45:=(hin4.below hB5).more hB5.size)
    | (revert in45;intro in45;go_at_call 40;refine(HEQ _ _ _ _ _ in45 hin5).mono ?_;rintro e w6 ⟨rfl,hB6⟩))
   have hB46:Below w4.heap.size w4 w6:=hB5.trans (hB6.mono hB5.size)
   have h6:=h4.grow (hB46.trans ((Below.refl _ _).drew.mono hB46.size))
   have hG6:GrowBut (pgMu K p v) W w6.drew:=hG04.trans (GrowBut.below (hB46.trans ((Below.refl _ _).drew.mono hB46.size)))
   clear HEQ hin4 hR4 hB5 hB6 hB46 hin5 in45 h4 hG04
   have hS6:w6.drew.cell? ⟨p,19,none⟩=some (.pointer (some ⟨K.a,0,none⟩))/\w6.drew.rangeAt p 0 (psC st):=⟨h6.chc,h6.stRange⟩
   refine RegF.start (fun W':World=>W'.cell? ⟨p,19,none⟩=some (.pointer (some ⟨K.a,0,none⟩))/\W'.rangeAt p 0 (psC st)) 99 (by kernel_rfl) ?_
   refine RegF.t0 0 (.pointer (some ⟨p,0,none⟩)) rfl hS6 (fun W ⟨e0,e1⟩=>by go_simp) ?_
   simp only[zD,zB,Act.put,zA,zF,zE]
   refine RegF.t0 1 (.pointer (some ⟨p,0,none⟩)) rfl hS6 (fun W ⟨e0,e1⟩=>by go_simp) ?_
   simp only[zD,zC,zB,Act.put,zA,zF,zE]
   refine RegF.t0 2 (.pointer (some ⟨p,19,none⟩)) rfl hS6 (fun W ⟨e0,e1⟩=>by go_simp) ?_
   simp only[zD,zC,zB,Act.put,zA,zF,zE]
   refine RegF.t0 3 (.pointer (some ⟨K.a,0,none⟩)) rfl hS6 (fun W ⟨e0,e1⟩=>by go_simp) ?_
   simp only[zD,zC,zB,Act.put,zA,zF,zE]
   refine RegF.t0 4 (.pointer (some ⟨p,0,none⟩)) rfl hS6 (fun W ⟨e0,e1⟩=>by go_simp) ?_
   simp only[zD,zC,zB,Act.put,zA,zF,zE]
   refine RegF.t0 5 (.pointer (some ⟨p,0,none⟩)) rfl hS6 (fun W ⟨e0,e1⟩=>by go_simp) ?_
   simp only[zD,zC,zB,Act.put,zA,zF,zE]
   refine RegF.t0 6 (.pointer (some ⟨p,0,none⟩)) rfl hS6 (fun W ⟨e0,e1⟩=>by go_simp) ?_
   simp only[zD,zC,zB,Act.put,zA,zF,zE]
   refine RegF.t0 7 (.agg (psC st).toArray) rfl hS6 (fun W ⟨e0,e1⟩=>by exact x_loadM rowPgSt e1 hsl rfl rfl) ?_
   simp only[zD,zC,zB,Act.put,zA,zF,zE]
   refine RegF.one 8 (by kernel_rfl) ?_
   refine RegF.opC 35 #[.tmp 53] #[51] rfl rfl rfl (enters_of Tryz.func35 (by kernel_rfl) rfl) #[.agg (psC st).toArray] (by simp only[zJ,zK,zL];rfl) ((HH _).mono ?_)
   rintro e w7 ⟨A7,c7,rfl,hin7,hB7⟩
   have h7:=h6.grow hB7
   have hS7:w7.cell? ⟨p,19,none⟩=some (.pointer (some ⟨K.a,0,none⟩))/\w7.rangeAt p 0 (psC st):=⟨h7.chc,h7.stRange⟩
   refine⟨_,rfl,fun _=>hS7,?_⟩
   simp only[zD,zC,zB,Act.put,zA,zF,zE]
   refine RegF.one 9 (by kernel_rfl) ?_
   refine RegF.opC 34 #[.tmp 49,.const (.int .i64 0),.tmp 54] #[52,3,22] rfl rfl rfl (enters_of Tryz.func34 (by kernel_rfl) rfl) #[.pointer (some ⟨K.a,0,none⟩),.int .i64 0,.slice A7 512 c7] (by simp only[zJ,zK,zL];rfl) ((gwrite h7.ca hK (by omega) 0 A7 c7 hb hhl hin7).mono ?_)
   rintro e w9 ⟨x,v9,rfl,hC9,s1,s2,s3,s4,sq,hn9,hG9⟩
   have h9:=h7.turn hG9 hC9
   have hS9:w9.cell? ⟨p,19,none⟩=some (.pointer (some ⟨K.a,0,none⟩))/\w9.rangeAt p 0 (psC st):=⟨h9.chc,h9.stRange⟩
   refine⟨_,rfl,fun _=>hS9,?_⟩
   simp only[zD,zC,zB,Act.put,zA,zF,zE]
   refine RegF.one 10 (by kernel_rfl) (RegF.opV (w':=w9) (.int .i64 x) rfl rfl (by go_simp) ⟨fun _=>hS9,RegF.done (by kernel_rfl) ?_⟩)
   simp only[zD,zC,zB,Act.put,zA,zF,zE]
   have hws:=hG6.size
   have hGB:GrowBut (K.mu v4) w6.drew w9:=(GrowBut.below hB7).trans hG9
   have hG9':GrowBut (pgMu K p v) W w9:=((hG6.more (Nu:=fun k=>pgMu K p v k∨K.mu v4 k) (fun _ hk _ => .inl hk)).trans (hGB.more fun _ hk _ => .inr hk)).more (fun k hk hl=>hk.elim id (fun hm=>(hN4 k hm).elim .inr (fun he=>by omega)))
   have hN9:Names K W v v9:=fun k hk=>((hn9.mono (zO hws hB7.size)) k hk).elim (fun hm=>hN4 k hm) .inr
   clear hS6 hS7 hS9 h6 h7 hB7 hin7 hC9 hn9 hG9 hGB hG6 hws HH
   by_cases hx0:x=0
   ·subst hx0
    have hD9:v9.D=fun j=>if j=0 then some (headPB st) else v.D j:=by
     rcases sq with h1|h1
     ·rw[<-r5,<-HHB.out];exact h1.2.2
     ·exact absurd h1.1 (by omega)
    have hVD:∀q:Int,q≠0->v9.D q=v.D q:=fun q hq=>by rw[hD9];exact if_neg hq
    have hVY:v9.Y K=v.Y K:=s3.trans r3
    have hVs:v9.S.sz=v.S.sz:=s4.trans r4
    have HD9:=Lib.hid hD9
    clear sq hD9
    go_wp2_with fail
    have hd:=h9.grow (Below.refl _ _).drew
    have hS0:w9.drew.cell? ⟨p,19,none⟩=some (.pointer (some ⟨K.a,0,none⟩))/\w9.drew.cell? ⟨p,0,none⟩=some (.int .i64 st.size):=⟨hd.chc,hd.szc⟩
    refine RegF.start (fun W':World=>W'.cell? ⟨p,19,none⟩=some (.pointer (some ⟨K.a,0,none⟩))/\W'.cell? ⟨p,0,none⟩=some (.int .i64 st.size)) 99 (by kernel_rfl) ?_
    refine RegF.t0 0 (.pointer (some ⟨p,0,none⟩)) rfl hS0 (fun W ⟨e0,e1⟩=>by go_simp) ?_
    simp only[zD,zB,Act.put,zA,zF,zE]
    refine RegF.t0 1 (.pointer (some ⟨p,0,none⟩)) rfl hS0 (fun W ⟨e0,e1⟩=>by go_simp) ?_
    simp only[zD,zC,zB,Act.put,zA,zF,zE]
    refine RegF.t0 2 (.pointer (some ⟨p,19,none⟩)) rfl hS0 (fun W ⟨e0,e1⟩=>by go_simp) ?_
    simp only[zD,zC,zB,Act.put,zA,zF,zE]
    refine RegF.t0 3 (.pointer (some ⟨K.a,0,none⟩)) rfl hS0 (fun W ⟨e0,e1⟩=>by go_simp) ?_
    simp only[zD,zC,zB,Act.put,zA,zF,zE]
    refine RegF.t0 4 (.pointer (some ⟨p,0,none⟩)) rfl hS0 (fun W ⟨e0,e1⟩=>by go_simp) ?_
    simp only[zD,zC,zB,Act.put,zA,zF,zE]
    refine RegF.t0 5 (.pointer (some ⟨p,0,none⟩)) rfl hS0 (fun W ⟨e0,e1⟩=>by go_simp) ?_
    simp only[zD,zC,zB,Act.put,zA,zF,zE]
    refine RegF.t0 6 (.pointer (some ⟨p,0,none⟩)) rfl hS0 (fun W ⟨e0,e1⟩=>by go_simp) ?_
    simp only[zD,zC,zB,Act.put,zA,zF,zE]
    refine RegF.t0 7 (.pointer (some ⟨p,0,none⟩)) rfl hS0 (fun W ⟨e0,e1⟩=>by go_simp) ?_
    simp only[zD,zC,zB,Act.put,zA,zF,zE]
    refine RegF.t0 8 (.int .i64 st.size) rfl hS0 (fun W ⟨e0,e1⟩=>by go_simp) ?_
    simp only[zD,zC,zB,Act.put,zA,zF,zE]
    refine RegF.one 9 (by kernel_rfl) ?_
    refine RegF.opC 36 #[.tmp 62,.tmp 67] #[52,3] rfl rfl rfl (enters_of Tryz.func36 (by kernel_rfl) rfl) #[.pointer (some ⟨K.a,0,none⟩),.int .i64 st.size] (by simp only[zJ,zK,zL];rfl) ((gcommit hd.ca hK (by omega) (by omega) st.size).mono ?_)
    rintro e w8 ⟨x,v8,rfl,hC8,e1,e2,hq,hwhy,hn8,hG8⟩
    have h8:=hd.turn' hG8 hC8
    have hS8:w8.cell? ⟨p,19,none⟩=some (.pointer (some ⟨K.a,0,none⟩))/\w8.cell? ⟨p,0,none⟩=some (.int .i64 st.size):=⟨h8.chc,h8.szc⟩
    refine⟨_,rfl,fun _=>hS8,?_⟩
    simp only[zD,zC,zB,Act.put,zA,zF,zE]
    refine RegF.one 10 (by kernel_rfl) (RegF.opV (w':=w8) (.int .i64 x) rfl rfl (by go_simp) ⟨fun _=>hS8,RegF.done (by kernel_rfl) ?_⟩)
    simp only[zD,zC,zB,Act.put,zA,zF,zE]
    have hws:=hG9'.size
    have hGB:GrowBut (K.mu v9) w9 w8:=(GrowBut.below ((Below.refl _ _).drew)).trans hG8
    have hG8':GrowBut (pgMu K p v) W w8:=((hG9'.more (Nu:=fun k=>pgMu K p v k∨K.mu v9 k) (fun _ hk _ => .inl hk)).trans (hGB.more fun _ hk _ => .inr hk)).more (fun k hk hl=>hk.elim id (fun hm=>(hN9 k hm).elim .inr (fun he=>by omega)))
    have hN8:Names K W v v8:=fun k hk=>((hn8.mono hws) k hk).elim (fun hm=>hN9 k hm) .inr
    have hF:PcF K v v8 st last x:=⟨by omega,by omega,by
     rcases hq with⟨q1,q2,q3,q4⟩|⟨q1,q2,q3,q4⟩
     ·exact .inl ⟨q1,q2,fun q h1 h2=>(q3 q h2).trans (view_same hVY hVD h1),q4⟩
     ·exact .inr ⟨q1,q2.trans hVs,fun q h1=>(q3 q h1).trans (by rw[hVY]),fun q hq=>(congrFun q4 q).trans (hVD q hq)⟩,fun _ => .inr ⟨v9,s4.trans r4,.inr HD9.out,fun hn=>absurd (HYV.out.trans (hn.trans HHB.out.symm)) heq,fun _=>HD9.out,s3.trans r3,hwhy⟩⟩
    have HF:=Lib.hid hF
    clear hF hq hwhy hS0 hS8 hd hG8 hGB hn8
    by_cases hx:x=0
    ·subst hx
     have hR8:=h8.stRange
     have hT8:w8.there p 20 (psC st).toArray.size:=blk_there h8.pb (by rw[pgC_size' h8.hs h8.hl];simp[hsl])
     obtain⟨h9,hG9⟩:=h8.setLast h8.hs
     go_wp2_with (first
      | (refine wp_exec rfl (x_loadM rowPgSt hR8 hsl rfl rfl) ?_)
      | (refine wpList_store_mid rfl 51 _ _ rfl p 20 (psC st).toArray rfl rfl hT8 (by simpa[hsl] using rowPgSt.size) (all_oneCell_toArray (psC_one _)) ?_)
      | (go_at_call 52;refine(pover_gives h9).mono ?_;rintro e w9 ⟨⟨z,rfl⟩,h10,hG10⟩))
     go_ret
     exact PcOut.mk ⟨0,v8,st,false,_,rfl,h10,HF.out,.inl ⟨rfl,rfl,rfl,rfl⟩,hN8,hG8'.trans ((growP hG9).trans (growP hG10))⟩
    ·go_wp2
     go_ret
     exact PcOut.mk ⟨x,v8,last,true,mk,rfl,h8,HF.out,.inr ⟨hx,rfl,rfl,rfl⟩,hN8,hG8'⟩
   ·have hx1:x=160/\v9.D=v.D:=by
     rcases sq with h1|h1
     ·exact absurd h1.1 hx0
     ·refine⟨?_,h1.2.trans r5⟩
      rcases h1.1 with h2|h2
      ·omega
      ·exact h2.1
    obtain⟨rfl,hD9⟩:=hx1
    have hF:PcF K v v9 st last 160:=⟨by omega,by omega,.inr ⟨by decide,s4.trans r4,fun q _=>by rw[s3,r3],fun q _=>by rw[hD9]⟩,fun _ => .inl rfl⟩
    have HF:=Lib.hid hF
    clear hF sq hD9
    go_wp2
    go_ret
    exact PcOut.mk ⟨160,v9,last,true,mk,rfl,h9,HF.out,.inr ⟨by decide,rfl,rfl,rfl⟩,hN9,hG9'⟩
end
theorem dirtyL_fst (R:RowsC):∀P,(dirtyL R P).map (·.1)=(List.range P).filter fun (p:Nat)=>(dirF R (p:Int)).isSome
 | 0=>rfl
 | P+1=>by
  unfold dirtyL
  rw[List.map_append,dirtyL_fst R P,List.range_succ,List.filter_append]
  congr 1
  unfold dirF
  cases h:R (P:Int) with
  | none=>simp[h]
  | some x =>
   obtain⟨y,d⟩:=x
   cases d<;>simp[h]
theorem dirtyD_len (v:PgV)(P:Nat):(dirtyL v.R P).length=cntD P v.D:=by
 have:=congrArg List.length (dirtyL_fst v.R P)
 rw[qB] at this
 exact this
theorem ComWhy.dirty {K:PgK}{v:PgV}{z x:Int}(h:ComWhy K v z x)(hK:K.Ok)(hn:0<cntD K.P v.D)(hz:0<=z/\z<=K.pg):((cntD K.P v.D:Int)<=K.fr/\x=0)∨(K.fr<(cntD K.P v.D:Int)/\x=160):=by
 have hl:=dirtyD_len v K.P
 have hne:dirtyL v.R K.P≠[]:=fun e=>by rw[e] at hl;simp at hl;omega
 have hP:=hK.hP
 rcases h with⟨_,hc⟩|⟨h,_⟩|⟨h,_⟩
 ·rw[hl] at hc
  rcases hc with⟨_,hc⟩|⟨hc,_⟩
  ·exact hc
  ·refine absurd ⟨by omega,hz.1,hz.2,fun k hk => ?_⟩ hc
   have hk':k<(dirtyL v.R K.P).length:=by omega
   have:=(dirtyL_mem.1 (qH hk')).1
   unfold pwL
   rw[zI hk']
   show 0<=(((dirtyL v.R K.P)[k].1:Nat):Int)/\(((dirtyL v.R K.P)[k].1:Nat):Int)<K.pg
   omega
 ·exact absurd h hne
 ·exact absurd h hne
theorem cntD_le {P:Nat}{D:Int->Option (List UInt8)}(l:List Nat)(h:∀p:Nat,(D (p:Int)).isSome=true->p∈l):cntD P D<=l.length :=
 nodup_len (List.nodup_range.filter _) (fun x hx=>h x (List.mem_filter.1 hx).2)
theorem cntD_pos {P:Nat}{D:Int->Option (List UInt8)}{p:Nat}(hp:p<P)(h:(D (p:Int)).isSome=true):0<cntD P D:=List.length_pos_of_mem (List.mem_filter.2 ⟨List.mem_range.2 hp,h⟩)
def st00:PgSt:=⟨0,0,0,zN 16 0⟩
def st01:PgSt:=⟨1,0,0,zN 16 0⟩
section
variable {W0 W:World}{K:PgK}{p:Nat}{v:PgV}{st last:PgSt}{under:Bool}{mk:Value}
theorem PaIs.setSize (h:PaIs W0 K p v st last under mk W)(n:Int):PaIs W0 K p v { st with size:=n } last under mk (W.setCell ⟨p,0,none⟩ (.int .i64 n))/\GrowBut (fun k=>k=p) W (W.setCell ⟨p,0,none⟩ (.int .i64 n)):=by
 have hG:GrowBut (fun k=>k=p) W (W.setCell ⟨p,0,none⟩ (.int .i64 n)):=GrowBut.setCell _ _ _ rfl
 have hb:=h.pb.set 0 (.int .i64 n)
 rw[pgC_setSize] at hb
 exact⟨h.own hG hb h.hs h.hl,hG⟩
end
def OpOut (W0:World)(d f l many P:Nat)(fr pg room:Int)(W:World)(e:Ending)(w':World):Prop :=
 ((2<=room/\room<=2000)/\∃p a r v,e = .returned (.tuple #[.pointer (some ⟨p,0,none⟩),.int .i64 0])/\PaIs W0 ⟨d,f,l,a,r,many,P,fr,pg,room⟩ p v st01 st01 false (.slice none 0 0) w'/\v.N<=3/\v.i<=2/\v.S.sz=1/\(v.D=fun _=>none)/\v.Y ⟨d,f,l,a,r,many,P,fr,pg,room⟩ 0=headPB st01) ∨
 (¬ (2<=room/\room<=2000)/\e = .returned (.tuple #[.pointer none,.int .i64 2])/\Below W.heap.size W w')
theorem OpOut.good {W0:World}{d f l many P:Nat}{fr pg room:Int}{W:World}{e:Ending}{w':World}(h:(2<=room/\room<=2000)/\∃p a r v,e = .returned (.tuple #[.pointer (some ⟨p,0,none⟩),.int .i64 0])/\PaIs W0 ⟨d,f,l,a,r,many,P,fr,pg,room⟩ p v st01 st01 false (.slice none 0 0) w'/\v.N<=3/\v.i<=2/\v.S.sz=1/\(v.D=fun _=>none)/\v.Y ⟨d,f,l,a,r,many,P,fr,pg,room⟩ 0=headPB st01):OpOut W0 d f l many P fr pg room W e w':=.inl h
theorem begunA {W0 w:World}{d f l a r many P:Nat}{fr pg room:Int}(hpl:planOk fr pg=true)(hm:(many:Int)=2+9*fr+8*pg)(hmax:many<=40000)(hP:(P:Int)=pg)(hP2:P<=200)(hr:2<=room/\room<=2000)
  (h:CsIs W0 d f l a r many P fr pg room ⟨laid (fun _=>zer64) (wrL 1 (hEnc 1 1 0 0) 1),[],0,false⟩ ⟨1,1,0,[]⟩ ⟨0,0,0,fun _=>none⟩ w):CaAt W0 ⟨d,f,l,a,r,many,P,fr,pg,room⟩ ⟨laid (fun _=>zer64) (wrL 1 (hEnc 1 1 0 0) 1),⟨1,1,0,[]⟩,⟨0,0,0,fun _=>none⟩,0,0⟩ w:=by
 have hpr:=(planOk_iff fr pg).1 hpl
 refine⟨h,StP.begun (fr:=fr) (pg:=pg) (by omega) (by omega),(fun x hx=>absurd hx (by simp)),CaSt.Ok.zero,(fun p b d e=>by cases e),?_⟩
 have:cntR P (fun _=>none)=0:=by
  have:=cntR_le (P:=P) (V:=fun _=>none) (V':=fun _=>none) (fun _ h=>h)
  unfold cntR keysV ptrV
  simp
 show (cntR P (fun _=>none):Int)<=room
 rw[this]
 omega
theorem popen_new {W0 W:World}{d f l many P:Nat}{fr pg room:Int}(h:FhIs W0 d f l many fr pg ⟨laid (fun _=>zer64) (wrL 1 (hEnc 1 1 0 0) 1),[],0,false⟩ ⟨1,1,0,[]⟩ W)(hpl:planOk fr pg=true)(hm:(many:Int)=2+9*fr+8*pg)(hmax:many<=40000)(hP:(P:Int)=pg)(hP2:P<=200) :
  Calls Tryz.prog 9 #[.pointer (some ⟨f,0,none⟩),.int .i64 room] W (OpOut W0 d f l many P fr pg room W):=by
 have hpr:=(planOk_iff fr pg).1 hpl
 have hz:∃k,¬ (laid (fun _=>zer64) (wrL 1 (hEnc 1 1 0 0) 1)) k=zer64:=(StP.begun (fr:=fr) (pg:=pg) (by omega) (by omega)).nz
 have hup:=h.up.size
 have HN:=cnew_out (P:=P) (room:=room) h hz (fun x hx=>absurd hx (by simp))
 by_cases hr:2<=room/\room<=2000
 ·have HNEW:Calls Tryz.prog 32 #[.pointer (some ⟨f,0,none⟩),.int .i64 room] W fun e w'=>∃a r,e = .returned (.tuple #[.pointer (some ⟨a,0,none⟩),.int .i64 0])/\CsIs W0 d f l a r many P fr pg room ⟨laid (fun _=>zer64) (wrL 1 (hEnc 1 1 0 0) 1),[],0,false⟩ ⟨1,1,0,[]⟩ ⟨0,0,0,fun _=>none⟩ w'/\Below W.heap.size W w':=HN.mono fun e w' hn=>by
   rcases hn with⟨_,a,r,he,hC,_,hB⟩|⟨hn,_⟩
   ·exact⟨a,r,he,hC,hB⟩
   ·exact absurd hr hn
  clear HN h
  go_enter Tryz.func9,Tryz.ntmps9
  go_wp2_with fail
  refine wp_scope_jumps (rest:=?rest) 0 (fun _ _=>False) (fun _ _=>0) ?hf ?first ?pass
  case hf=>exact rfl
  case pass=>exact fun _ _ hx=>hx.elim
  case first =>
   go_wp2_with (go_at_call 32;refine HNEW.mono ?_;rintro e w1 ⟨a,r,rfl,hC1,hB1⟩)
   have hA1:=begunA hpl hm hmax hP hP2 hr hC1
   obtain⟨K,hKe⟩:∃K:PgK,K=⟨d,f,l,a,r,many,P,fr,pg,room⟩:=⟨_,rfl⟩
   have hK:K.Ok:=by rw[hKe];exact⟨hpl,hm,zO hmax (by decide),hP,hP2,hr⟩
   obtain⟨v0,hv0⟩:∃v0:PgV,v0=⟨laid (fun _=>zer64) (wrL 1 (hEnc 1 1 0 0) 1),⟨1,1,0,[]⟩,⟨0,0,0,fun _=>none⟩,0,0⟩:=⟨_,rfl⟩
   rw[<-hKe,<-hv0] at hA1
   have hKa:K.a=a:=by rw[hKe]
   have hKf:K.f=f:=by rw[hKe]
   have hKP:K.P=P:=by rw[hKe]
   have hKr:K.room=room:=by rw[hKe]
   have hKfr:K.fr=fr:=by rw[hKe]
   have hKpg:K.pg=pg:=by rw[hKe]
   have hvN:v0.N=0/\v0.i=0/\v0.S.sz=0:=by rw[hv0];exact⟨rfl,rfl,rfl⟩
   have hvD:v0.D=fun _=>none:=by rw[hv0];rfl
   subst hKa
   have HKE:=Lib.hid hKe
   clear hKe
   obtain⟨p,hp⟩:∃p,p=w1.heap.size:=⟨_,rfl⟩
   obtain⟨w2,hw2⟩:∃w2,w2=w1.alloc (.cells #[.int .i64 0,.int .i64 0,.int .i64 0,.int .i64 0,.int .i64 0,.int .i64 0,.int .i64 0,.int .i64 0,.int .i64 0,.int .i64 0,.int .i64 0,.int .i64 0,.int .i64 0,.int .i64 0,.int .i64 0,.int .i64 0,.int .i64 0,.int .i64 0,.int .i64 0,.pointer (some ⟨K.a,0,none⟩),.int .i64 0,.int .i64 0,.int .i64 0,.int .i64 0,.int .i64 0,.int .i64 0,.int .i64 0,.int .i64 0,.int .i64 0,.int .i64 0,.int .i64 0,.int .i64 0,.int .i64 0,.int .i64 0,.int .i64 0,.int .i64 0,.int .i64 0,.int .i64 0,.int .i64 0,.bool false,.slice none 0 0] 55):=⟨_,rfl⟩
   have hp2:PaIs W0 K p v0 st00 st00 false (.slice none 0 0) w2:=by
    rw[hw2,hp]
    refine⟨hA1.grow ((Below.refl _ _).alloc (zG _) _),?_,zO hup hB1.size,rfl,rfl⟩
    exact BlkIs.new w1 _ _
   rw[<-hw2,<-hp]
   have hB2:Below W.heap.size W w2:=by rw[hw2];exact hB1.alloc hB1.size _
   have HSZ:=fsize_gives hp2.ca.cs.fh.fb hp2.ca.cs.fh.lg
   rw[hKf,hvN.2.2] at HSZ
   clear hA1 hC1 hw2 hp hv0 HNEW hB1
   have c0:w2.cell? ⟨p,0,none⟩=some (.int .i64 0):=hp2.szc
   have f0:=hp2.pb.free 0
   have hp3:=(hp2.setSize 0).1
   have hp4:PaIs W0 K p v0 st01 st00 false (.slice none 0 0) ((w2.setCell ⟨p,0,none⟩ (.int .i64 0)).setCell ⟨p,0,none⟩ (.int .i64 1)):=(hp3.setSize 1).1
   have c3:(w2.setCell ⟨p,0,none⟩ (.int .i64 0)).cell? ⟨p,0,none⟩=some (.int .i64 0):=hp3.szc
   have f3:=hp3.pb.free 0
   have hR4:=hp4.stRange
   have hsl:(psC st01).length=19:=rfl
   clear hp2 hp3
   refine HSZ.mono ?_
   rintro e w' ⟨rfl,rfl⟩
   go_wp2_with (refine wp_exec rfl (x_loadM rowPgSt hR4 hsl rfl rfl) ?_)
   generalize (w2.setCell ⟨p,0,none⟩ (.int .i64 0)).setCell ⟨p,0,none⟩ (.int .i64 1)=w4 at *
   clear hB2 c3 f3 c0 f0 HSZ
   have hsx:(headPB st01).length=512:=headPB_length rfl
   have hK0:=hK.hP
   have hrm:=hK.rm
   refine(phead_gives w4 st01 rfl).mono ?_
   rintro e w5 ⟨A5,c5,rfl,hin5,hB5⟩
   have hp5:=hp4.grow hB5
   go_wp2_with fail
   refine(gwrite hp5.ca hK (by omega) 0 A5 c5 (headPB st01) hsx hin5).mono ?_
   rintro e w6 ⟨x,v6,rfl,hC6,e1,e2,e3,e4,hq,hn6,hG6⟩
   have hx:x=0/\v6.D=fun j=>if j=0 then some (headPB st01) else v0.D j:=by
    rcases hq with h1|h1
    ·exact⟨h1.1,h1.2.2⟩
    ·exfalso
     rcases h1.1 with h2|h2
     ·omega
     ·have:=hp5.ca.tight h2.2 [] (fun p b e=>by rw[hvD] at e;cases e)
      simp at this
      omega
   obtain⟨rfl,hD6⟩:=hx
   have hp6:=hp5.turn hG6 hC6
   have cz6:w6.cell? ⟨p,0,none⟩=some (.int .i64 1):=hp6.szc
   clear hp4 hp5 hB5 hin5 hR4 hC6 hq hn6 hG6
   go_wp2_with fail
   refine(gcommit hp6.ca hK (by omega) (by omega) 1).mono ?_
   rintro e w8 ⟨x,v8,rfl,hC8,g1,g2,hq8,hwhy,hn8,hG8⟩
   have hpos:0<cntD K.P v6.D:=cntD_pos (p:=0) (by omega) (by rw[hD6];rfl)
   have hle:cntD K.P v6.D<=1:=cntD_le [0] (fun q hq=>by
    rw[hD6] at hq
    replace hq:(if (q:Int)=0 then some (headPB st01) else v0.D (q:Int)).isSome=true:=hq
    by_cases e:(q:Int)=0
    ·have:q=0:=by omega
     simp[this]
    ·rw[if_neg e,hvD] at hq
     cases hq)
   have hx8:x=0:=by
    rcases hwhy.dirty hK hpos ⟨by omega,by omega⟩ with h1|h1
    ·exact h1.2
    ·omega
   subst hx8
   have hp8:=hp6.turn hG8 hC8
   have hv8:v8.S.sz=1/\v8.Y K 0=headPB st01/\v8.D=fun _=>none:=by
    rcases hq8 with⟨_,q2,q3,q4⟩|⟨q1,_⟩
    ·refine⟨q2,?_,q4⟩
     rw[q3 0 (by omega),PgV.view_eq,hD6]
     rfl
    ·exact absurd rfl q1
   have hR8:=hp8.stRange
   have hT8:w8.there p 20 (psC st01).toArray.size:=blk_there hp8.pb (by rw[pgC_size' hp8.hs hp8.hl];simp[hsl])
   obtain⟨hp9,_⟩:=hp8.setLast (last':=st01) rfl
   have hvN8:v8.N<=3/\v8.i<=2:=by omega
   have HP9:=Lib.hid hp9
   clear hp6 hp8 hp9 hC8 hq8 hwhy hn8 hG8 hD6 cz6 hpos hle
   go_wp2_with (first
    | (refine wp_exec rfl (x_loadM rowPgSt hR8 hsl rfl rfl) ?_)
    | (refine wpList_store_mid rfl 51 _ _ rfl p 20 (psC st01).toArray rfl rfl hT8 (by simpa[hsl] using rowPgSt.size) (all_oneCell_toArray (psC_one _)) ?_))
   simp only[Exit.jump]
   exact bodyPost_ret (results_tmp2 rfl _ _ _) rfl (OpOut.good ⟨hr,p,K.a,r,v8,rfl,by rw[<-HKE.out];exact HP9.out,hvN8.1,hvN8.2,hv8.1,hv8.2.2,by rw[<-HKE.out];exact hv8.2.1⟩)
 ·have HNEW:Calls Tryz.prog 32 #[.pointer (some ⟨f,0,none⟩),.int .i64 room] W fun e w'=>e = .returned (.tuple #[.pointer none,.int .i64 2])/\W=w':=HN.mono fun e w' hn=>by
   rcases hn with⟨h1,_⟩|⟨_,he,hw⟩
   ·exact absurd h1 hr
   ·exact⟨he,hw⟩
  clear HN h
  go_enter Tryz.func9,Tryz.ntmps9
  go_wp2_with fail
  refine wp_scope_jumps (rest:=?rest) 0 (fun a w'=>a = { tmps:=#[.pointer (some ⟨f,0,none⟩),.int .i64 room,undef,undef,.pointer none,.int .i64 0,.pointer none,.int .i64 2,.pointer (some ⟨W.heap.size,0,none⟩),.slice none 0 0,undef,.tuple #[.pointer none,.int .i64 2],.pointer (some ⟨f,0,none⟩),.int .i64 room,.tuple #[.pointer none,.int .i64 2],.pointer none,.int .i64 2,.pointer none,.agg #[.int .i64 0,.int .i64 0,.int .i64 0,.int .i64 0,.int .i64 0,.int .i64 0,.int .i64 0,.int .i64 0,.int .i64 0,.int .i64 0,.int .i64 0,.int .i64 0,.int .i64 0,.int .i64 0,.int .i64 0,.int .i64 0,.int .i64 0,.int .i64 0,.int .i64 0,.pointer none,.int .i64 0,.int .i64 0,.int .i64 0,.int .i64 0,.int .i64 0,.int .i64 0,.int .i64 0,.int .i64 0,.int .i64 0,.int .i64 0,.int .i64 0,.int .i64 0,.int .i64 0,.int .i64 0,.int .i64 0,.int .i64 0,.int .i64 0,.int .i64 0,.int .i64 0,.bool false,.slice none 0 0],.pointer (some ⟨W.heap.size,0,none⟩),.int .i64 2,.bool true,undef,undef,undef,undef,undef,undef,undef,undef,undef,undef,undef,undef,undef,undef,undef,undef,undef,undef,undef,undef,undef,undef,undef,undef,undef,undef,undef,undef,undef,undef,undef,undef,undef,undef,undef,undef,undef,undef,undef,undef,undef,undef,undef,undef,undef,undef,undef,undef,undef,undef,undef,undef,undef,undef,undef,undef,undef,undef,undef,undef,undef,undef,undef,undef,undef,undef,undef,undef,undef,undef,undef,undef,undef,undef,undef,undef,undef,undef,undef,undef,undef,undef,undef,undef,undef,undef,undef,undef,undef,undef,undef,undef,undef,undef,undef,undef,undef,undef,undef,undef,undef],defers:=[] }/\Below W.heap.size W w') (fun _ _=>0) ?hf ?first ?pass
  case hf=>exact rfl
  case pass =>
   rintro a w' ⟨rfl,hB⟩
   go_wp2
   simp only[Exit.jump]
   exact bodyPost_ret (results_tmp2 rfl _ _ _) rfl (.inr ⟨hr,rfl,hB⟩)
  case first =>
   go_wp2_with (go_at_call 32;refine HNEW.mono ?_;rintro e w1 ⟨rfl,rfl⟩)
   go_step3
   exact⟨rfl,rfl,(Below.refl _ _).alloc (zG _) _⟩
section
variable {W0 W:World}{K:PgK}{p:Nat}{v:PgV}{st last:PgSt}{mk:Value}
theorem psetroot_gives (h:PaIs W0 K p v st last true mk W)(n:Int)(hn:0<=n/\n<st.size) :
  Calls Tryz.prog 29 #[.pointer (some ⟨p,0,none⟩),.int .i64 0,.int .i64 n] W fun e w'=>e = .returned (.int .i64 0)/\PaIs W0 K p v { st with roots:=st.roots.set 0 n } last true mk w'/\GrowBut (fun k=>k=p) W w':=by
 obtain⟨W1,hW1⟩:∃W1,W1=W.alloc (.cells #[.int .i64 0] 3):=⟨_,rfl⟩
 have hB1:Below W.heap.size W W1:=by rw[hW1];exact(Below.refl _ _).alloc (zG _) _
 have b1:BlkIs W1 W.heap.size 3 #[.int .i64 0]:=by rw[hW1];exact BlkIs.new W _ _
 have hd:decide (n<0∨st.size<=n)=false:=decide_eq_false (by omega)
 have HW1:=Lib.hid hW1.symm
 clear hW1
 go_enter Tryz.func29,Tryz.ntmps29
 go_wp2_with (go_at_call 53;rw[HW1.out];refine(pthere_gives W1 (some ⟨p,0,none⟩) n 0).mono ?_;rintro e w2 ⟨f,rfl,hf1,hB2,hA2⟩)
 have h2:=(h.grow hB1).grow hB2
 have b2:=b1.below hB2 b1.lt
 obtain⟨xs,hxs⟩:∃xs:List PAsk,xs=[⟨.func (.func 56) #[] #[.pointer (some ⟨W.heap.size,0,none⟩)],2,false⟩,⟨f,4,false⟩]:=⟨_,rfl⟩
 have hone:∀v∈pasksC xs,v.oneCell'=true:=fun v hv=>by
  rw[hxs] at hv
  simp only[pasksC,paskC,zK,zL,List.flatten_cons,List.flatten_nil,qA,zV,qM,List.not_mem_nil,or_false] at hv
  rcases hv with rfl|rfl|rfl|rfl
  ·rfl
  ·rfl
  ·exact hf1
  ·rfl
 obtain⟨W3,hW3⟩:∃W3,W3=w2.alloc (.cells #[.func (.func 56) #[] #[.pointer (some ⟨W.heap.size,0,none⟩)],.int .i64 2,f,.int .i64 4] 92):=⟨_,rfl⟩
 have hB3:Below w2.heap.size w2 W3:=by rw[hW3];exact(Below.refl _ _).alloc (zG _) _
 have hin3:InG W3 W3.heap.size 2 (some ⟨w2.heap.size,0,none⟩) xs.length xs.length (pasksC xs):=by
  have:=pasks_new w2 xs hone 92 (by rw[hxs];simp)
  rw[hW3]
  subst hxs
  exact this
 have h3:=h2.grow hB3
 have b3:=b2.below hB3 b2.lt
 have ha:∀x∈xs,PAskIs W3 x:=fun x hx=>by
  rw[hxs] at hx
  simp only[qM,List.not_mem_nil,or_false] at hx
  rcases hx with rfl|rfl
  ·refine PAskIs.one 2 ⟨enters_of Tryz.func56 (by kernel_rfl) rfl,fun W4 hW4 => ?_⟩
   refine(psetroot1_ask (bi:=W.heap.size) (i:=0) ((b3.below hW4 b3.lt).boxed)).mono ?_
   rintro e w' ⟨rfl,rfl⟩
   exact⟨rfl,Below.refl _ _⟩
  ·have:=hA2 p st.size rfl (h.grow hB1).szc
   rw[hd] at this
   exact PAskIs.later this hB3
 have HA:=h3.asked true (some ⟨w2.heap.size,0,none⟩) xs.length xs hin3 (by rw[hxs];simp) ha
 have hE:(if (true != true)=true then 191 else askE xs)=0:=by rw[hxs];rfl
 have hxl:xs.length=2:=by rw[hxs];rfl
 rw[hE,hxl] at HA
 rw[<-hW3]
 refine HA.mono ?_
 rintro e w4 ⟨rfl,hB4⟩
 have b4:=b3.below hB4 b3.lt
 have hBB:Below W.heap.size W w4:=((hB1.trans (hB2.mono hB1.size)).trans (hB3.mono (by have:=hB1.size;have:=hB2.size;omega))).trans (hB4.mono (by have:=hB1.size;have:=hB2.size;have:=hB3.size;omega))
 have hBD:Below W.heap.size W w4.drew:=hBB.trans ((Below.refl _ _).drew.mono hBB.size)
 have h4d:PaIs W0 K p v st last true mk w4.drew:=h.grow hBD
 have hS0:w4.drew.cell? ⟨W.heap.size,0,none⟩=some (.int .i64 0):=b4.boxed
 clear ha hin3 HA hE hxl hA2 hone h2 h3 b2 b3 hB3 hW3 hxs b1 b4 hBB hB4
 go_wp2_with fail
 refine RegF.start (fun W':World=>W'.cell? ⟨W.heap.size,0,none⟩=some (.int .i64 0)) 99 (by kernel_rfl) ?_
 refine RegF.t0 0 (.pointer (some ⟨p,0,none⟩)) rfl hS0 (fun W hW=>by obtain e0:=hW;go_simp) ?_
 simp only[zD,zB,Act.put,zA,zF,zE]
 refine RegF.t0 1 (.int .i64 0) rfl hS0 (fun W hW=>by obtain e0:=hW;go_simp) ?_
 simp only[zD,zC,zB,Act.put,zA,zF,zE]
 refine RegF.t0 2 (.int .i64 n) rfl hS0 (fun W hW=>by obtain e0:=hW;go_simp) ?_
 simp only[zD,zC,zB,Act.put,zA,zF,zE]
 refine RegF.t0 3 (.pointer (some ⟨p,0,none⟩)) rfl hS0 (fun W hW=>by obtain e0:=hW;go_simp) ?_
 simp only[zD,zC,zB,Act.put,zA,zF,zE]
 refine RegF.t0 4 (.pointer (some ⟨p,0,none⟩)) rfl hS0 (fun W hW=>by obtain e0:=hW;go_simp) ?_
 simp only[zD,zC,zB,Act.put,zA,zF,zE]
 refine RegF.t0 5 (.pointer (some ⟨p,3,none⟩)) rfl hS0 (fun W hW=>by obtain e0:=hW;go_simp) ?_
 simp only[zD,zC,zB,Act.put,zA,zF,zE]
 refine RegF.t0 6 (.pointer (some ⟨p,3,none⟩)) rfl hS0 (fun W hW=>by obtain e0:=hW;go_simp) ?_
 simp only[zD,zC,zB,Act.put,zA,zF,zE]
 have hl19:3<(psC st).length:=by rw[psC_length h.hs];decide
 have c3:w4.drew.cell? ⟨p,3,none⟩=some (psC st)[3]:=by have:=h4d.stRange 3 _ (zI hl19);simpa using this
 generalize (psC st)[3]=z3 at c3
 have f3:=h4d.pb.free 3
 obtain⟨h5,hG5⟩:=h4d.setRoot (i:=0) (by decide) n
 have hS7:(w4.drew.setCell ⟨p,3,none⟩ (.int .i64 n)).cell? ⟨W.heap.size,0,none⟩=some (.int .i64 0):=hG5.cell hS0 (cell_lt hS0) (fun e=>by have:=h.pb.lt;have e:W.heap.size=p:=e;omega)
 refine RegF.one 7 (by kernel_rfl) (RegF.opS (w':=w4.drew.setCell ⟨p,3,none⟩ (.int .i64 n)) rfl rfl (by go_simp) ⟨fun _=>hS7,RegF.done (by kernel_rfl) ?_⟩)
 simp only[zD,zC,zB,Act.put]
 clear hS7 hS0 h4d c3 f3
 go_wp2
 go_ret
 exact⟨rfl,h5,(GrowBut.below hBD).trans hG5⟩
end
theorem num9_gives (e:Int)(w:World):Calls Tryz.prog 10 #[.int .i64 e] w fun x w'=>x = .returned (.int .i64 e)/\w=w':=by
 go_enter Tryz.func10,Tryz.ntmps10
 go_wp2
 go_ret
 exact⟨rfl,rfl⟩
def Sup (D:Int->Option (List UInt8))(l:List Nat):Prop:=∀p b,D p=some b->p.toNat∈l
theorem Sup.none:Sup (fun _=>Option.none) []:=fun p b e=>by cases e
theorem Sup.put {D:Int->Option (List UInt8)}{l:List Nat}(h:Sup D l)(n:Int)(y:List UInt8):Sup (fun j=>if j=n then some y else D j) (n.toNat::l):=fun p b e=>by
 replace e:(if p=n then some y else D p)=some b:=e
 by_cases hp:p=n
 ·rw[hp];simp
 ·rw[if_neg hp] at e
  exact List.mem_cons_of_mem _ (h p b e)
theorem Sup.putIn {D:Int->Option (List UInt8)}{l:List Nat}(h:Sup D l){n:Int}(hn:n.toNat∈l)(y:List UInt8):Sup (fun j=>if j=n then some y else D j) l:=fun p b e=>by
 replace e:(if p=n then some y else D p)=some b:=e
 by_cases hp:p=n
 ·rw[hp];exact hn
 ·rw[if_neg hp] at e
  exact h p b e
theorem Sup.loose {K:PgK}{D:Int->Option (List UInt8)}{l:List Nat}(h:Sup D l)(hr:(l.length:Int)<K.room):¬ Tight K D:=fun ht=>by
 have:=ht l h
 omega
theorem cntD_all {P:Nat}{D:Int->Option (List UInt8)}(h:∀p:Nat,p<P->(D (p:Int)).isSome=true):cntD P D=P:=by
 unfold cntD
 rw[List.filter_eq_self.2 (fun x hx=>h x (List.mem_range.1 hx)),List.length_range]
section
variable {K:PgK}{v v':PgV}{st st':PgSt}{n x:Int}
theorem MkF.new (h:MkF K v v' st st' n x)(hf:st.first=0)(hs:st.size<K.pg)(ht:¬ Tight K v.D):x=0/\n=st.size/\st' = { st with size:=st.size+1 }/\v'.D=fun j=>if j=st.size then some zeroB else v.D j:=by
 rcases h.dd with⟨h1,_,h3,_,h5,h6⟩|⟨_,h2,_⟩|⟨_,_,_,_,h5⟩
 ·exact⟨h1,h3,h5,by rw[h6,h3]⟩
 ·exact absurd hf h2
 ·rcases h5 with⟨_,h6,_⟩|h6|⟨h6,_⟩
  ·omega
  ·exact absurd h6 ht
  ·exact absurd hf h6
theorem MkF.full (h:MkF K v v' st st' n x)(hf:st.first=0)(hs:¬ st.size<K.pg)(ht:¬ Tight K v.D):x=160/\n=0/\st'=st/\v'.D=v.D:=by
 rcases h.dd with⟨_,_,_,h4,_⟩|⟨_,h2,_⟩|⟨_,h2,h3,h4,h5⟩
 ·exact absurd h4 hs
 ·exact absurd hf h2
 ·rcases h5 with⟨_,_,h7⟩|h6|⟨h6,_⟩
  ·exact⟨h7,h2,h3,h4⟩
  ·exact absurd h6 ht
  ·exact absurd hf h6
theorem MkF.old (h:MkF K v v' st st' n x)(hf:st.first≠0){f:Int}(hv:v.view K st.first.toNat=linkB f)(hf2:0<=f/\f<st.size)(hs:st.size<=1000)(hm:1<=st.many)(ht:¬ Tight K v.D):x=0/\n=st.first/\st' = { st with first:=f,many:=st.many - 1 }/\v'.D=fun j=>if j=st.first then some zeroB else v.D j:=by
 have hx:=linkB_next (f:=f) ⟨hf2.1,by omega⟩
 rcases h.dd with⟨_,h2,_⟩|⟨h1,_,h3,h4,h5⟩|⟨_,_,_,_,h5⟩
 ·exact absurd h2 hf
 ·rw[hv,hx] at h4
  exact⟨h1,h3,h4,by rw[h5,h3]⟩
 ·rcases h5 with⟨h6,_⟩|h6|⟨_,h6⟩
  ·exact absurd h6 hf
  ·exact absurd h6 ht
  ·rw[hv,hx] at h6
   omega
end
def stW (n:Int):PgSt:=⟨n,0,0,zN 16 0⟩
def stR:PgSt:=⟨4,0,0,1::zN 15 0⟩
theorem head_ne:headPB st01≠headPB stR:=by decide +kernel
theorem works9_gives (w:World):Calls Tryz.prog 5 #[] w fun e w'=>e = .returned (.bool true)/\Below w.heap.size w w':=by
 have hpl:planOk 3 4=true:=by decide
 go_enter Tryz.func5,Tryz.ntmps5
 go_wp2_with fail
 refine(new_gives w 61 (by decide) (by decide)).mono ?_
 rintro e w1 ⟨d,rfl,hd1,hD1,hB1⟩
 go_wp2_with fail
 refine(fopen_new2 w1 d 61 3 4 hB1 hd1 hD1 hpl (by decide) (by decide)).mono ?_
 rintro e w2 ⟨f,l,rfl,hF2,hf2,hl2⟩
 go_wp2_with fail
 refine(popen_new (P:=4) (room:=4) hF2 hpl (by decide) (by decide) rfl (by decide)).mono ?_
 rintro e w3 (⟨_,p,a,r,v0,rfl,hp3,n0,i0,s0,d0,y0⟩|⟨h,_⟩)
 rotate_left
 ·exact absurd (by decide) h
 obtain⟨K,hKe⟩:∃K:PgK,K=⟨d,f,l,a,r,61,4,3,4,4⟩:=⟨_,rfl⟩
 rw[<-hKe] at hp3 y0
 have hK:K.Ok:=by rw[hKe];exact⟨hpl,rfl,by show 61<=100000;decide,rfl,by show 4<=200;decide,by show (2:Int)<=4/\(4:Int)<=2000;decide⟩
 have hKP:K.P=4:=by rw[hKe]
 have hKr:K.room=4:=by rw[hKe]
 have hKg:K.pg=4:=by rw[hKe]
 have hKf:K.fr=3:=by rw[hKe]
 have S0:Sup v0.D []:=by rw[d0];exact Sup.none
 clear hKe hF2 hD1 hB1
 -- Begin
 go_wp2_with fail
 refine(pbegin_gives hp3).mono ?_
 rintro e w4 ⟨rfl,hp4,_⟩
 clear hp3
 -- Make: page 1
 go_wp2_with fail
 refine(pmake_gives hp4 hK (by omega) ⟨by decide,by rw[hKP];decide⟩ ⟨by decide,by rw[hKP];decide⟩ ⟨by decide,by decide⟩).mono ?_
 rintro e w5 ⟨n1,x1,v1,st1,rfl,hp5,hM1,_,_⟩
 obtain⟨rfl,rfl,rfl,d1⟩:=hM1.new rfl (by rw[hKg];decide) (S0.loose (by rw[hKr];decide))
 have S1:Sup v1.D [1]:=by rw[d1];exact S0.put _ _
 have m1:=hM1.nn
 have j1:=hM1.ii
 have y1:=hM1.yy
 have s1:=hM1.sz
 replace hp5:PaIs w K p v1 (stW 2) st01 true (.slice none 0 0) w5:=hp5
 clear hp4 hM1
 rw[show st01.size=1 from rfl]
 replace d1:v1.D=fun j=>if j=1 then some zeroB else v0.D j:=d1
 -- Make: page 2
 go_wp2_with fail
 refine(pmake_gives hp5 hK (by omega) ⟨by decide,by rw[hKP];decide⟩ ⟨by decide,by rw[hKP];decide⟩ ⟨by decide,by decide⟩).mono ?_
 rintro e w6 ⟨n2,x2,v2,st2,rfl,hp6,hM2,_,_⟩
 obtain⟨rfl,rfl,rfl,d2⟩:=hM2.new rfl (by rw[hKg];decide) (S1.loose (by rw[hKr];decide))
 have S2:Sup v2.D [2,1]:=by rw[d2];exact S1.put _ _
 have m2:=hM2.nn
 have j2:=hM2.ii
 have y2:=hM2.yy
 have s2:=hM2.sz
 replace hp6:PaIs w K p v2 (stW 3) st01 true (.slice none 0 0) w6:=hp6
 rw[show (stW 2).size=2 from rfl]
 replace d2:v2.D=fun j=>if j=2 then some zeroB else v1.D j:=d2
 clear hp5 hM2
 -- Free: page 1
 go_wp2_with fail
 refine(pfree_gives hp6 hK (by omega) 1 ⟨by decide,by decide⟩ (by rw[hKP];decide) ⟨by decide,by decide⟩).mono ?_
 rintro e w7 ⟨x3,v3,rfl,hp7,hF3,_,_⟩
 have hx3:x3=0/\v3.D=fun j=>if j=1 then some (linkB 0) else v2.D j:=by
  rcases hF3.dd with h1|⟨_,h2,_⟩
  ·exact h1
  ·exact absurd (hp6.ca.tight h2) (S2.loose (by rw[hKr];decide))
 obtain⟨rfl,d3⟩:=hx3
 have S3:Sup v3.D [2,1]:=by rw[d3];exact S2.putIn (by decide) _
 have m3:=hF3.nn
 have j3:=hF3.ii
 have y3:=hF3.yy
 have s3:=hF3.sz
 replace hp7:PaIs w K p v3 ⟨3,1,1,zN 16 0⟩ st01 true (.slice none 0 0) w7:=hp7
 clear hp6 hF3
 -- Make: page 1, that is free
 go_wp2_with fail
 refine(pmake_gives hp7 hK (by omega) ⟨by decide,by rw[hKP];decide⟩ ⟨by decide,by rw[hKP];decide⟩ ⟨by decide,by decide⟩).mono ?_
 rintro e w8 ⟨n4,x4,v4,st4,rfl,hp8,hM4,_,_⟩
 have hv3:v3.view K 1=linkB 0:=by rw[PgV.view_eq,d3];rfl
 obtain⟨rfl,rfl,rfl,d4⟩:=hM4.old (by decide) hv3 ⟨by decide,by decide⟩ (by decide) (by decide) (S3.loose (by rw[hKr];decide))
 have S4:Sup v4.D [2,1]:=by rw[d4];exact S3.putIn (by decide) _
 have m4:=hM4.nn
 have j4:=hM4.ii
 have y4:=hM4.yy
 have s4:=hM4.sz
 replace hp8:PaIs w K p v4 (stW 3) st01 true (.slice none 0 0) w8:=hp8
 replace d4:v4.D=fun j=>if j=1 then some zeroB else v3.D j:=d4
 clear hp7 hM4 hv3
 -- Make: page 3
 go_wp2_with fail
 refine(pmake_gives hp8 hK (by omega) ⟨by decide,by rw[hKP];decide⟩ ⟨by decide,by rw[hKP];decide⟩ ⟨by decide,by decide⟩).mono ?_
 rintro e w9 ⟨n5,x5,v5,st5,rfl,hp9,hM5,_,_⟩
 obtain⟨rfl,rfl,rfl,d5⟩:=hM5.new rfl (by rw[hKg];decide) (S4.loose (by rw[hKr];decide))
 have S5:Sup v5.D [3,2,1]:=by rw[d5];exact S4.put _ _
 have m5:=hM5.nn
 have j5:=hM5.ii
 have y5:=hM5.yy
 have s5:=hM5.sz
 replace hp9:PaIs w K p v5 (stW 4) st01 true (.slice none 0 0) w9:=hp9
 rw[show (stW 3).size=3 from rfl]
 replace d5:v5.D=fun j=>if j=3 then some zeroB else v4.D j:=d5
 clear hp8 hM5
 -- Make: no more
 go_wp2_with fail
 refine(pmake_gives hp9 hK (by omega) ⟨by decide,by rw[hKP];decide⟩ ⟨by decide,by rw[hKP];decide⟩ ⟨by decide,by decide⟩).mono ?_
 rintro e w10 ⟨n6,x6,v6,st6,rfl,hp10,hM6,_,_⟩
 obtain⟨rfl,rfl,rfl,d6⟩:=hM6.full rfl (by rw[hKg];decide) (S5.loose (by rw[hKr];decide))
 have m6:=hM6.nn
 have j6:=hM6.ii
 have y6:=hM6.yy
 have s6:=hM6.sz
 clear hp9 hM6
 -- Size, SetRoot
 go_wp2_with fail
 refine(psize_gives hp10).mono ?_
 rintro e w' ⟨rfl,rfl⟩
 rw[show (stW 4).size=4 from rfl]
 go_wp2_with fail
 refine(psetroot_gives hp10 1 ⟨by decide,by decide⟩).mono ?_
 rintro e w11 ⟨rfl,hp11,_⟩
 replace hp11:PaIs w K p v6 stR st01 true (.slice none 0 0) w11:=hp11
 clear hp10
 -- Commit: 160
 go_wp2_with fail
 refine(pcommit_gives hp11 hK (by omega) (by omega) (by rw[hKP];decide)).mono ?_
 rintro e w12 ⟨x7,v7,last',under',mk',rfl,hp12,hC7,hq7,_,_⟩
 have hD6:∀q:Nat,1<=q->q<4->(v6.D (q:Int)).isSome=true:=fun q h1 h2=>by
  rw[d6,d5,d4,d3,d2,d1]
  rcases(show q=1∨q=2∨q=3 by omega) with rfl|rfl|rfl<;>rfl
 have hv0:v6.view K 0=headPB st01:=by
  rw[PgV.view_eq]
  have e0:v6.D ((0:Nat):Int)=none:=by
   rw[d6,d5,d4,d3,d2,d1,d0]
   rfl
  rw[e0,y6,y5,y4,y3,y2,y1]
  exact y0
 have hx7:x7=160:=by
  rcases hC7.why (fun e=>absurd (congrArg PgSt.size e) (by decide)) with h1|⟨u,h1,_,_,h4,h5,h6⟩
  ·exact h1
  ·have hu:=h4 (by rw[hv0];exact head_ne)
   have hc:cntD K.P u.D=4:=by
    rw[hKP]
    refine cntD_all fun q hq => ?_
    rw[hu]
    show (if (q:Int)=0 then some (headPB stR) else v6.D (q:Int)).isSome=true
    by_cases e:(q:Int)=0
    ·rw[if_pos e];rfl
    ·rw[if_neg e];exact hD6 q (by omega) hq
   rcases h6.dirty hK (by rw[hc];decide) ⟨by decide,by rw[hKg];decide⟩ with h7|h7
   ·have:=h7.1
    rw[hc,hKf] at this
    exact absurd this (by decide)
   ·exact h7.2
 subst hx7
 obtain⟨rfl,rfl,rfl⟩:last'=st01/\under'=true/\mk' = .slice none 0 0:=by
  rcases hq7 with⟨h1,_⟩|⟨_,h2⟩
  ·exact absurd h1 (by decide)
  ·exact h2
 clear hp11 hC7 hq7 hD6 hv0
 have HR:=prollback_gives hp12
 go_wp2_with (first
  | (go_at_call 10;refine(num9_gives _ _).mono ?_;rintro e w' ⟨rfl,rfl⟩)
  | (go_at_call 18;refine HR.mono ?_;rintro e w13 ⟨v8,rfl,hp13,_,_,_,_,_,_,_⟩;have HS:=psize_gives hp13)
  | (revert HS;intro HS;go_at_call 20;refine HS.mono ?_;rintro e w' ⟨rfl,rfl⟩))
 go_ret
 exact⟨rfl,hp13.ca.cs.fh.up⟩
section
variable {W0 W W':World}{K:PgK}{p:Nat}{v v':PgV}{st last st' last':PgSt}{under:Bool}{mk mk':Value}{ms:List MkT}
theorem PaIs.notTyP (h:PaIs W0 K p v st last under mk W){k:Nat}{T:TypeId}{cs:Array Value}(hb:BlkIs W k T cs)(h1:T≠70)(h2:T≠104)(h3:T≠118)(h4:T≠126)(h5:T≠55):¬ pgMu K p v k:=fun hk=>by
 rcases hk with rfl|hk
 ·exact BlkIs.ne_type hb h.pb h5 rfl
 ·exact h.ca.notTyK hb h1 h2 h3 h4 hk
theorem MksIs.turnP (h:MksIs W0 K v ms mk W)(hp:PaIs W0 K p v st last under mk' W)(hG:GrowBut (pgMu K p v) W W')(hN:Names K W v v'):MksIs W0 K v' ms mk W' :=
 ⟨h.row.keep hG (fun k hk=>by
  rintro(e|e)
  ·subst e
   exact(h.row.blk k hk).1.notTy hp.pb (by decide)
  ·exact hp.ca.notMk (h.row.blk k hk).1 e),fun x hx=>by
  obtain⟨h1,h2,h3⟩:=h.maps x hx
  refine⟨h1.keepS hG hp.sms (fun e => ?_),fun e => ?_,h3⟩
  ·rcases e with e|e
   ·obtain⟨es,co,f,h4,_⟩:=h1.has
    rw[e] at h4
    exact h4.notBlk hp.pb rfl
   ·exact h2 e
  ·rcases hN _ e with e|e
   ·exact h2 e
   ·have:=h1.lt
    omega⟩
structure HoldA (W0:World)(K:PgK)(p:Nat)(v:PgV)(st last:PgSt)(ms:List MkT)(mk:Value)(hl ll:List Bool)(bs:List (List Bool))(hv lv mv:Value)(k:Nat)(W:World):Prop where
 pa:PaIs W0 K p v st last true mk W
 mks:MksIs W0 K v ms mk W
 hb:BsAt W0.heap.size W hv hl
 lb:BsAt W0.heap.size W lv ll
 mb:BmAt W0.heap.size W mv bs
 hn:hl.length=K.P
 ln:ll.length=K.P
 bn:∀l∈bs,l.length=K.P
 sn:Snap K.pg st.size st.first st.many (v.view K) (hF hl)
 sl:Snap K.pg last.size last.first last.many (v.Y K) (hF ll)
 ml:ms.length=bs.length
 sm:∀(i:Nat) (m:MkT) (l:List Bool),ms[i]? = some m->bs[i]? = some l->Snap K.pg m.s.size m.s.first m.s.many (fun q=>(m.D (q:Int)).getD (v.Y K q)) (hF l)
 nn:v.N<=500*k+10
 ii:v.i<=2*k+10
 mn:ms.length<=k
variable {hl ll:List Bool}{bs:List (List Bool)}{hv lv mv hv' lv' mv':Value}{k:Nat}
theorem HoldA.rows {Mu:Nat->Prop}(h:HoldA W0 K p v st last ms mk hl ll bs hv lv mv k W)(hG:GrowBut Mu W W')(hMu:∀k,Mu k->pgMu K p v k∨mkMu mk k):BsAt W0.heap.size W' hv hl/\BsAt W0.heap.size W' lv ll/\BmAt W0.heap.size W' mv bs:=by
 have h1:∀k cs,BlkIs W k 4 cs->¬ Mu k:=fun k cs hb hm=>(hMu k hm).elim (h.pa.notTyP hb (by decide) (by decide) (by decide) (by decide) (by decide)) (fun e=>(h.mks.row.blk k e).1.notTy hb (by decide))
 have h2:∀k cs,BlkIs W k 39 cs->¬ Mu k:=fun k cs hb hm=>(hMu k hm).elim (h.pa.notTyP hb (by decide) (by decide) (by decide) (by decide) (by decide)) (fun e=>by
  obtain⟨A,c,e1,_,_,_,hA⟩:=h.mks.row.has
  obtain⟨o,n,c',e2⟩:=e
  rw[e2] at e1
  injection e1 with e1 _ _
  obtain⟨g,cur,e3,_,hb2,_⟩:=hA _ e1.symm
  injection e3 with e3
  subst e3
  exact BlkIs.ne_type hb hb2 (by decide) rfl)
 exact⟨h.hb.keep hG h1,h.lb.keep hG h1,h.mb.keep hG h1 h2⟩
theorem HoldA.more (h:HoldA W0 K p v st last ms mk hl ll bs hv lv mv k W){j:Nat}(hj:k<=j):HoldA W0 K p v st last ms mk hl ll bs hv lv mv j W :=
 ⟨h.pa,h.mks,h.hb,h.lb,h.mb,h.hn,h.ln,h.bn,h.sn,h.sl,h.ml,h.sm,by have:=h.nn;omega,by have:=h.ii;omega,by have:=h.mn;omega⟩
theorem HoldA.sizes (h:HoldA W0 K p v st last ms mk hl ll bs hv lv mv k W)(hK:K.Ok):(1<=st.size/\st.size<=(K.P:Int))/\(0<=st.first/\st.first<(K.P:Int))/\(0<=st.many/\st.many<=1000):=by
 have:=h.sn.sizes
 have:=hK.hP
 have:=hK.P2
 omega
theorem HoldA.count (h:HoldA W0 K p v st last ms mk hl ll bs hv lv mv k W)(hK:K.Ok):(cntB hl:Int)=st.size - 1 - st.many:=by
 have h1:=h.sn.count (P:=K.P) (by have:=hK.hP;omega)
 rw[cntB_is,h.hn]
 exact h1
theorem hF_at {l:List Bool}{n:Nat}{b:Bool}(h:l[n]? = some b):hF l (n:Int)=b:=by
 unfold hF
 rw[if_pos (by omega),List.getD_eq_getElem?_getD]
 simp[h]
theorem hF_false {l:List Bool}{n:Nat}(hn:n<l.length)(h:hF l (n:Int)=false):l[n]? = some false:=by
 unfold hF at h
 rw[if_pos (by omega),List.getD_eq_getElem?_getD] at h
 rw[zI hn]
 simpa[hn] using h
theorem HoldA.made (h:HoldA W0 K p v st last ms mk hl ll bs hv lv mv k W)(hK:K.Ok){n x:Int}(hp:PaIs W0 K p v' st' last true mk W')(hF':MkF K v v' st st' n x)(hN:Names K W v v')(hG:GrowBut (pgMu K p v) W W') :
  (x≠0->HoldA W0 K p v' st' last ms mk hl ll bs hv lv mv (k+1) W')/\(x=0->∃j:Nat,n=(j:Int)/\1<=j/\j<K.P/\hl[j]? = some false/\∀W9 hv',Below W'.heap.size W' W9->BsAt W0.heap.size W9 hv' (hl.set j true)->HoldA W0 K p v' st' last ms mk (hl.set j true) ll bs hv' lv mv (k+1) W9):=by
 obtain⟨r1,r2,r3⟩:=h.rows hG (fun k hk => .inl hk)
 have hm:=h.mks.turnP h.pa hG hN
 have hsz:=h.sn.sizes
 have hP:=hK.hP
 have hnn:=hF'.nn
 have hii:=hF'.ii
 have h1:=h.nn
 have h2:=h.ii
 have h3:=h.mn
 have hsl:Snap K.pg last.size last.first last.many (v'.Y K) (hF ll):=by rw[hF'.yy];exact h.sl
 have hsm:∀(i:Nat) (m:MkT) (l:List Bool),ms[i]? = some m->bs[i]? = some l->Snap K.pg m.s.size m.s.first m.s.many (fun q=>(m.D (q:Int)).getD (v'.Y K q)) (hF l):=by rw[hF'.yy];exact h.sm
 have hput:∀{n:Int},(v'.D=fun j=>if j=n then some zeroB else v.D j)->∀q:Nat,(q:Int)≠n->v'.view K q=v.view K q:=fun hD q hq=>by
  rw[PgV.view_eq,PgV.view_eq,hF'.yy,hD]
  show (if (q:Int)=_ then some zeroB else v.D (q:Int)).getD _=_
  rw[if_neg hq]
 have key:∀(j:Nat) (s':PgSt),n=(j:Int)->j<hl.length->PaIs W0 K p v' s' last true mk W'->Snap K.pg s'.size s'.first s'.many (v'.view K) (hset (hF hl) (j:Int) true)->∀W9 hv',Below W'.heap.size W' W9->BsAt W0.heap.size W9 hv' (hl.set j true)->HoldA W0 K p v' s' last ms mk (hl.set j true) ll bs hv' lv mv (k+1) W9:=fun j s' hj hjl hp' hs' W9 hv' hB hb9 =>
  ⟨hp'.grow hB,hm.grow hB,hb9,r2.grow hB,r3.grow hB,by rw[List.length_set];exact h.hn,h.ln,h.bn,by rw[hF_set hjl];exact hs',hsl,h.ml,hsm,by omega,by omega,by omega⟩
 rcases hF'.dd with⟨d1,d2,d3,d4,d5,d6⟩|⟨d1,d2,d3,d4,d5⟩|⟨d1,d2,d3,d4,_⟩
 ·refine⟨fun hx=>absurd d1 hx,fun _=>⟨st.size.toNat,by omega,by omega,by omega,?_,?_⟩⟩
  ·have:=(h.sn.new d4 (hput (n:=st.size) (by rw[d6,d3]))).2
   refine hF_false (by rw[h.hn];omega) ?_
   rw[show ((st.size.toNat:Nat):Int)=st.size by omega]
   exact this
  ·refine key st.size.toNat st' (by omega) (by rw[h.hn];omega) hp ?_
   rw[show ((st.size.toNat:Nat):Int)=st.size by omega,d5]
   exact(h.sn.new d4 (hput (n:=st.size) (by rw[d6,d3]))).1
 ·have ht:=h.sn.take d2 (hput (n:=st.first) (by rw[d5,d3]))
  refine⟨fun hx=>absurd d1 hx,fun _=>⟨st.first.toNat,by omega,by omega,by omega,?_,?_⟩⟩
  ·refine hF_false (by rw[h.hn];omega) ?_
   rw[show ((st.first.toNat:Nat):Int)=st.first by omega]
   exact ht.2.1
  ·refine key st.first.toNat st' (by omega) (by rw[h.hn];omega) hp ?_
   rw[show ((st.first.toNat:Nat):Int)=st.first by omega,d4]
   exact ht.1
 ·refine⟨fun _ => ?_,fun hx=>absurd hx d1⟩
  refine⟨hp,hm,r1,r2,r3,h.hn,h.ln,h.bn,?_,hsl,h.ml,hsm,by omega,by omega,by omega⟩
  rw[d3]
  refine h.sn.congr fun q _ _ => ?_
  rw[PgV.view_eq,PgV.view_eq,hF'.yy,d4]
theorem HoldA.mayFree (h:HoldA W0 K p v st last ms mk hl ll bs hv lv mv k W)(hK:K.Ok){j:Nat}(hj:hl[j]? = some true):(1<=(j:Int)/\(j:Int)<st.size)/\(j:Int)<(K.P:Int):=by
 have h1:=h.sn.rng (hF_at hj)
 have h2:=h.sn.sizes
 have:=hK.hP
 omega
theorem HoldA.freed (h:HoldA W0 K p v st last ms mk hl ll bs hv lv mv k W)(hK:K.Ok){j:Nat}{x:Int}(hj:hl[j]? = some true)(hp:PaIs W0 K p v' (if x=0 then { st with first:=(j:Int),many:=st.many+1 } else st) last true mk W')(hF':WrF K v v' (j:Int) (linkB st.first) x)(hN:Names K W v v')(hG:GrowBut (pgMu K p v) W W') :
  (x≠0->HoldA W0 K p v' st last ms mk hl ll bs hv lv mv (k+1) W')/\(x=0->∀W9 hv',Below W'.heap.size W' W9->BsAt W0.heap.size W9 hv' (hl.set j false)->HoldA W0 K p v' { st with first:=(j:Int),many:=st.many+1 } last ms mk (hl.set j false) ll bs hv' lv mv (k+1) W9):=by
 obtain⟨r1,r2,r3⟩:=h.rows hG (fun k hk => .inl hk)
 have hm:=h.mks.turnP h.pa hG hN
 have hsz:=h.sn.sizes
 have hP:=hK.hP
 have hP2:=hK.P2
 have hnn:=hF'.nn
 have hii:=hF'.ii
 have h1:=h.nn
 have h2:=h.ii
 have h3:=h.mn
 have hjl:=(zT.1 hj).1
 have hsl:Snap K.pg last.size last.first last.many (v'.Y K) (hF ll):=by rw[hF'.yy];exact h.sl
 have hsm:∀(i:Nat) (m:MkT) (l:List Bool),ms[i]? = some m->bs[i]? = some l->Snap K.pg m.s.size m.s.first m.s.many (fun q=>(m.D (q:Int)).getD (v'.Y K q)) (hF l):=by rw[hF'.yy];exact h.sm
 rcases hF'.dd with⟨d1,d2⟩|⟨d1,_,d3⟩
 ·refine⟨fun hx=>absurd d1 hx,fun _ W9 hv' hB hb9 => ?_⟩
  rw[if_pos d1] at hp
  refine⟨hp.grow hB,hm.grow hB,hb9,r2.grow hB,r3.grow hB,by rw[List.length_set];exact h.hn,h.ln,h.bn,?_,hsl,h.ml,hsm,by omega,by omega,by omega⟩
  rw[hF_set hjl]
  refine h.sn.put (hF_at hj) ?_ (fun q hq => ?_)
  ·unfold nxV
   rw[show ((j:Int)).toNat=j from rfl,PgV.view_eq,d2]
   show (rfix (List.take 4 ((if (j:Int)=(j:Int) then some (linkB st.first) else v.D (j:Int)).getD _)):Int)=_
   rw[if_pos rfl]
   exact linkB_next (by omega)
  ·rw[PgV.view_eq,PgV.view_eq,hF'.yy,d2]
   show (if (q:Int)=_ then some (linkB st.first) else v.D (q:Int)).getD _=_
   rw[if_neg hq]
 ·refine⟨fun hx => ?_,fun hx=>by omega⟩
  rw[if_neg hx] at hp
  refine⟨hp,hm,r1,r2,r3,h.hn,h.ln,h.bn,?_,hsl,h.ml,hsm,by omega,by omega,by omega⟩
  refine h.sn.congr fun q _ _ => ?_
  rw[PgV.view_eq,PgV.view_eq,hF'.yy,d3]
theorem HoldA.marked (h:HoldA W0 K p v st last ms mk hl ll bs hv lv mv k W){M:Nat}(hp:PaIs W0 K p v st last true mk' W')(hM:MksIs W0 K v (ms++[⟨st,M,v.D⟩]) mk' W')(hG:GrowBut (fun k=>k=p∨mkMu mk k) W W') :
  BsAt W0.heap.size W' hv hl/\BmAt W0.heap.size W' mv bs/\∀W8 W9 mv',Below W'.heap.size W' W8->GrowBut (mkMu mv) W8 W9->BmAt W0.heap.size W9 mv' (bs++[hl])->HoldA W0 K p v st last (ms++[⟨st,M,v.D⟩]) mk' hl ll (bs++[hl]) hv lv mv' (k+1) W9:=by
 obtain⟨r1,r2,r3⟩:=h.rows hG (fun k hk=>hk.elim (fun e => .inl (.inl e)) .inr)
 have h1:=h.nn
 have h2:=h.ii
 have h3:=h.mn
 refine⟨r1,r3,fun W8 W9 mv' hB8 hG9 hb9 => ?_⟩
 have hp8:=hp.grow hB8
 have hM8:=hM.grow hB8
 have hrow:=(r3.grow hB8).blk
 have hMk:∀k,mkMu mv k->MkBlk W8 k:=fun k hk=>(hrow k hk).1.1
 have hnb:∀k cs,BlkIs W8 k 4 cs->¬ mkMu mv k:=fun k cs hb hk=>by
  obtain⟨⟨_,cs2,hb2⟩,_⟩:=hrow k hk
  exact BlkIs.ne_type hb hb2 (by decide) rfl
 have hM9:MksIs W0 K v (ms++[⟨st,M,v.D⟩]) mk' W9:=⟨hM8.row.keep hG9 (fun k hk hk2=>by
  obtain⟨A,c,e1,_,_,_,hA⟩:=hM8.row.has
  obtain⟨o,n,c',e2⟩:=hk
  rw[e2] at e1
  injection e1 with e1 _ _
  obtain⟨g,cur,e3,_,hb2,_⟩:=hA _ e1.symm
  injection e3 with e3
  subst e3
  obtain⟨⟨_,cs2,hb3⟩,_⟩:=hrow _ hk2
  exact BlkIs.ne_type hb2 hb3 (by decide) rfl),fun x hx=>⟨(hM8.maps x hx).1.keepM hG9 hMk,(hM8.maps x hx).2⟩⟩
 refine⟨hp8.keepM hG9 hMk (fun k hk=>(hrow k hk).2),hM9,(r1.grow hB8).keep hG9 hnb,(r2.grow hB8).keep hG9 hnb,hb9,h.hn,h.ln,fun l hl => ?_,h.sn,h.sl,by simp[h.ml],fun i m l hi hl => ?_,by omega,by omega,by simp;omega⟩
 ·rcases qF.1 hl with hl|hl
  ·exact h.bn l hl
  ·rw[List.mem_singleton] at hl
   rw[hl]
   exact h.hn
 ·have hml:=h.ml
  by_cases hi2:i<ms.length
  ·rw[List.getElem?_append_left hi2] at hi
   rw[List.getElem?_append_left (by omega)] at hl
   exact h.sm i m l hi hl
  ·rw[zZ (by omega)] at hi
   rw[zZ (by omega)] at hl
   have e:i - ms.length=0:=by
    have:=(zT.1 hi).1
    simp at this
    omega
   rw[e] at hi
   rw[show i - bs.length=0 by omega] at hl
   injection hi with hi
   injection hl with hl
   subst hi hl
   exact h.sn.congr fun q _ _=>by rw[PgV.view_eq]
theorem HoldA.back (h:HoldA W0 K p v st last ms mk hl ll bs hv lv mv k W)(hK:K.Ok){n:Nat}{m:MkT}{l:List Bool}(hm:ms[n]? = some m)(hl':bs[n]? = some l){e:Ending}(hO:BkOut W0 K p v last ms n m W e W') :
  e = .returned (.int .i64 0)/\BmAt W0.heap.size W' mv bs/\∃v' mk',∀W9 hv' mv',Below W'.heap.size W' W9->BsAt W0.heap.size W9 hv' l->BmAt W0.heap.size W9 mv' (bs.take n)->HoldA W0 K p v' m.s last (ms.take n) mk' l ll (bs.take n) hv' lv mv' (k+1) W9:=by
 obtain⟨v',mk',rfl,hp,hM,hF',hN,hG⟩:=hO
 obtain⟨r1,r2,r3⟩:=h.rows hG (fun k hk => .inl hk)
 have h1:=h.nn
 have h2:=h.ii
 have h3:=h.mn
 have hP2:=hK.P2
 have hnn:=hF'.nn
 have hii:=hF'.ii
 refine⟨rfl,r3,v',mk',fun W9 hv' mv' hB hb9 hm9 => ?_⟩
 refine⟨hp.grow hB,hM.grow hB,hb9,r2.grow hB,hm9,h.bn l (List.mem_of_getElem? hl'),h.ln,fun l hl=>h.bn l (List.mem_of_mem_take hl),?_,by rw[hF'.yy];exact h.sl,by rw[List.length_take,List.length_take,h.ml],fun i m2 l2 hi hl => ?_,by omega,by omega,by rw[List.length_take];omega⟩
 ·refine(h.sm n m l hm hl').congr fun q _ _ => ?_
  rw[PgV.view_eq,hF'.yy,hF'.dd]
 ·rw[hF'.yy]
  have hi3:i<n:=by
   have:=(zT.1 hi).1
   rw[List.length_take] at this
   omega
  rw[List.getElem?_take_of_lt hi3] at hi hl
  exact h.sm i m2 l2 hi hl
theorem HoldA.refused (h:HoldA W0 K p v st last ms mk hl ll bs hv lv mv k W)(hK:K.Ok){x:Int}(hx:x≠0)(hp:PaIs W0 K p v' st last true mk W')(hF':PcF K v v' st last x)(hN:Names K W v v')(hG:GrowBut (pgMu K p v) W W') :
  HoldA W0 K p v' st last ms mk hl ll bs hv lv mv (k+1) W':=by
 obtain⟨r1,r2,r3⟩:=h.rows hG (fun k hk => .inl hk)
 have hP:=hK.hP
 have hsz:=h.sn.sizes
 have hzl:=h.sl.sizes
 have h1:=h.nn
 have h2:=h.ii
 have h3:=h.mn
 have hnn:=hF'.nn
 have hii:=hF'.ii
 rcases hF'.dd with⟨d1,_⟩|⟨_,d2,d3,d4⟩
 ·exact absurd d1 hx
 refine⟨hp,h.mks.turnP h.pa hG hN,r1,r2,r3,h.hn,h.ln,h.bn,h.sn.congr fun q hq hq2 => ?_,h.sl.congr fun q hq hq2=>d3 q (by omega),h.ml,fun i m l hi hl=>(h.sm i m l hi hl).congr fun q hq hq2 => ?_,by omega,by omega,by omega⟩
 ·rw[PgV.view_eq,PgV.view_eq,d3 q (by omega),d4 (q:Int) (by omega)]
 ·have:=(h.sm i m l hi hl).sizes
  show (m.D (q:Int)).getD (v'.Y K q)=(m.D (q:Int)).getD (v.Y K q)
  rw[d3 q (by omega)]
theorem HoldA.committed (h:HoldA W0 K p v st last ms mk hl ll bs hv lv mv k W)(hK:K.Ok)(hp:PaIs W0 K p v' st st false (.slice none 0 0) W')(hF':PcF K v v' st last 0)(hG:GrowBut (pgMu K p v) W W'){W9:World}(hp9:PaIs W0 K p v' st st true (.slice none 0 0) W9)(hG9:GrowBut (fun k=>k=p) W' W9) :
  HoldA W0 K p v' st st [] (.slice none 0 0) hl hl [] hv hv (.slice none 0 0) (k+1) W9:=by
 obtain⟨r1,r2,r3⟩:=h.rows hG (fun k hk => .inl hk)
 have r4:BsAt W0.heap.size W9 hv hl:=r1.keep hG9 (fun k cs hb e=>by subst e;exact BlkIs.ne_type hb hp.pb (by decide) rfl)
 have hP:=hK.hP
 have hsz:=h.sn.sizes
 have h1:=h.nn
 have h2:=h.ii
 have hnn:=hF'.nn
 have hii:=hF'.ii
 rcases hF'.dd with⟨_,d2,d3,d4⟩|⟨d1,_⟩
 ·have hs:Snap K.pg st.size st.first st.many (v'.Y K) (hF hl):=h.sn.congr fun q hq hq2=>d3 q hq (by omega)
  refine⟨hp9,MksIs.nil _ _ _ _,r4,r4,BmAt.nil _ _,h.hn,h.hn,(fun l hl=>by cases hl),hs.congr fun q hq hq2 => ?_,hs,rfl,(fun i m l hi hl=>by simp at hi),by omega,by omega,by simp⟩
  rw[PgV.view_eq,d4]
  rfl
 ·exact absurd rfl d1
theorem HoldA.rolled (h:HoldA W0 K p v st last ms mk hl ll bs hv lv mv k W)(hp:PaIs W0 K p v' last last false (.slice none 0 0) W')(h1:v'.N=v.N)(h2:v'.i=v.i)(h3:v'.Y K=v.Y K)(h5:v'.D=fun _=>none)(hG:GrowBut (pgMu K p v) W W'){W9:World}(hp9:PaIs W0 K p v' last last true (.slice none 0 0) W9)(hG9:GrowBut (fun k=>k=p) W' W9) :
  HoldA W0 K p v' last last [] (.slice none 0 0) ll ll [] lv lv (.slice none 0 0) (k+1) W9:=by
 obtain⟨r1,r2,r3⟩:=h.rows hG (fun k hk => .inl hk)
 have r4:BsAt W0.heap.size W9 lv ll:=r2.keep hG9 (fun k cs hb e=>by subst e;exact BlkIs.ne_type hb hp.pb (by decide) rfl)
 have hn:=h.nn
 have hi:=h.ii
 have hs:Snap K.pg last.size last.first last.many (v'.Y K) (hF ll):=by rw[h3];exact h.sl
 refine⟨hp9,MksIs.nil _ _ _ _,r4,r4,BmAt.nil _ _,h.ln,h.ln,(fun l hl=>by cases hl),hs.congr fun q hq hq2 => ?_,hs,rfl,(fun i m l hi hl=>by simp at hi),by omega,by omega,by simp⟩
 rw[PgV.view_eq,h5]
 rfl
end
theorem tmod7 (b:Nat):Int.tmod (b:Int) 7=0∨Int.tmod (b:Int) 7=1∨Int.tmod (b:Int) 7=2∨Int.tmod (b:Int) 7=3∨Int.tmod (b:Int) 7=4∨Int.tmod (b:Int) 7=5∨Int.tmod (b:Int) 7=6:=by
 have h:Int.tmod (b:Int) 7=((b % 7:Nat):Int):=by rw[show (7:Int)=((7:Nat):Int) from rfl,Int.ofNat_tmod]
 rw[h]
 omega
theorem tdivP (b P:Nat)(hP:1<=P):∃j:Nat,j<P/\Int.tdiv (b:Int) 7 % 256 % (P:Int)=(j:Int):=by
 have h:Int.tdiv (b:Int) 7=((b / 7:Nat):Int):=by rw[show (7:Int)=((7:Nat):Int) from rfl,Int.ofNat_tdiv]
 exact⟨(b / 7) % 256 % P,Nat.mod_lt _ (by omega),by rw[h,Int.natCast_emod,Int.natCast_emod];rfl⟩
theorem x_cutBm {ρ:Operand->Value}{w:World}{o:Oper}{x z:Operand}{g n c k:Nat}(ho:o.op = .slice 40 x none (some z) none)(h1:ρ x = .slice (some ⟨g,0,none⟩) n c)(h3:ρ z = .int .i64 (k:Int))(hn:k<=c) :
  (execOp ρ o).run Tryz.prog w = .ok (.value (.slice (some ⟨g,0,none⟩) k c)) w:=by
 have ht:Tryz.prog.underlying 40=some (.slice (Tryz.prog.elem 40)):=by kernel_rfl
 have hbi:(k:Int)<=(c:Int):=by omega
 simp[execOp,ho,h1,h3,go_sem,run_sliceAt_slice _ _ _ _ _ _ ht,Result.andThen,hbi]
def HoldX (W0:World)(K:PgK)(p k:Nat)(hv lv mv:Value)(W:World):Prop:=∃v st last ms mk hl ll bs,HoldA W0 K p v st last ms mk hl ll bs hv lv mv k W
section
variable {W0 W W':World}{K:PgK}{p:Nat}{v v':PgV}{st last:PgSt}{mk mk':Value}{ms:List MkT}{hl ll:List Bool}{bs:List (List Bool)}{hv lv mv:Value}{k:Nat}
theorem HoldA.x (h:HoldA W0 K p v st last ms mk hl ll bs hv lv mv k W):HoldX W0 K p k hv lv mv W:=⟨_,_,_,_,_,_,_,_,h⟩
theorem HoldA.tail (h:HoldA W0 K p v st last ms mk hl ll bs hv lv mv k W)(hK:K.Ok):∃(A:Option Addr) (c n cB:Nat) (sz mn:Int),hv = .slice A n c/\(Calls Tryz.prog 19 #[.slice A n c] W fun e w'=>e = .returned (.int .i64 (cB:Int))/\W=w')/\(Calls Tryz.prog 20 #[.pointer (some ⟨p,0,none⟩)] W fun e w'=>e = .returned (.int .i64 sz)/\W=w')/\(Calls Tryz.prog 21 #[.pointer (some ⟨p,0,none⟩)] W fun e w'=>e = .returned (.int .i64 mn)/\W=w')/\IntKind.i64.wrap (sz - 1)=sz - 1/\IntKind.i64.wrap (sz - 1 - mn)=(cB:Int):=by
 obtain⟨A,c,e,hin⟩:=h.hb.inG
 have hP2:=hK.P2
 have hs:=h.sizes hK
 have hc:=h.count hK
 refine⟨A,c,hl.length,cntB hl,st.size,st.many,e,count9_gives W hl A c hin (by rw[h.hn];omega),psize_gives h.pa,pspare_gives h.pa,wrap_i64_fr _ (by omega) (by omega),?_⟩
 rw[<-hc]
 exact wrap_i64_fr _ (by omega) (by omega)
theorem HoldA.thenX {hl':List Bool}{w2:World}(hup:W0.heap.size<=w2.heap.size)(hK:K.Ok)(hnext:∀W9 hv',Below w2.heap.size w2 W9->BsAt W0.heap.size W9 hv' hl'->HoldA W0 K p v st last ms mk hl' ll bs hv' lv mv k W9) :
  ∀w9 v9,BsAt w2.heap.size w9 v9 hl'->Below w2.heap.size w2 w9->HoldX W0 K p k v9 lv mv w9/\∃(A:Option Addr) (c n cB:Nat) (sz mn:Int),v9 = .slice A n c/\(Calls Tryz.prog 19 #[.slice A n c] w9 fun e w'=>e = .returned (.int .i64 (cB:Int))/\w9=w')/\(Calls Tryz.prog 20 #[.pointer (some ⟨p,0,none⟩)] w9 fun e w'=>e = .returned (.int .i64 sz)/\w9=w')/\(Calls Tryz.prog 21 #[.pointer (some ⟨p,0,none⟩)] w9 fun e w'=>e = .returned (.int .i64 mn)/\w9=w')/\IntKind.i64.wrap (sz - 1)=sz - 1/\IntKind.i64.wrap (sz - 1 - mn)=(cB:Int):=fun w9 v9 hb9 hB9=>by
 have hA:=hnext w9 v9 hB9 (ownG_base hb9 hup)
 exact⟨hA.x,hA.tail hK⟩
end
theorem lawPH_walk (w:World)(pages room:Int)(A:Option Addr)(c:Nat)(l:List UInt8)(hin:InB w w.heap.size A c l) :
  Calls Tryz.prog 3 #[.int .i64 pages,.int .i64 room,.slice A l.length c] w fun e w'=>e = .returned (.bool true)/\Below w.heap.size w w':=by
 go_enter Tryz.func3,Tryz.ntmps3
 by_cases g1:pages<1
 ·go_wp2_with (go_at_call 5;refine(works9_gives _).mono ?_;rintro e w9 ⟨rfl,hB9⟩)
  go_ret
  exact⟨rfl,hB9⟩
 ·by_cases g2:30<pages
  ·go_wp2_with (go_at_call 5;refine(works9_gives _).mono ?_;rintro e w9 ⟨rfl,hB9⟩)
   go_ret
   exact⟨rfl,hB9⟩
  ·by_cases g3:room<2
   ·go_wp2_with (go_at_call 5;refine(works9_gives _).mono ?_;rintro e w9 ⟨rfl,hB9⟩)
    go_ret
    exact⟨rfl,hB9⟩
   ·by_cases g4:60<room
    ·go_wp2_with (go_at_call 5;refine(works9_gives _).mono ?_;rintro e w9 ⟨rfl,hB9⟩)
     go_ret
     exact⟨rfl,hB9⟩
    ·by_cases g5:60<(l.length:Int)
     ·go_wp2_with (go_at_call 5;refine(works9_gives _).mono ?_;rintro e w9 ⟨rfl,hB9⟩)
      go_ret
      exact⟨rfl,hB9⟩
     ·obtain⟨P,rfl⟩:∃P:Nat,pages=(P:Int):=⟨pages.toNat,by omega⟩
      obtain⟨q,hq⟩:∃q:Nat,(q:Int)=2+9*60+8*(P:Int):=⟨542+8*P,by omega⟩
      have hpl:planOk 60 (P:Int)=true:=(planOk_iff 60 (P:Int)).2 ⟨by omega,by omega⟩
      have hP30:P<=30:=by omega
      have hP1:1<=P:=by omega
      have hl60:l.length<=60:=by omega
      have hne:¬ (P:Int)=0:=by omega
      have hroom:2<=room/\room<=2000:=by omega
      have hr1:2<=room:=by omega
      have hr2:room<=60:=by omega
      have HSec:∀W,Calls Tryz.prog 7 #[.agg #[.int .i64 60,.int .i64 (P:Int)]] W fun e w'=>e = .returned (.int .i64 (q:Int))/\Below W.heap.size W w':=fun W=>by rw[hq];exact refSectors_gives 60 (P:Int) W (by omega) (by omega)
      have HND:∀W,Calls Tryz.prog 6 #[.int .i64 (q:Int)] W fun e w'=>∃p,e = .returned (.tuple #[.pointer (some ⟨p,0,none⟩),.int .i64 0])/\W.heap.size<=p/\DkIs w' p q (fun _=>zer64) [] 0 false/\Below W.heap.size W w':=fun W=>new_gives W q (by omega) (by omega)
      have HPL:=Lib.hid hpl
      have HQ:=Lib.hid hq
      clear hpl hq
      go_wp2_with (first
       | (refine wp_storeBox rfl 25 (.tmp 7) (.tmp 45) rfl rfl rfl rowPlan rfl (by rfl) (fun u hu=>by simp at hu;rcases hu with rfl|rfl<;>rfl) ?_;intro w1 hB1 b1)
       | (refine wp_loadW rfl 25 (.tmp 7) rfl w.heap.size rfl rowPlan (by first|exact b3|exact b1) rfl ?_)
       | (go_at_call 7;refine(HSec _).mono ?_;rintro e w2 ⟨rfl,hB2⟩)
       | (go_at_call 6;refine(HND _).mono ?_;rintro e w3 ⟨d,rfl,hd,hD,hB23⟩;have hB3:=hB2.trans (hB23.mono hB2.size);have b3:=b1.below hB3 b1.lt)
       | (go_at_call 8;refine(fopen_new2 (W0:=w1) w3 d q 60 (P:Int) hB3 (zO hB2.size hd) hD HPL.out HQ.out (by have:=HQ.out;omega)).mono ?_;rintro e w4 ⟨f,lg,rfl,hF4,hf4,hl4⟩)
       | (go_at_call 9;refine(popen_new (P:=P) (room:=room) hF4 HPL.out HQ.out (by have:=HQ.out;omega) rfl (by omega)).mono ?_;intro e w5 hO;obtain⟨_,p,a,r,v0,rfl,hp5,n0,i0,s0,d0,y0⟩:=hO.resolve_right (fun h=>h.1 hroom);obtain⟨K,hKe⟩:∃K:PgK,K=⟨d,f,lg,a,r,q,P,60,(P:Int),room⟩:=⟨_,rfl⟩;rw[<-hKe] at hp5 y0)
       | (go_at_call 10;refine(num9_gives _ _).mono ?_;rintro e z9 ⟨rfl,rfl⟩)
       | (go_at_call 11;refine(pbegin_gives hp5).mono ?_;rintro e w6 ⟨rfl,hp6,_⟩))
      have hK:K.Ok:=by rw[hKe];exact⟨HPL.out,HQ.out,by show q<=100000;have:=HQ.out;omega,rfl,by show P<=200;omega,hroom⟩
      have hKP:K.P=P:=by rw[hKe]
      have hKg:K.pg=(P:Int):=by rw[hKe]
      have hKr:K.room=room:=by rw[hKe]
      have hup6:=hp6.ca.cs.fh.up
      have hB01:Below w.heap.size w w1:=hB1
      have h0:∀W,Below w1.heap.size w1 W->Below w.heap.size w W:=fun W h=>hB01.trans (h.mono hB01.size)
      have hs6:=hup6.size
      have HK:=Lib.hid hKe
      have HD0:=Lib.hid d0
      clear HND HSec hB2 hD hB23 hB3 hF4 hf4 hl4 hp5 hd b1 b3 hKe hB1 y0 d0 s0
      refine wp_cutA (fun a b W'=>∃va vb,b=(((((a.put (some 77) (.int .i64 (P:Int))).put (some 78) va).put (some 79) (.int .i64 (P:Int))).put (some 80) vb).put (some 14) va).put (some 15) vb/\BsAt w1.heap.size W' va (zN P false)/\BsAt w1.heap.size W' vb (zN P false)/\Below w6.heap.size w6 W') ?_ ?_
      ·obtain⟨x6,hx6⟩:∃x,x=w6.drew:=⟨_,rfl⟩
       have hB6:Below w6.heap.size w6 x6:=by rw[hx6];exact(Below.refl _ _).drew
       have hs7:w1.heap.size<=x6.heap.size:=zO hs6 hB6.size
       obtain⟨Z,hZ⟩:∃Z,Z=((zN P false).map Value.bool).toArray:=⟨_,rfl⟩
       have hBa:Below x6.heap.size x6 (x6.alloc (.cells Z 4)):=(Below.refl _ _).alloc (zG _) _
       have hBb:Below (x6.alloc (.cells Z 4)).heap.size (x6.alloc (.cells Z 4)) ((x6.alloc (.cells Z 4)).alloc (.cells Z 4)):=(Below.refl _ _).alloc (zG _) _
       have ha:BsAt w1.heap.size (x6.alloc (.cells Z 4)) (.slice (some ⟨x6.heap.size,0,none⟩) P P) (zN P false):=by rw[hZ];exact bsAt_made x6 P hs7 (by omega)
       have hb:BsAt w1.heap.size ((x6.alloc (.cells Z 4)).alloc (.cells Z 4)) (.slice (some ⟨(x6.alloc (.cells Z 4)).heap.size,0,none⟩) P P) (zN P false):=by have h8:=zO hs7 hBa.size;rw[hZ] at h8 ⊢;exact bsAt_made (x6.alloc _) P h8 (by omega)
       have hBe:Below w6.heap.size w6 ((x6.alloc (.cells Z 4)).alloc (.cells Z 4)):=hB6.trans ((hBa.trans (hBb.mono hBa.size)).mono hB6.size)
       have HMk:∀{ρ:Operand->Value} {o:Oper} {W:World} {x y:Operand},o.op = .makeSlice 39 x y->ρ x = .int .i64 (P:Int)->ρ y = .int .i64 (P:Int)->(execOp ρ o).run Tryz.prog W = .ok (.value (.slice (some ⟨W.heap.size,0,none⟩) P P)) (W.alloc (.cells Z 4)):=fun h1 h2 h3=>by rw[hZ];exact x_makeT h1 h2 h3 (by omega)
       have ha2:=ha.grow hBb
       have ht:True:=trivial
       clear hZ ha
       refine RegF.start (fun _=>True) 99 (by kernel_rfl) ?_
       rw[<-hx6]
       clear hx6
       refine RegF.t0 0 (.int .i64 (P:Int)) rfl ht (fun W hW=>by go_simp) ?_
       simp only[zD,zB,Act.put,zA,zF,zE]
       refine RegF.t0 2 (.int .i64 (P:Int)) rfl ht (fun W hW=>by go_simp) ?_
       simp only[zD,zC,zB,Act.put,zA,zF,zE]
       refine RegF.two 1 3 (by kernel_rfl) ?_ ?_
       ·refine RegF.opV (w':=x6.alloc (.cells Z 4)) (.slice (some ⟨x6.heap.size,0,none⟩) P P) rfl rfl (HMk rfl rfl rfl) ⟨fun _=>ht,?_⟩
        simp only[zD,zC,zB,Act.put,zA,zF,zE]
        refine RegF.t0 4 (.slice (some ⟨x6.heap.size,0,none⟩) P P) rfl ht (fun W hW=>by go_simp) ?_
        simp only[zD,zC,zB,Act.put,zA,zF,zE]
        refine RegF.one 3 (by kernel_rfl) (RegF.opV (w':=(x6.alloc (.cells Z 4)).alloc (.cells Z 4)) (.slice (some ⟨(x6.alloc (.cells Z 4)).heap.size,0,none⟩) P P) rfl rfl (HMk rfl rfl rfl) ⟨fun _=>ht,?_⟩)
        simp only[zD,zC,zB,Act.put,zA,zF,zE]
        refine RegF.one 5 (by kernel_rfl) (RegF.opV (w':=(x6.alloc (.cells Z 4)).alloc (.cells Z 4)) (.slice (some ⟨(x6.alloc (.cells Z 4)).heap.size,0,none⟩) P P) rfl rfl (by go_simp) ⟨fun _=>ht,RegF.done (by kernel_rfl) ?_⟩)
        simp only[zD,zC,zB,Act.put,zA,zF,zE]
        exact⟨_,_,by first|(simp only;done)|rfl,ha2,hb,hBe⟩
       ·refine RegF.opV (w':=x6.alloc (.cells Z 4)) (.slice (some ⟨x6.heap.size,0,none⟩) P P) rfl rfl (HMk rfl rfl rfl) ⟨fun _=>ht,?_⟩
        simp only[zD,zC,zB,Act.put,zA,zF,zE]
        refine RegF.one 1 (by kernel_rfl) (RegF.opV (w':=(x6.alloc (.cells Z 4)).alloc (.cells Z 4)) (.slice (some ⟨(x6.alloc (.cells Z 4)).heap.size,0,none⟩) P P) rfl rfl (HMk rfl rfl rfl) ⟨fun _=>ht,?_⟩)
        simp only[zD,zC,zB,Act.put,zA,zF,zE]
        refine RegF.one 4 (by kernel_rfl) (RegF.opV (w':=(x6.alloc (.cells Z 4)).alloc (.cells Z 4)) (.slice (some ⟨(x6.alloc (.cells Z 4)).heap.size,0,none⟩) P P) rfl rfl (by go_simp) ⟨fun _=>ht,?_⟩)
        simp only[zD,zC,zB,Act.put,zA,zF,zE]
        refine RegF.one 5 (by kernel_rfl) (RegF.opV (w':=(x6.alloc (.cells Z 4)).alloc (.cells Z 4)) (.slice (some ⟨x6.heap.size,0,none⟩) P P) rfl rfl (by go_simp) ⟨fun _=>ht,RegF.done (by kernel_rfl) ?_⟩)
        simp only[zD,zC,zB,Act.put,zA,zF,zE]
        exact⟨_,_,by first|(simp only;done)|rfl,hb,ha2,hBe⟩
      rintro b W7 ⟨va,vb,rfl,hva,hvb,hB7⟩
      simp only[Act.put,zA,zF,zE]
      have hA0:HoldA w1 K p v0 st01 st01 [] (.slice none 0 0) (zN P false) (zN P false) [] va vb (.slice none 0 0) 0 W7:=by
       have hsn:∀V,Snap K.pg st01.size st01.first st01.many V (hF (zN P false)):=fun V=>by rw[hF_none];exact Snap.begin (by rw[hKg];omega)
       exact⟨hp6.grow hB7,MksIs.nil _ _ _ _,hva,hvb,BmAt.nil _ _,by rw[hKP];simp,by rw[hKP];simp,(fun l hl=>by cases hl),hsn _,hsn _,rfl,(fun i m l hi hl=>by simp at hi),by omega,by omega,by simp⟩
      clear hva hvb hB7 hp6 hup6 n0 i0 HD0
      go_wp2
      go_loopw [17,14,15,16] (fun i hv lv mv wr=>∃k:Nat,k<=l.length/\i = .int .i64 (k:Int)/\HoldX w1 K p k hv lv mv wr) (fun i _ _ _ _=>l.length - (intOf i).toNat)
      case atStart=>exact⟨0,Nat.zero_le _,rfl,hA0.x⟩
      case round =>
       clear hA0
       obtain⟨k,hk,rfl,hX⟩:=hrel
       by_cases hlt:k<l.length
       ·obtain⟨gl,ol,rfl,hgl,hcl⟩:=hin.lies (by omega)
        obtain⟨v,st,last,ms,mk,hl,ll,bs,h⟩:=hX
        have hupr:=h.pa.ca.cs.fh.up
        have hwk:IntKind.i64.wrap ((k:Int)+1)=(k:Int)+1:=wrap_i64_fr _ (by omega) (by omega)
        have hklt:(k:Int)<(l.length:Int):=by omega
        have hcb:=((h0 _ hupr).cell (p:=⟨gl,ol+k,none⟩) hgl).trans (hcl k hlt)
        have hmod:=tmod7 (l[k].toNat)
        have hdiv:=tdivP (l[k].toNat) P hP1
        obtain⟨bt,hbt⟩:∃bt:Nat,bt=l[k].toNat:=⟨_,rfl⟩
        rw[<-hbt] at hcb hmod hdiv
        obtain⟨z,hz⟩:∃z:Int,z=(bt:Int):=⟨_,rfl⟩
        rw[<-hz] at hcb hmod hdiv
        obtain⟨Ah,ch,rfl,hinh⟩:=h.hb.inG
        obtain⟨gh,oh,rfl,hgh,hch⟩:=hinh.lies (by have:=h.hn;omega)
        have hnl:hl.length=P:=h.hn.trans hKP
        have hnk:v.N<=700000/\v.i<=800/\ms.length<=60:=by have:=h.nn;have:=h.ii;have:=h.mn;omega
        have hNk:=hnk.1
        have hmsl:=hnk.2.2
        have hbl:bs.length<=60:=by have:=h.ml;omega
        have hsz:=h.sizes hK
        have HNL:=Lib.hid hnl
        clear hcl hbt hz hnk hupr hnl
        rcases hmod with hm|hm|hm|hm|hm|hm|hm
        ·go_wp2_with fail
         refine(pmake_gives h.pa hK hNk hsz.1 hsz.2.1 hsz.2.2).mono ?_
         rintro e w2 ⟨n,x,v',st',rfl,hp2,hF2,hN2,hG2⟩
         obtain⟨hbad,hgood⟩:=h.made hK hp2 hF2 hN2 hG2
         by_cases hx:x=0
         ·subst hx
          obtain⟨j,rfl,j1,j2,jf,hnext⟩:=hgood rfl
          have r1:=(h.rows hG2 (fun k hk => .inl hk)).1
          obtain⟨A2,c2,eq2,hin2⟩:=r1.inG
          injection eq2 with q1 q2 q3
          subst q1 q3
          obtain⟨g2,o2,eq3,hg2,hc2⟩:=hin2.lies (by have:=h.hn;omega)
          injection eq3 with eq3
          injection eq3 with q4 q5
          subst q4 q5
          have hjl:j<hl.length:=by rw[h.hn];exact j2
          have hcj:w2.cell? ⟨gh,oh+j,none⟩=some (.bool false):=hc2 j _ (by simp[bsC,jf])
          have i1:¬ (j:Int)<1:=by omega
          have i2:¬ (P:Int)<=(j:Int):=by rw[<-hKP];omega
          have i3:(0:Int)<=(j:Int):=by omega
          have i4:(j:Int)<(hl.length:Int):=by omega
          have HW:=with9_gives w2 hl (some ⟨gh,oh,none⟩) ch hin2 j hjl (by rw[h.hn,hKP];omega) true
          have hup2:=hp2.ca.cs.fh.up.size
          have HNX:=HoldA.thenX hup2 hK hnext
          clear hbad hgood hnext hin2 hc2 r1 hG2 hN2 hF2 hp2 jf hch hinh hdiv h hsz hcb
          go_wp2_with (first
           | (go_at_call 13;refine HW.mono ?_;rintro e w9 ⟨v9,rfl,hb9,hB9⟩;obtain⟨hX9,At,ct,nt,cB,sz,mn,rfl,HC,HS,HP,e1,e2⟩:=HNX w9 v9 hb9 hB9)
           | (revert HC;intro HC;go_at_call 19;refine HC.mono ?_;rintro e z1 ⟨rfl,rfl⟩)
           | (revert HS;intro HS;go_at_call 20;refine HS.mono ?_;rintro e z2 ⟨rfl,rfl⟩)
           | (revert HP;intro HP;go_at_call 21;refine HP.mono ?_;rintro e z3 ⟨rfl,rfl⟩)
           | (go_at_call 10;refine(num9_gives _ _).mono ?_;rintro e z9 ⟨rfl,rfl⟩))
          exact⟨⟨k+1,by omega,by simp,hX9⟩,by simp[intOf];omega⟩
         ·have hA:=hbad hx
          obtain⟨At,ct,nt,cB,sz,mn,eqv,HC,HS,HP,e1,e2⟩:=hA.tail hK;injection eqv with q1 q2 q3;subst q1 q2 q3
          have hX9:=hA.x
          clear hbad hgood hA hG2 hN2 hF2 hp2 hch hinh hdiv h hsz hcb
          go_wp2_with (first
           | (revert HC;intro HC;go_at_call 19;refine HC.mono ?_;rintro e z1 ⟨rfl,rfl⟩)
           | (revert HS;intro HS;go_at_call 20;refine HS.mono ?_;rintro e z2 ⟨rfl,rfl⟩)
           | (revert HP;intro HP;go_at_call 21;refine HP.mono ?_;rintro e z3 ⟨rfl,rfl⟩)
           | (go_at_call 10;refine(num9_gives _ _).mono ?_;rintro e z9 ⟨rfl,rfl⟩))
          exact⟨⟨k+1,by omega,by simp,hX9⟩,by simp[intOf];omega⟩
        ·go_wp2_with fail
         refine(pmake_gives h.pa hK hNk hsz.1 hsz.2.1 hsz.2.2).mono ?_
         rintro e w2 ⟨n,x,v',st',rfl,hp2,hF2,hN2,hG2⟩
         obtain⟨hbad,hgood⟩:=h.made hK hp2 hF2 hN2 hG2
         by_cases hx:x=0
         ·subst hx
          obtain⟨j,rfl,j1,j2,jf,hnext⟩:=hgood rfl
          have r1:=(h.rows hG2 (fun k hk => .inl hk)).1
          obtain⟨A2,c2,eq2,hin2⟩:=r1.inG
          injection eq2 with q1 q2 q3
          subst q1 q3
          obtain⟨g2,o2,eq3,hg2,hc2⟩:=hin2.lies (by have:=h.hn;omega)
          injection eq3 with eq3
          injection eq3 with q4 q5
          subst q4 q5
          have hjl:j<hl.length:=by rw[h.hn];exact j2
          have hcj:w2.cell? ⟨gh,oh+j,none⟩=some (.bool false):=hc2 j _ (by simp[bsC,jf])
          have i1:¬ (j:Int)<1:=by omega
          have i2:¬ (P:Int)<=(j:Int):=by rw[<-hKP];omega
          have i3:(0:Int)<=(j:Int):=by omega
          have i4:(j:Int)<(hl.length:Int):=by omega
          have HW:=with9_gives w2 hl (some ⟨gh,oh,none⟩) ch hin2 j hjl (by rw[h.hn,hKP];omega) true
          have hup2:=hp2.ca.cs.fh.up.size
          have HNX:=HoldA.thenX hup2 hK hnext
          clear hbad hgood hnext hin2 hc2 r1 hG2 hN2 hF2 hp2 jf hch hinh hdiv h hsz hcb
          go_wp2_with (first
           | (go_at_call 13;refine HW.mono ?_;rintro e w9 ⟨v9,rfl,hb9,hB9⟩;obtain⟨hX9,At,ct,nt,cB,sz,mn,rfl,HC,HS,HP,e1,e2⟩:=HNX w9 v9 hb9 hB9)
           | (revert HC;intro HC;go_at_call 19;refine HC.mono ?_;rintro e z1 ⟨rfl,rfl⟩)
           | (revert HS;intro HS;go_at_call 20;refine HS.mono ?_;rintro e z2 ⟨rfl,rfl⟩)
           | (revert HP;intro HP;go_at_call 21;refine HP.mono ?_;rintro e z3 ⟨rfl,rfl⟩)
           | (go_at_call 10;refine(num9_gives _ _).mono ?_;rintro e z9 ⟨rfl,rfl⟩))
          exact⟨⟨k+1,by omega,by simp,hX9⟩,by simp[intOf];omega⟩
         ·have hA:=hbad hx
          obtain⟨At,ct,nt,cB,sz,mn,eqv,HC,HS,HP,e1,e2⟩:=hA.tail hK;injection eqv with q1 q2 q3;subst q1 q2 q3
          have hX9:=hA.x
          clear hbad hgood hA hG2 hN2 hF2 hp2 hch hinh hdiv h hsz hcb
          go_wp2_with (first
           | (revert HC;intro HC;go_at_call 19;refine HC.mono ?_;rintro e z1 ⟨rfl,rfl⟩)
           | (revert HS;intro HS;go_at_call 20;refine HS.mono ?_;rintro e z2 ⟨rfl,rfl⟩)
           | (revert HP;intro HP;go_at_call 21;refine HP.mono ?_;rintro e z3 ⟨rfl,rfl⟩)
           | (go_at_call 10;refine(num9_gives _ _).mono ?_;rintro e z9 ⟨rfl,rfl⟩))
          exact⟨⟨k+1,by omega,by simp,hX9⟩,by simp[intOf];omega⟩
        ·obtain⟨j,hj,hat⟩:=hdiv
         have hjl:j<hl.length:=by have:=HNL.out;omega
         have i3:(0:Int)<=(j:Int):=by omega
         have i4:(j:Int)<(hl.length:Int):=by omega
         rcases hb:hl[j] with _|_
         ·have hcj:wr.cell? ⟨gh,oh+j,none⟩=some (.bool false):=hch j _ (by simp[bsC,hjl,hb])
          have hA:=h.more (Nat.le_succ k)
          obtain⟨At,ct,nt,cB,sz,mn,eqv,HC,HS,HP,e1,e2⟩:=hA.tail hK;injection eqv with q1 q2 q3;subst q1 q2 q3
          have hX9:=hA.x
          clear hA hch hinh h hsz hb
          go_wp2_with (first
           | (revert HC;intro HC;go_at_call 19;refine HC.mono ?_;rintro e z1 ⟨rfl,rfl⟩)
           | (revert HS;intro HS;go_at_call 20;refine HS.mono ?_;rintro e z2 ⟨rfl,rfl⟩)
           | (revert HP;intro HP;go_at_call 21;refine HP.mono ?_;rintro e z3 ⟨rfl,rfl⟩)
           | (go_at_call 10;refine(num9_gives _ _).mono ?_;rintro e z9 ⟨rfl,rfl⟩))
          exact⟨⟨k+1,by omega,by simp,hX9⟩,by simp[intOf];omega⟩
         ·have hcj:wr.cell? ⟨gh,oh+j,none⟩=some (.bool true):=hch j _ (by simp[bsC,hjl,hb])
          have hjt:hl[j]? = some true:=by rw[zI hjl,hb]
          have hmf:=h.mayFree hK hjt
          have HFr:=pfree_gives h.pa hK (by omega) (j:Int) hmf.1 hmf.2 hsz.2.2
          clear hb hch
          go_wp2_with (go_at_call 14;refine HFr.mono ?_;rintro e w2 ⟨x,v',rfl,hp2,hF2,hN2,hG2⟩)
          obtain⟨hbad,hgood⟩:=h.freed hK hjt hp2 hF2 hN2 hG2
          by_cases hx:x=0
          ·have hx':=hx
           subst hx
           have hnext:=hgood rfl
           have r1:=(h.rows hG2 (fun k hk => .inl hk)).1
           obtain⟨A2,c2,eq2,hin2⟩:=r1.inG
           injection eq2 with q1 q2 q3
           subst q1 q3
           have HW:=with9_gives w2 hl (some ⟨gh,oh,none⟩) ch hin2 j hjl (by have:=HNL.out;omega) false
           have hup2:=hp2.ca.cs.fh.up.size
           have HNX:=HoldA.thenX hup2 hK hnext
           clear hbad hgood hnext hin2 r1 hG2 hN2 hF2 hp2 hinh h hsz hcb HFr hjt hmf hx'
           go_wp2_with (first
            | (go_at_call 13;refine HW.mono ?_;rintro e w9 ⟨v9,rfl,hb9,hB9⟩;obtain⟨hX9,At,ct,nt,cB,sz,mn,rfl,HC,HS,HP,e1,e2⟩:=HNX w9 v9 hb9 hB9)
            | (revert HC;intro HC;go_at_call 19;refine HC.mono ?_;rintro e z1 ⟨rfl,rfl⟩)
            | (revert HS;intro HS;go_at_call 20;refine HS.mono ?_;rintro e z2 ⟨rfl,rfl⟩)
            | (revert HP;intro HP;go_at_call 21;refine HP.mono ?_;rintro e z3 ⟨rfl,rfl⟩)
            | (go_at_call 10;refine(num9_gives _ _).mono ?_;rintro e z9 ⟨rfl,rfl⟩))
           exact⟨⟨k+1,by omega,by simp,hX9⟩,by simp[intOf];omega⟩
          ·have hA:=hbad hx
           obtain⟨At,ct,nt,cB,sz,mn,eqv,HC,HS,HP,e1,e2⟩:=hA.tail hK;injection eqv with q1 q2 q3;subst q1 q2 q3
           have hX9:=hA.x
           clear hbad hgood hA hG2 hN2 hF2 hp2 hinh h hsz hcb HFr hjt hmf
           go_wp2_with (first
            | (revert HC;intro HC;go_at_call 19;refine HC.mono ?_;rintro e z1 ⟨rfl,rfl⟩)
            | (revert HS;intro HS;go_at_call 20;refine HS.mono ?_;rintro e z2 ⟨rfl,rfl⟩)
            | (revert HP;intro HP;go_at_call 21;refine HP.mono ?_;rintro e z3 ⟨rfl,rfl⟩)
            | (go_at_call 10;refine(num9_gives _ _).mono ?_;rintro e z9 ⟨rfl,rfl⟩))
           exact⟨⟨k+1,by omega,by simp,hX9⟩,by simp[intOf];omega⟩
        ·have HMk:=pmark_gives h.pa hK h.mks (by omega)
         have hup:=h.pa.ca.cs.fh.up.size
         go_wp2_with (first
          | (go_at_call 15;refine HMk.mono ?_;rintro e w2 ⟨M,mk',rfl,hp2,hM2,hG2⟩;obtain⟨r1,r3,hnext⟩:=h.marked hp2 hM2 hG2;obtain⟨w3,hw3⟩:∃w3,w3=w2.alloc (.cells #[.slice (some ⟨gh,oh,none⟩) hl.length ch] 39):=⟨_,rfl⟩;have hB3:Below w2.heap.size w2 w3:=(by rw[hw3];exact(Below.refl _ _).alloc (zG _) _);have b3:BlkIs w3 w2.heap.size 39 #[.slice (some ⟨gh,oh,none⟩) hl.length ch]:=(by rw[hw3];exact BlkIs.new _ _ _);obtain⟨mv',w4,hrun,hbm4,hG4⟩:=(r3.grow hB3).append 40 (by have:=h.ml;omega) (by have:=hp2.ca.cs.fh.up.size;have:=hB3.size;omega) (r1.grow hB3) w2.heap.size b3;have hA:=hnext w3 w4 mv' hB3 hG4 hbm4;obtain⟨At,ct,nt,cB,sz,mn,eqv,HC,HS,HP,e1,e2⟩:=hA.tail hK;injection eqv with q1 q2 q3;subst q1 q2 q3;have hX9:=hA.x;have HW3:=Lib.hid hw3.symm;clear hA hnext r1 r3 hw3 hbm4 hG4 b3 hB3 hp2 hM2 hG2 h HMk hch hinh hdiv hsz hcb)
          | (revert hrun;intro hrun;at_builtin;rw[HW3.out];refine wp_exec rfl (x_appM rfl rfl rfl hrun) ?_)
          | (revert HC;intro HC;go_at_call 19;refine HC.mono ?_;rintro e z1 ⟨rfl,rfl⟩)
          | (revert HS;intro HS;go_at_call 20;refine HS.mono ?_;rintro e z2 ⟨rfl,rfl⟩)
          | (revert HP;intro HP;go_at_call 21;refine HP.mono ?_;rintro e z3 ⟨rfl,rfl⟩)
          | (go_at_call 10;refine(num9_gives _ _).mono ?_;rintro e z9 ⟨rfl,rfl⟩))
         exact⟨⟨k+1,by omega,by simp,hX9⟩,by simp[intOf];omega⟩
        ·rcases Nat.eq_zero_or_pos bs.length with hb0|hb0
         ·obtain⟨Am,cm,rfl⟩:=h.mb.slice
          rw[hb0]
          have hA:=h.more (Nat.le_succ k)
          obtain⟨At,ct,nt,cB,sz,mn,eqv,HC,HS,HP,e1,e2⟩:=hA.tail hK;injection eqv with q1 q2 q3;subst q1 q2 q3
          have hX9:=hA.x
          rw[hb0] at hX9
          have hw0:IntKind.i64.wrap ((0:Int) - 1) = -1:=by decide
          clear hA hch hinh h hsz hdiv hb0
          go_wp2_with (first
           | (revert HC;intro HC;go_at_call 19;refine HC.mono ?_;rintro e z1 ⟨rfl,rfl⟩)
           | (revert HS;intro HS;go_at_call 20;refine HS.mono ?_;rintro e z2 ⟨rfl,rfl⟩)
           | (revert HP;intro HP;go_at_call 21;refine HP.mono ?_;rintro e z3 ⟨rfl,rfl⟩)
           | (go_at_call 10;refine(num9_gives _ _).mono ?_;rintro e z9 ⟨rfl,rfl⟩))
          exact⟨⟨k+1,by omega,by simp,hX9⟩,by simp[intOf];omega⟩
         ·obtain⟨j,hj⟩:∃j,bs.length=j+1:=⟨bs.length - 1,by omega⟩
          obtain⟨lb,hlb⟩:∃lb,bs[j]? = some lb:=⟨bs[j],zI (by omega)⟩
          obtain⟨m,hmm⟩:∃m,ms[j]? = some m:=⟨ms[j]'(by have:=h.ml;omega),zI _⟩
          obtain⟨gm,cm,um,rfl,hcm,_,_,_⟩:=h.mb.elem hlb
          have HBk:=pback_gives h.pa hK hNk h.mks j m hmm (by omega)
          obtain⟨nb,hnb⟩:∃nb,nb=bs.length:=⟨_,rfl⟩
          have hwj:IntKind.i64.wrap ((nb:Int) - 1)=(j:Int):=by rw[show (nb:Int) - 1=(j:Int) by omega];exact wrap_i64_fr _ (by omega) (by omega)
          have hj0:(0:Int)<=(j:Int):=by omega
          have hjn:(j:Int)<(nb:Int):=by omega
          rw[<-hnb]
          have HNB:=Lib.hid hnb
          have HJ:=Lib.hid hj
          clear hch hinh hdiv hnb hj hb0
          go_wp2_with (first
           | (go_at_call 16;refine HBk.mono ?_;intro e w2 hO;obtain⟨rfl,r3,v',mk',hnext⟩:=h.back hK hmm hlb hO)
           | (revert r3;intro r3;go_at_call 10;refine(num9_gives _ _).mono ?_;rintro e z9 ⟨rfl,rfl⟩))
          have hBd:Below w2.heap.size w2 w2.drew:=(Below.refl _ _).drew
          obtain⟨gm2,cm2,um2,eqm,_,hc2,hb2,hm2⟩:=(r3.grow hBd).elem hlb
          injection eqm with eqm _ eqc
          injection eqm with eqm
          injection eqm with eqm _
          subst eqm eqc
          have hA:=hnext w2.drew um2 _ hBd hb2 hm2
          obtain⟨At,ct,nt,cB,sz,mn,rfl,HC,HS,HP,e1,e2⟩:=hA.tail hK
          have hX9:=hA.x
          clear hA hnext hb2 hm2 r3 h HBk hsz hcb hO
          refine RegF.start (fun W':World=>W'.cell? ⟨gm,j,none⟩=some (.slice At nt ct)) 99 (by kernel_rfl) ?_
          refine RegF.t0 0 (.slice (some ⟨gm,0,none⟩) nb cm) rfl hc2 (fun W hW=>by go_simp) ?_
          simp only[zD,zB,Act.put,zA,zF,zE]
          refine RegF.t0 1 (.int .i64 (j:Int)) rfl hc2 (fun W hW=>by go_simp) ?_
          simp only[zD,zC,zB,Act.put,zA,zF,zE]
          refine RegF.t0 2 (.pointer (some ⟨gm,j,none⟩)) rfl hc2 (fun W hW=>by go_simp) ?_
          simp only[zD,zC,zB,Act.put,zA,zF,zE]
          refine RegF.t0 3 (.slice At nt ct) rfl hc2 (fun W hW=>by go_simp) ?_
          simp only[zD,zC,zB,Act.put,zA,zF,zE]
          refine RegF.t0 4 (.slice (some ⟨gm,0,none⟩) nb cm) rfl hc2 (fun W hW=>by go_simp) ?_
          simp only[zD,zC,zB,Act.put,zA,zF,zE]
          refine RegF.t0 5 (.int .i64 (j:Int)) rfl hc2 (fun W hW=>by go_simp) ?_
          simp only[zD,zC,zB,Act.put,zA,zF,zE]
          refine RegF.t0 6 (.slice (some ⟨gm,0,none⟩) j cm) rfl hc2 (fun W hW=>by exact x_cutBm rfl rfl rfl (by have:=HNB.out;have:=HJ.out;omega)) ?_
          simp only[zD,zC,zB,Act.put,zA,zF,zE]
          refine RegF.one 7 (by kernel_rfl) (RegF.opV (w':=w2.drew) (.slice At nt ct) rfl rfl (by go_simp) ⟨fun _=>hc2,?_⟩)
          simp only[zD,zC,zB,Act.put,zA,zF,zE]
          refine RegF.one 8 (by kernel_rfl) (RegF.opV (w':=w2.drew) (.slice (some ⟨gm,0,none⟩) j cm) rfl rfl (by go_simp) ⟨fun _=>hc2,RegF.done (by kernel_rfl) ?_⟩)
          simp only[zD,zC,zB,Act.put,zA,zF,zE]
          clear hc2
          go_wp2_with (first
           | (revert HC;intro HC;go_at_call 19;refine HC.mono ?_;rintro e z1 ⟨rfl,rfl⟩)
           | (revert HS;intro HS;go_at_call 20;refine HS.mono ?_;rintro e z2 ⟨rfl,rfl⟩)
           | (revert HP;intro HP;go_at_call 21;refine HP.mono ?_;rintro e z3 ⟨rfl,rfl⟩)
           | (go_at_call 10;refine(num9_gives _ _).mono ?_;rintro e z9 ⟨rfl,rfl⟩))
          exact⟨⟨k+1,by omega,by simp,hX9⟩,by simp[intOf];omega⟩
        ·go_wp2_with fail
         refine(pcommit_gives h.pa hK hNk (by have:=h.ii;omega) (by omega)).mono ?_
         rintro e w2 ⟨x,v',last',under',mk',rfl,hp2,hF2,hor,hN2,hG2⟩
         rcases hor with⟨rfl,rfl,rfl,rfl⟩|⟨hx,rfl,rfl,rfl⟩
         ·go_wp2_with (first
           | (go_at_call 11;refine(pbegin_gives hp2).mono ?_;rintro e w3 ⟨rfl,hp3,hG3⟩;have hA:=h.committed hK hp2 hF2 hG2 hp3 hG3;obtain⟨At,ct,nt,cB,sz,mn,eqv,HC,HS,HP,e1,e2⟩:=hA.tail hK;injection eqv with q1 q2 q3;subst q1 q2 q3;have hX9:=hA.x;clear hA hp2 hF2 hG2 hp3 hG3 h hch hinh hdiv hsz hcb hN2)
           | (revert HC;intro HC;go_at_call 19;refine HC.mono ?_;rintro e z1 ⟨rfl,rfl⟩)
           | (revert HS;intro HS;go_at_call 20;refine HS.mono ?_;rintro e z2 ⟨rfl,rfl⟩)
           | (revert HP;intro HP;go_at_call 21;refine HP.mono ?_;rintro e z3 ⟨rfl,rfl⟩)
           | (go_at_call 10;refine(num9_gives _ _).mono ?_;rintro e z9 ⟨rfl,rfl⟩))
          exact⟨⟨k+1,by omega,by simp,hX9⟩,by simp[intOf];omega⟩
         ·have hA:=h.refused hK hx hp2 hF2 hN2 hG2
          obtain⟨At,ct,nt,cB,sz,mn,eqv,HC,HS,HP,e1,e2⟩:=hA.tail hK;injection eqv with q1 q2 q3;subst q1 q2 q3
          have hX9:=hA.x
          clear hA hp2 hF2 hG2 h hch hinh hdiv hsz hcb hN2
          go_wp2_with (first
           | (revert HC;intro HC;go_at_call 19;refine HC.mono ?_;rintro e z1 ⟨rfl,rfl⟩)
           | (revert HS;intro HS;go_at_call 20;refine HS.mono ?_;rintro e z2 ⟨rfl,rfl⟩)
           | (revert HP;intro HP;go_at_call 21;refine HP.mono ?_;rintro e z3 ⟨rfl,rfl⟩)
           | (go_at_call 10;refine(num9_gives _ _).mono ?_;rintro e z9 ⟨rfl,rfl⟩))
          exact⟨⟨k+1,by omega,by simp,hX9⟩,by simp[intOf];omega⟩
        ·obtain⟨Al,cl,rfl,hinl⟩:=h.lb.inG
         go_wp2_with (first
          | (go_at_call 18;refine(prollback_gives h.pa).mono ?_;rintro e w2 ⟨v',rfl,hp2,k1,k2,k3,k4,k5,hN2,hG2⟩)
          | (revert hp2;intro hp2;go_at_call 11;refine(pbegin_gives hp2).mono ?_;rintro e w3 ⟨rfl,hp3,hG3⟩;have hA:=h.rolled hp2 k1 k2 k3 k5 hG2 hp3 hG3;obtain⟨At,ct,nt,cB,sz,mn,eqv,HC,HS,HP,e1,e2⟩:=hA.tail hK;injection eqv with q1 q2 q3;subst q1 q2 q3;have hX9:=hA.x;clear hA hp2 hG2 hp3 hG3 h hch hinh hinl hdiv hsz hcb hN2 k1 k2 k3 k4 k5)
          | (revert HC;intro HC;go_at_call 19;refine HC.mono ?_;rintro e z1 ⟨rfl,rfl⟩)
          | (revert HS;intro HS;go_at_call 20;refine HS.mono ?_;rintro e z2 ⟨rfl,rfl⟩)
          | (revert HP;intro HP;go_at_call 21;refine HP.mono ?_;rintro e z3 ⟨rfl,rfl⟩)
          | (go_at_call 10;refine(num9_gives _ _).mono ?_;rintro e z9 ⟨rfl,rfl⟩))
         exact⟨⟨k+1,by omega,by simp,hX9⟩,by simp[intOf];omega⟩
       ·obtain rfl:k=l.length:=by omega
        obtain⟨v,st,last,ms,mk,hl,ll,bs,h⟩:=hX
        have hupr:=h0 _ h.pa.ca.cs.fh.up
        clear h
        go_wp2_with (go_at_call 5;refine(works9_gives _).mono ?_;rintro e w9 ⟨rfl,hB9⟩)
        go_ret
        exact⟨rfl,hupr.trans (hB9.mono hupr.size)⟩
end Go.Proofs.YtnlimngkagmjpaaGreat
