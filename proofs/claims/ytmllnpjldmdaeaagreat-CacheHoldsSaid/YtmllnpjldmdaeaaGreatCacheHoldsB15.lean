/- Texts that the proof of CacheHolds leans on, part 15. -/
import Derived.Test.YtmllnpjldmdaeaaGreatCacheHoldsB14
set_option maxRecDepth 100000
set_option maxHeartbeats 8000000

namespace Go.Proofs.YtmllnpjldmdaeaaGreat
open Go Go.RowKit Lou
theorem RdE.any {x:Int ⊕ List UInt8}{e:Ending}{w':World}(h:RdE x e w'):∃A n k er,e = .returned (.tuple #[.slice A n k,.int .i64 er])/\((x = .inl er)∨(er=0/\∃y,x = .inr y/\n=y.length/\InB w' w'.heap.size A k y)):=by
  cases x with
  | inl er =>
    obtain rfl:=h
    exact⟨none,0,0,er,rfl,.inl rfl⟩
  | inr y =>
    obtain⟨A,c,rfl,hin,_⟩:=h
    exact⟨A,y.length,c,0,rfl,.inr ⟨rfl,y,rfl,rfl,hin⟩⟩
theorem begGood {t:Bool}{Q bad:Prop}(h:(t=true/\¬ bad/\Q)∨(t=false/\bad))(r:¬ bad):t=true/\Q:=h.elim (fun h=>⟨h.1,h.2.2⟩) (fun h=>absurd h.2 r)
theorem begBad {t:Bool}{Q bad:Prop}(h:(t=true/\¬ bad/\Q)∨(t=false/\bad))(r:bad):t=false:=h.elim (fun h=>absurd r h.2.1) (fun h=>h.1)
theorem lawCH_walk (w:World)(fr pg:Int)(s0 s1:Int)(A:Option Addr)(c:Nat)(xs:List AcT)(h:InG w w.heap.size 4 A xs.length c (actV xs)) :
    Calls Tryz.prog 3 #[.agg #[.int .i64 fr,.int .i64 pg],.agg #[.int .i64 s0,.int .i64 s1],.slice A xs.length c] w fun e w'=>e = .returned (.bool true)/\Below w.heap.size w w':=by
  obtain⟨W0,hW0⟩:∃W0,W0=(w.alloc (.cells #[.int .i64 fr,.int .i64 pg] 23)).alloc (.cells #[.int .i64 s0,.int .i64 s1] 24):=⟨_,rfl⟩
  have hB0:Below w.heap.size w W0:=by rw[hW0];exact((Below.refl _ w).alloc (Nat.le_refl _) _).alloc (by simp) _
  have b0:BlkIs W0 w.heap.size 23 #[.int .i64 fr,.int .i64 pg]:=by rw[hW0];exact(BlkIs.new w _ _).alloc _
  have b1:BlkIs W0 (w.heap.size+1) 24 #[.int .i64 s0,.int .i64 s1]:=by
    have:=BlkIs.new (w.alloc (.cells #[.int .i64 fr,.int .i64 pg] 23)) 24 #[.int .i64 s0,.int .i64 s1]
    rw[World.size_alloc] at this
    rw[hW0]
    exact this
  have h0:=h.below hB0
  have hl:=Nat.le_trans h.le h.max
  have HRt:=refRight_gives (fr:=fr) (pg:=pg) W0
  go_enter Tryz.func3,Tryz.ntmps3
  go_wp2_with fail
  rw[<-hW0]
  clear hW0
  have hE:∀{w1 w9:World},Below W0.heap.size W0 w1->Below w1.heap.size w1 w9->Below w.heap.size w w9:=fun {w1 w9} h1 h9=>hB0.trans ((h1.trans (h9.mono h1.size)).mono hB0.size)
  by_cases hpl:planOk fr pg=true
  · rw[hpl] at HRt
    have hpr:=(planOk_iff fr pg).1 hpl
    have HPL:=Lib.hid hpl
    clear hpl
    by_cases g1:6<fr
    · go_wp2_with (first
        | (first|(refine wp_loadW rfl 23 (.tmp 3) rfl w.heap.size rfl rowPlan b0 rfl ?_)|(refine wp_loadW rfl 23 (.tmp 3) rfl w.heap.size rfl rowPlan b2 rfl ?_)|(refine wp_loadW rfl 23 (.tmp 3) rfl w.heap.size rfl rowPlan b4 rfl ?_))
        | (go_at_call 4;refine HRt.mono ?_;rintro e w2 ⟨rfl,hB2⟩;have b2:=b0.below hB2 b0.lt;have q0:w2.cell? ⟨w.heap.size,0,none⟩=some (.int .i64 fr):=(by rw[b2.cell];rfl);have q1:w2.cell? ⟨w.heap.size,1,none⟩=some (.int .i64 pg):=(by rw[b2.cell];rfl);have q2:w2.cell? ⟨w.heap.size+1,0,none⟩=some (.int .i64 s0):=(by rw[(b1.below hB2 b1.lt).cell];rfl))
        | (go_at_call 5;refine(works8_gives _).mono ?_;rintro e w9 ⟨rfl,hB9⟩))
      go_ret
      exact⟨rfl,hE hB2 hB9⟩
    · by_cases g2:6<pg
      · go_wp2_with (first
          | (first|(refine wp_loadW rfl 23 (.tmp 3) rfl w.heap.size rfl rowPlan b0 rfl ?_)|(refine wp_loadW rfl 23 (.tmp 3) rfl w.heap.size rfl rowPlan b2 rfl ?_)|(refine wp_loadW rfl 23 (.tmp 3) rfl w.heap.size rfl rowPlan b4 rfl ?_))
          | (go_at_call 4;refine HRt.mono ?_;rintro e w2 ⟨rfl,hB2⟩;have b2:=b0.below hB2 b0.lt;have q0:w2.cell? ⟨w.heap.size,0,none⟩=some (.int .i64 fr):=(by rw[b2.cell];rfl);have q1:w2.cell? ⟨w.heap.size,1,none⟩=some (.int .i64 pg):=(by rw[b2.cell];rfl);have q2:w2.cell? ⟨w.heap.size+1,0,none⟩=some (.int .i64 s0):=(by rw[(b1.below hB2 b1.lt).cell];rfl))
          | (go_at_call 5;refine(works8_gives _).mono ?_;rintro e w9 ⟨rfl,hB9⟩))
        go_ret
        exact⟨rfl,hE hB2 hB9⟩
      · by_cases g3:40<(xs.length:Int)
        · go_wp2_with (first
            | (first|(refine wp_loadW rfl 23 (.tmp 3) rfl w.heap.size rfl rowPlan b0 rfl ?_)|(refine wp_loadW rfl 23 (.tmp 3) rfl w.heap.size rfl rowPlan b2 rfl ?_)|(refine wp_loadW rfl 23 (.tmp 3) rfl w.heap.size rfl rowPlan b4 rfl ?_))
            | (go_at_call 4;refine HRt.mono ?_;rintro e w2 ⟨rfl,hB2⟩;have b2:=b0.below hB2 b0.lt;have q0:w2.cell? ⟨w.heap.size,0,none⟩=some (.int .i64 fr):=(by rw[b2.cell];rfl);have q1:w2.cell? ⟨w.heap.size,1,none⟩=some (.int .i64 pg):=(by rw[b2.cell];rfl);have q2:w2.cell? ⟨w.heap.size+1,0,none⟩=some (.int .i64 s0):=(by rw[(b1.below hB2 b1.lt).cell];rfl))
            | (go_at_call 5;refine(works8_gives _).mono ?_;rintro e w9 ⟨rfl,hB9⟩))
          go_ret
          exact⟨rfl,hE hB2 hB9⟩
        · obtain⟨many,hmany⟩:∃many:Nat,(many:Int)=2+9*fr+8*pg:=⟨(2+9*fr+8*pg).toNat,by omega⟩
          obtain⟨P,hP⟩:∃P:Nat,(P:Int)=pg:=⟨pg.toNat,by omega⟩
          have hmax:many<=40000:=by omega
          have hP2:P<=1000:=by omega
          have hP0:0<P:=by omega
          have HST:=StP.begun (fr:=fr) (pg:=pg) (by omega) (by omega)
          have HBg:∀W room,Below W0.heap.size W0 W->_:=fun W room hW=>begun8_out W0 W hW fr pg room HPL.out many P hmany hmax hP
          generalize laid (fun _=>zer64) (wrL 1 (hEnc 1 1 0 0) 1)=G0 at *
          replace g1:fr<=6:=by omega
          replace g2:pg<=6:=by omega
          replace g3:(xs.length:Int)<=40:=by omega
          by_cases r0:2<=s0/\s0<=2000
          · by_cases r1:2<=s1/\s1<=2000
            · go_wp2_with (first
                | (first|(refine wp_loadW rfl 23 (.tmp 3) rfl w.heap.size rfl rowPlan b0 rfl ?_)|(refine wp_loadW rfl 23 (.tmp 3) rfl w.heap.size rfl rowPlan b2 rfl ?_)|(refine wp_loadW rfl 23 (.tmp 3) rfl w.heap.size rfl rowPlan b4 rfl ?_))
                | (go_at_call 4;refine HRt.mono ?_;rintro e w2 ⟨rfl,hB2⟩;have b2:=b0.below hB2 b0.lt;have q0:w2.cell? ⟨w.heap.size,0,none⟩=some (.int .i64 fr):=(by rw[b2.cell];rfl);have q1:w2.cell? ⟨w.heap.size,1,none⟩=some (.int .i64 pg):=(by rw[b2.cell];rfl);have q2:w2.cell? ⟨w.heap.size+1,0,none⟩=some (.int .i64 s0):=(by rw[(b1.below hB2 b1.lt).cell];rfl))
                | (go_at_call 6;have hgo:=hB4;clear hgo;refine(HBg w4 s1 hU4).mono ?_;rintro e w5 ⟨cv2,dv2,cs2,t2,rfl,hB5,hn2,ho2',hout2⟩;have ho2:=Lib.hid ho2';clear ho2';have hU5:=hU4.trans (hB5.mono hU4.size);have hU5':=hB5;obtain⟨rfl,d2,f2,l2,a2,r2,rfl,rfl,hA2⟩:=begGood hout2 (fun h=>h r1);clear hout2)
                | (go_at_call 6;refine(HBg w2 s0 hB2).mono ?_;rintro e w3 ⟨cv1,dv1,cs1,t1,rfl,hB3,hn1,ho1',hout1⟩;have ho1:=Lib.hid ho1';clear ho1';have hU3:=hB2.trans (hB3.mono hB2.size);obtain⟨rfl,d1,f1,l1,a1,r1',rfl,rfl,hA1⟩:=begGood hout1 (fun h=>h r0);clear hout1)
                | (refine wp_storeBox rfl 39 (.tmp 9) (.tmp 51) rfl rfl rfl rowRCache rfl (by rw[hn1];rfl) ho1.out ?_;intro w4 hB4 _;have hU4:=hU3.trans (hB4.mono hU3.size);have b4:=b0.below hU4 b0.lt;have q3:w4.cell? ⟨w.heap.size+1,1,none⟩=some (.int .i64 s1):=(by rw[(b1.below hU4 b1.lt).cell];rfl))
                | (refine wp_storeBox rfl 39 (.tmp 13) (.tmp 60) rfl rfl rfl rowRCache rfl (by rw[hn2];rfl) ho2.out ?_;intro w6 hB6 _;have hU6:=hU5.trans (hB6.mono hU5.size))
                | (go_at_call 5;refine(works8_gives _).mono ?_;rintro e w9 ⟨rfl,hB9⟩))
              have hPS6:=(PairS.begin (CfIs.grow hA1.cs hB4) hA2.cs hU5' (Nat.le_trans (Nat.le_refl _) hA2.hd) hA2.hl hA2.hf hA2.ha hA2.hr).grow hB6
              clear HBg hB2 hB3 hB4 hB5 hB6 hA1 hA2 hU3 hU4 hU5 hU6 q0 q1 q2 b2 b4 HRt hU5' hn1 hn2 ho1 ho2
              go_loopw [15] (fun i wr=>∃k:Nat,k<=xs.length/\i = .int .i64 (k:Int)/\PairR W0 d1 f1 l1 a1 r1' d2 f2 l2 a2 r2 many P fr pg s0 s1 k wr) (fun i _=>xs.length - (intOf i).toNat)
              case atStart=>exact⟨0,Nat.zero_le _,rfl,G0,_,_,G0,_,_,HST,(fun u hu=>by cases hu),CaSt.Ok.zero,HST,(fun u hu=>by cases hu),CaSt.Ok.zero,PairOk.same,hPS6⟩
              case round =>
                clear hPS6 HST
                obtain⟨k,hk,rfl,G1,S1,c1,G2,S2,c2,hS1,hp1,hc1,hS2,hp2,hc2,hPO,hPS⟩:=hrel
                have hup:=hPS.h1.fh.up
                by_cases hlt:k<xs.length
                · obtain⟨g,o,rfl,hg,_⟩:=h0.lies (by omega)
                  have hr:=h0.elem k hlt
                  rw[actV_elem xs k hlt] at hr
                  generalize xs[k]=x at *
                  have hwk:IntKind.i64.wrap ((k:Int)+1)=(k:Int)+1:=wrap_i64_fr _ (by omega) (by omega)
                  have hRg:wr.rangeAt g (o+k*4) (acT x):=fun j v hj=>(hup.cell (p:=⟨g,o+k*4+j,none⟩) (Nat.lt_of_lt_of_le hg hB0.size)).trans (hr j v hj)
                  have hk40:k<=40:=by omega
                  have hm5:many<=100000:=by omega
                  have hpg2:pg<=200:=by omega
                  have hn1:∀q,wr.heap.size<=q->¬ sysMu d1 l1 a1 r1' c1.V q:=fun q hq h=>by have:=CfIs.lts hPS.h1 q h;omega
                  have hn2:∀q,wr.heap.size<=q->¬ sysMu d2 l2 a2 r2 c2.V q:=fun q hq h=>by have:=CfIs.lts hPS.h2 q h;omega
                  have HN1:=Lib.hid hn1
                  have HN2:=Lib.hid hn2
                  have HMN:=Lib.hid hmany
                  have HPP:=Lib.hid hP
                  clear hr h0 h hn1 hn2 hmany hP
                  by_cases hw0:x.what=0∨x.what=1
                  · rcases hw0 with hw|hw
                    · go_wp2_with (first
                        | (refine wp_exec rfl (x_loadM rowAcT hRg rfl rfl rfl) ?_)
                        | (refine wp_storeBox rfl 43 (.tmp 16) (.tmp 78) rfl rfl rfl rowAcT rfl (by rfl) (acT_one x) ?_;intro v2 hB2 hb2;have q0:v2.cell? ⟨wr.heap.size,0,none⟩=some (.int .i64 x.what):=(hb2.cell 0).trans rfl;rw[hw] at q0;have q1:v2.cell? ⟨wr.heap.size,1,none⟩=some (.int .i64 x.page):=(hb2.cell 1).trans rfl))
                      have hPS2:=hPS.grow hB2
                      refine(pread1 hPS2 (hc1.more (by omega)) r0.1 hS1 HPL.out HMN.out hm5 HPP.out hP2 x.page).mono ?_
                      rintro e v3 ⟨x1,c1',hx1,hxe1,hPS3,hG3⟩
                      obtain⟨A1,n1,k1,er1,rfl,hor1⟩:=hxe1.any
                      have HOR1:=Lib.hid hor1
                      have hb3:=hG3.blk hb2 (fun hm=>HN1.out _ (Nat.le_refl _) (.inr (.inr hm)))
                      have q13:v3.cell? ⟨wr.heap.size,1,none⟩=some (.int .i64 x.page):=(hb3.cell 1).trans rfl
                      clear hor1 hxe1 q0 q1 hRg
                      go_wp2_with fail
                      refine(pread1 hPS3.symm (hc2.more (by omega)) r1.1 hS2 HPL.out HMN.out hm5 HPP.out hP2 x.page).mono ?_
                      rintro e v4 ⟨x2,c2',hx2,hxe2,hPS4,hG4⟩
                      obtain⟨A2,n2,k2,er2,rfl,hor2⟩:=hxe2.any
                      obtain⟨hPO4,hne1,hne2,hl1,heq⟩:=hPO.read hS1 hS2 HPP.out hx1 hx2
                      have hPR:PairR W0 d1 f1 l1 a1 r1' d2 f2 l2 a2 r2 many P fr pg s0 s1 (k+1) v4:=⟨G1,S1,c1',G2,S2,c2',hS1.more (by omega),hp1,hx1.ok hc1,hS2.more (by omega),hp2,hx2.ok hc2,hPO4,hPS4.symm⟩
                      have hor1:=HOR1.out
                      clear HOR1 hxe2 q13 hPO4 hx1 hx2
                      by_cases he1:er1=0
                      · by_cases he2:er2=0
                        · subst he1 he2
                          obtain⟨y1,rfl,rfl,hin1⟩:∃y,x1 = .inr y/\n1=y.length/\InB v3 v3.heap.size A1 k1 y:=by
                            rcases hor1 with e|⟨_,h⟩
                            · exact absurd rfl (hne1 0 e)
                            · exact h
                          obtain⟨y2,rfl,rfl,hin2⟩:∃y,x2 = .inr y/\n2=y.length/\InB v4 v4.heap.size A2 k2 y:=by
                            rcases hor2 with e|⟨_,h⟩
                            · exact absurd rfl (hne2 0 e)
                            · exact h
                          obtain rfl:=heq y1 y2 rfl rfl
                          have hin1':=hin1.keepC (by have:=hl1 _ rfl;omega) hG4 (fun q hq=>(hPS3.h2.ca.sm q hq).ca)
                          have hst1:=hin1'.string
                          have hst2:=hin2.string
                          clear hor1 hor2 hne1 hne2 heq hl1 hin1 hin2 hin1' hPS2 hPS3 hPS4 hPS hPO hup hG3 hG4 hB2 hb2 hb3
                          go_wp2_with (go_at_call 8;refine(num8_gives _ _).mono ?_;rintro e v9 ⟨rfl,rfl⟩)
                          exact⟨⟨k+1,by omega,by simp,hPR⟩,by simp[intOf];omega⟩
                        · clear hor1 hor2 hne1 hne2 heq hl1 hPS2 hPS3 hPS4 hPS hPO hup hG3 hG4 hB2 hb2 hb3
                          go_wp2_with (go_at_call 8;refine(num8_gives _ _).mono ?_;rintro e v9 ⟨rfl,rfl⟩)
                          exact⟨⟨k+1,by omega,by simp,hPR⟩,by simp[intOf];omega⟩
                      · clear hor1 hor2 hne1 hne2 heq hl1 hPS2 hPS3 hPS4 hPS hPO hup hG3 hG4 hB2 hb2 hb3
                        go_wp2_with (go_at_call 8;refine(num8_gives _ _).mono ?_;rintro e v9 ⟨rfl,rfl⟩)
                        exact⟨⟨k+1,by omega,by simp,hPR⟩,by simp[intOf];omega⟩
                    · go_wp2_with (first
                        | (refine wp_exec rfl (x_loadM rowAcT hRg rfl rfl rfl) ?_)
                        | (refine wp_storeBox rfl 43 (.tmp 16) (.tmp 78) rfl rfl rfl rowAcT rfl (by rfl) (acT_one x) ?_;intro v2 hB2 hb2;have q0:v2.cell? ⟨wr.heap.size,0,none⟩=some (.int .i64 x.what):=(hb2.cell 0).trans rfl;rw[hw] at q0;have q1:v2.cell? ⟨wr.heap.size,1,none⟩=some (.int .i64 x.page):=(hb2.cell 1).trans rfl))
                      have hPS2:=hPS.grow hB2
                      refine(pread1 hPS2 (hc1.more (by omega)) r0.1 hS1 HPL.out HMN.out hm5 HPP.out hP2 x.page).mono ?_
                      rintro e v3 ⟨x1,c1',hx1,hxe1,hPS3,hG3⟩
                      obtain⟨A1,n1,k1,er1,rfl,hor1⟩:=hxe1.any
                      have HOR1:=Lib.hid hor1
                      have hb3:=hG3.blk hb2 (fun hm=>HN1.out _ (Nat.le_refl _) (.inr (.inr hm)))
                      have q13:v3.cell? ⟨wr.heap.size,1,none⟩=some (.int .i64 x.page):=(hb3.cell 1).trans rfl
                      clear hor1 hxe1 q0 q1 hRg
                      go_wp2_with fail
                      refine(pread1 hPS3.symm (hc2.more (by omega)) r1.1 hS2 HPL.out HMN.out hm5 HPP.out hP2 x.page).mono ?_
                      rintro e v4 ⟨x2,c2',hx2,hxe2,hPS4,hG4⟩
                      obtain⟨A2,n2,k2,er2,rfl,hor2⟩:=hxe2.any
                      obtain⟨hPO4,hne1,hne2,hl1,heq⟩:=hPO.read hS1 hS2 HPP.out hx1 hx2
                      have hPR:PairR W0 d1 f1 l1 a1 r1' d2 f2 l2 a2 r2 many P fr pg s0 s1 (k+1) v4:=⟨G1,S1,c1',G2,S2,c2',hS1.more (by omega),hp1,hx1.ok hc1,hS2.more (by omega),hp2,hx2.ok hc2,hPO4,hPS4.symm⟩
                      have hor1:=HOR1.out
                      clear HOR1 hxe2 q13 hPO4 hx1 hx2
                      by_cases he1:er1=0
                      · by_cases he2:er2=0
                        · subst he1 he2
                          obtain⟨y1,rfl,rfl,hin1⟩:∃y,x1 = .inr y/\n1=y.length/\InB v3 v3.heap.size A1 k1 y:=by
                            rcases hor1 with e|⟨_,h⟩
                            · exact absurd rfl (hne1 0 e)
                            · exact h
                          obtain⟨y2,rfl,rfl,hin2⟩:∃y,x2 = .inr y/\n2=y.length/\InB v4 v4.heap.size A2 k2 y:=by
                            rcases hor2 with e|⟨_,h⟩
                            · exact absurd rfl (hne2 0 e)
                            · exact h
                          obtain rfl:=heq y1 y2 rfl rfl
                          have hin1':=hin1.keepC (by have:=hl1 _ rfl;omega) hG4 (fun q hq=>(hPS3.h2.ca.sm q hq).ca)
                          have hst1:=hin1'.string
                          have hst2:=hin2.string
                          clear hor1 hor2 hne1 hne2 heq hl1 hin1 hin2 hin1' hPS2 hPS3 hPS4 hPS hPO hup hG3 hG4 hB2 hb2 hb3
                          go_wp2_with (go_at_call 8;refine(num8_gives _ _).mono ?_;rintro e v9 ⟨rfl,rfl⟩)
                          exact⟨⟨k+1,by omega,by simp,hPR⟩,by simp[intOf];omega⟩
                        · clear hor1 hor2 hne1 hne2 heq hl1 hPS2 hPS3 hPS4 hPS hPO hup hG3 hG4 hB2 hb2 hb3
                          go_wp2_with (go_at_call 8;refine(num8_gives _ _).mono ?_;rintro e v9 ⟨rfl,rfl⟩)
                          exact⟨⟨k+1,by omega,by simp,hPR⟩,by simp[intOf];omega⟩
                      · clear hor1 hor2 hne1 hne2 heq hl1 hPS2 hPS3 hPS4 hPS hPO hup hG3 hG4 hB2 hb2 hb3
                        go_wp2_with (go_at_call 8;refine(num8_gives _ _).mono ?_;rintro e v9 ⟨rfl,rfl⟩)
                        exact⟨⟨k+1,by omega,by simp,hPR⟩,by simp[intOf];omega⟩
                  · by_cases hw2:x.what=2∨x.what=3
                    · rcases hw2 with hw|hw
                      · go_wp2_with (first
                          | (refine wp_exec rfl (x_loadM rowAcT hRg rfl rfl rfl) ?_)
                          | (refine wp_storeBox rfl 43 (.tmp 16) (.tmp 78) rfl rfl rfl rowAcT rfl (by rfl) (acT_one x) ?_;intro v2 hB2 hb2;have q0:v2.cell? ⟨wr.heap.size,0,none⟩=some (.int .i64 x.what):=(hb2.cell 0).trans rfl;rw[hw] at q0;have q1:v2.cell? ⟨wr.heap.size,1,none⟩=some (.int .i64 x.page):=(hb2.cell 1).trans rfl))
                        have hPS2:=hPS.grow hB2
                        clear q0 q1 hRg
                        have hb0:=hb2.below (Below.refl _ v2).drew hb2.lt
                        refine RegF.start (fun W=>BlkIs W wr.heap.size 43 (acT x).toArray) 99 (by kernel_rfl) ?_
                        refine RegF.take0 0 (.pointer (some ⟨a1,0,none⟩)) rfl (by kernel_rfl) (by kernel_rfl) (by kernel_rfl) rfl (fun _ _ _ h=>h) hb0 (RegF.yld rfl (fun W hW=>by go_simp)) ?_
                        simp only[List.getElem_toArray,List.getElem_cons_zero,Act.put,List.setIfInBounds_toArray,List.set_cons_zero,List.set_cons_succ]
                        refine RegF.take0 1 (.pointer (some ⟨wr.heap.size,1,none⟩)) rfl (by kernel_rfl) (by kernel_rfl) (by kernel_rfl) rfl (fun _ _ _ h=>h) hb0 (RegF.yld rfl (fun W hW=>by go_simp)) ?_
                        simp only[List.getElem_toArray,List.getElem_cons_succ,List.getElem_cons_zero,Act.put,List.setIfInBounds_toArray,List.set_cons_zero,List.set_cons_succ]
                        refine RegF.take0 2 (.int .i64 x.page) rfl (by kernel_rfl) (by kernel_rfl) (by kernel_rfl) rfl (fun _ _ _ h=>h) hb0 (RegF.yld rfl (fun W hW=>by have q:W.cell? ⟨wr.heap.size,1,none⟩=some (.int .i64 x.page):=(hW.cell 1).trans rfl;go_simp)) ?_
                        simp only[List.getElem_toArray,List.getElem_cons_succ,List.getElem_cons_zero,Act.put,List.setIfInBounds_toArray,List.set_cons_zero,List.set_cons_succ]
                        refine RegF.take0 3 (.pointer (some ⟨wr.heap.size,3,none⟩)) rfl (by kernel_rfl) (by kernel_rfl) (by kernel_rfl) rfl (fun _ _ _ h=>h) hb0 (RegF.yld rfl (fun W hW=>by go_simp)) ?_
                        simp only[List.getElem_toArray,List.getElem_cons_succ,List.getElem_cons_zero,Act.put,List.setIfInBounds_toArray,List.set_cons_zero,List.set_cons_succ]
                        refine RegF.take0 4 (.int .u8 (x.b.toNat:Int)) rfl (by kernel_rfl) (by kernel_rfl) (by kernel_rfl) rfl (fun _ _ _ h=>h) hb0 (RegF.yld rfl (fun W hW=>by have q:W.cell? ⟨wr.heap.size,3,none⟩=some (.int .u8 (x.b.toNat:Int)):=(hW.cell 3).trans rfl;go_simp)) ?_
                        simp only[List.getElem_toArray,List.getElem_cons_succ,List.getElem_cons_zero,Act.put,List.setIfInBounds_toArray,List.set_cons_zero,List.set_cons_succ]
                        refine RegF.take0 7 (.pointer (some ⟨a2,0,none⟩)) rfl (by kernel_rfl) (by kernel_rfl) (by kernel_rfl) rfl (fun _ _ _ h=>h) hb0 (RegF.yld rfl (fun W hW=>by go_simp)) ?_
                        simp only[List.getElem_toArray,List.getElem_cons_succ,List.getElem_cons_zero,Act.put,List.setIfInBounds_toArray,List.set_cons_zero,List.set_cons_succ]
                        refine RegF.take0 8 (.pointer (some ⟨wr.heap.size,1,none⟩)) rfl (by kernel_rfl) (by kernel_rfl) (by kernel_rfl) rfl (fun _ _ _ h=>h) hb0 (RegF.yld rfl (fun W hW=>by go_simp)) ?_
                        simp only[List.getElem_toArray,List.getElem_cons_succ,List.getElem_cons_zero,Act.put,List.setIfInBounds_toArray,List.set_cons_zero,List.set_cons_succ]
                        refine RegF.take0 9 (.int .i64 x.page) rfl (by kernel_rfl) (by kernel_rfl) (by kernel_rfl) rfl (fun _ _ _ h=>h) hb0 (RegF.yld rfl (fun W hW=>by have q:W.cell? ⟨wr.heap.size,1,none⟩=some (.int .i64 x.page):=(hW.cell 1).trans rfl;go_simp)) ?_
                        simp only[List.getElem_toArray,List.getElem_cons_succ,List.getElem_cons_zero,Act.put,List.setIfInBounds_toArray,List.set_cons_zero,List.set_cons_succ]
                        refine RegF.take0 10 (.pointer (some ⟨wr.heap.size,3,none⟩)) rfl (by kernel_rfl) (by kernel_rfl) (by kernel_rfl) rfl (fun _ _ _ h=>h) hb0 (RegF.yld rfl (fun W hW=>by go_simp)) ?_
                        simp only[List.getElem_toArray,List.getElem_cons_succ,List.getElem_cons_zero,Act.put,List.setIfInBounds_toArray,List.set_cons_zero,List.set_cons_succ]
                        refine RegF.take0 11 (.int .u8 (x.b.toNat:Int)) rfl (by kernel_rfl) (by kernel_rfl) (by kernel_rfl) rfl (fun _ _ _ h=>h) hb0 (RegF.yld rfl (fun W hW=>by have q:W.cell? ⟨wr.heap.size,3,none⟩=some (.int .u8 (x.b.toNat:Int)):=(hW.cell 3).trans rfl;go_simp)) ?_
                        simp only[List.getElem_toArray,List.getElem_cons_succ,List.getElem_cons_zero,Act.put,List.setIfInBounds_toArray,List.set_cons_zero,List.set_cons_succ]
                        refine RegF.one 5 (by kernel_rfl) ?_
                        refine RegF.opC 10 #[.tmp 120] #[5] rfl rfl rfl (enters_of Tryz.func10 (by kernel_rfl) rfl) #[.int .u8 (x.b.toNat:Int)] (by simp only[List.map_toArray,List.map_cons,List.map_nil];rfl) ((page8_at x.b _ rfl _).mono ?_)
                        rintro e v3 ⟨A3,k3,rfl,hin3,hB3⟩
                        have hPS3:=(hPS2.grow (Below.refl _ v2).drew).grow hB3
                        have hb3:=hb0.below hB3 hb0.lt
                        refine⟨_,rfl,fun _=>hb3,?_⟩
                        simp only[List.getElem_toArray,List.getElem_cons_succ,List.getElem_cons_zero,Act.put,List.setIfInBounds_toArray,List.set_cons_zero,List.set_cons_succ]
                        refine RegF.one 6 (by kernel_rfl) ?_
                        refine RegF.opC 9 #[.tmp 116,.tmp 118,.tmp 121] #[28,3,44] rfl rfl rfl (enters_of Tryz.func9 (by kernel_rfl) rfl) #[.pointer (some ⟨a1,0,none⟩),.int .i64 x.page,.slice A3 512 k3] (by simp only[List.map_toArray,List.map_cons,List.map_nil];rfl) ((pwrite1 hPS3 (hc1.more (by omega)) r0.1 hP2 HPP.out x.page A3 k3 (pgL x.b) (pgL_length _) hin3).mono ?_)
                        rintro e v4 ⟨x1,c1',n1,rfl,hx1,hPS4,hG4⟩
                        have hb4:=hG4.blk hb3 (HN1.out _ (Nat.le_refl _))
                        refine⟨_,rfl,fun _=>hb4,?_⟩
                        simp only[List.getElem_toArray,List.getElem_cons_succ,List.getElem_cons_zero,Act.put,List.setIfInBounds_toArray,List.set_cons_zero,List.set_cons_succ]
                        refine RegF.one 12 (by kernel_rfl) ?_
                        refine RegF.opC 10 #[.tmp 127] #[5] rfl rfl rfl (enters_of Tryz.func10 (by kernel_rfl) rfl) #[.int .u8 (x.b.toNat:Int)] (by simp only[List.map_toArray,List.map_cons,List.map_nil];rfl) ((page8_at x.b _ rfl _).mono ?_)
                        rintro e v5 ⟨A5,k5,rfl,hin5,hB5⟩
                        have hPS5:=hPS4.grow hB5
                        have hb5:=hb4.below hB5 hb4.lt
                        refine⟨_,rfl,fun _=>hb5,?_⟩
                        simp only[List.getElem_toArray,List.getElem_cons_succ,List.getElem_cons_zero,Act.put,List.setIfInBounds_toArray,List.set_cons_zero,List.set_cons_succ]
                        refine RegF.one 13 (by kernel_rfl) ?_
                        refine RegF.opC 9 #[.tmp 123,.tmp 125,.tmp 128] #[28,3,44] rfl rfl rfl (enters_of Tryz.func9 (by kernel_rfl) rfl) #[.pointer (some ⟨a2,0,none⟩),.int .i64 x.page,.slice A5 512 k5] (by simp only[List.map_toArray,List.map_cons,List.map_nil];rfl) ((pwrite1 hPS5.symm (hc2.more (by omega)) r1.1 hP2 HPP.out x.page A5 k5 (pgL x.b) (pgL_length _) hin5).mono ?_)
                        rintro e v6 ⟨x2,c2',n2,rfl,hx2,hPS6,hG6⟩
                        have hb6:=hG6.blk hb5 (HN2.out _ (Nat.le_refl _))
                        refine⟨_,rfl,fun _=>hb6,?_⟩
                        simp only[List.getElem_toArray,List.getElem_cons_succ,List.getElem_cons_zero,Act.put,List.setIfInBounds_toArray,List.set_cons_zero,List.set_cons_succ]
                        refine RegF.one 14 (by kernel_rfl) (RegF.opV (w':=v6) (.int .i64 x1) rfl rfl (by go_simp) ⟨fun _=>hb6,?_⟩)
                        simp only[List.getElem_toArray,List.getElem_cons_succ,List.getElem_cons_zero,Act.put,List.setIfInBounds_toArray,List.set_cons_zero,List.set_cons_succ]
                        refine RegF.one 15 (by kernel_rfl) (RegF.opV (w':=v6) (.int .i64 x2) rfl rfl (by go_simp) ⟨fun _=>hb6,RegF.done (by kernel_rfl) ?_⟩)
                        simp only[List.getElem_toArray,List.getElem_cons_succ,List.getElem_cons_zero,Act.put,List.setIfInBounds_toArray,List.set_cons_zero,List.set_cons_succ]
                        have hup6:=hPS6.h2.fh.up
                        by_cases he:x1=x2
                        · have hPR:PairR W0 d1 f1 l1 a1 r1' d2 f2 l2 a2 r2 many P fr pg s0 s1 (k+1) v6:=⟨G1,S1,c1',G2,S2,c2',hS1.more (by omega),hp1,hx1.ok hc1,hS2.more (by omega),hp2,hx2.ok hc2,hPO.write HPP.out (pgL_length x.b) hx1 hx2 he,hPS6.symm⟩
                          subst he
                          clear hx1 hx2 hPS hPS2 hPS3 hPS4 hPS5 hPS6 hPO hb0 hb2 hb3 hb4 hb5 hb6 hin3 hin5 hG4 hG6 hB2 hB3 hB5 hup
                          go_wp2_with (go_at_call 8;refine(num8_gives _ _).mono ?_;rintro e v9 ⟨rfl,rfl⟩)
                          exact⟨⟨k+1,by omega,by simp,hPR⟩,by simp[intOf];omega⟩
                        · clear hx1 hx2 hPS hPS2 hPS3 hPS4 hPS5 hPS6 hPO hb0 hb2 hb3 hb4 hb5 hb6 hin3 hin5 hG4 hG6 hB2 hB3 hB5 hup
                          go_wp2_with (first
                            | (go_at_call 8;refine(num8_gives _ _).mono ?_;rintro e v9 ⟨rfl,rfl⟩)
                            | (go_at_call 5;refine(works8_gives _).mono ?_;rintro e w9 ⟨rfl,hB9⟩))
                          go_ret
                          exact⟨rfl,hE hup6 hB9⟩
                      · go_wp2_with (first
                          | (refine wp_exec rfl (x_loadM rowAcT hRg rfl rfl rfl) ?_)
                          | (refine wp_storeBox rfl 43 (.tmp 16) (.tmp 78) rfl rfl rfl rowAcT rfl (by rfl) (acT_one x) ?_;intro v2 hB2 hb2;have q0:v2.cell? ⟨wr.heap.size,0,none⟩=some (.int .i64 x.what):=(hb2.cell 0).trans rfl;rw[hw] at q0;have q1:v2.cell? ⟨wr.heap.size,1,none⟩=some (.int .i64 x.page):=(hb2.cell 1).trans rfl))
                        have hPS2:=hPS.grow hB2
                        clear q0 q1 hRg
                        have hb0:=hb2.below (Below.refl _ v2).drew hb2.lt
                        refine RegF.start (fun W=>BlkIs W wr.heap.size 43 (acT x).toArray) 99 (by kernel_rfl) ?_
                        refine RegF.take0 0 (.pointer (some ⟨a1,0,none⟩)) rfl (by kernel_rfl) (by kernel_rfl) (by kernel_rfl) rfl (fun _ _ _ h=>h) hb0 (RegF.yld rfl (fun W hW=>by go_simp)) ?_
                        simp only[List.getElem_toArray,List.getElem_cons_zero,Act.put,List.setIfInBounds_toArray,List.set_cons_zero,List.set_cons_succ]
                        refine RegF.take0 1 (.pointer (some ⟨wr.heap.size,1,none⟩)) rfl (by kernel_rfl) (by kernel_rfl) (by kernel_rfl) rfl (fun _ _ _ h=>h) hb0 (RegF.yld rfl (fun W hW=>by go_simp)) ?_
                        simp only[List.getElem_toArray,List.getElem_cons_succ,List.getElem_cons_zero,Act.put,List.setIfInBounds_toArray,List.set_cons_zero,List.set_cons_succ]
                        refine RegF.take0 2 (.int .i64 x.page) rfl (by kernel_rfl) (by kernel_rfl) (by kernel_rfl) rfl (fun _ _ _ h=>h) hb0 (RegF.yld rfl (fun W hW=>by have q:W.cell? ⟨wr.heap.size,1,none⟩=some (.int .i64 x.page):=(hW.cell 1).trans rfl;go_simp)) ?_
                        simp only[List.getElem_toArray,List.getElem_cons_succ,List.getElem_cons_zero,Act.put,List.setIfInBounds_toArray,List.set_cons_zero,List.set_cons_succ]
                        refine RegF.take0 3 (.pointer (some ⟨wr.heap.size,3,none⟩)) rfl (by kernel_rfl) (by kernel_rfl) (by kernel_rfl) rfl (fun _ _ _ h=>h) hb0 (RegF.yld rfl (fun W hW=>by go_simp)) ?_
                        simp only[List.getElem_toArray,List.getElem_cons_succ,List.getElem_cons_zero,Act.put,List.setIfInBounds_toArray,List.set_cons_zero,List.set_cons_succ]
                        refine RegF.take0 4 (.int .u8 (x.b.toNat:Int)) rfl (by kernel_rfl) (by kernel_rfl) (by kernel_rfl) rfl (fun _ _ _ h=>h) hb0 (RegF.yld rfl (fun W hW=>by have q:W.cell? ⟨wr.heap.size,3,none⟩=some (.int .u8 (x.b.toNat:Int)):=(hW.cell 3).trans rfl;go_simp)) ?_
                        simp only[List.getElem_toArray,List.getElem_cons_succ,List.getElem_cons_zero,Act.put,List.setIfInBounds_toArray,List.set_cons_zero,List.set_cons_succ]
                        refine RegF.take0 7 (.pointer (some ⟨a2,0,none⟩)) rfl (by kernel_rfl) (by kernel_rfl) (by kernel_rfl) rfl (fun _ _ _ h=>h) hb0 (RegF.yld rfl (fun W hW=>by go_simp)) ?_
                        simp only[List.getElem_toArray,List.getElem_cons_succ,List.getElem_cons_zero,Act.put,List.setIfInBounds_toArray,List.set_cons_zero,List.set_cons_succ]
                        refine RegF.take0 8 (.pointer (some ⟨wr.heap.size,1,none⟩)) rfl (by kernel_rfl) (by kernel_rfl) (by kernel_rfl) rfl (fun _ _ _ h=>h) hb0 (RegF.yld rfl (fun W hW=>by go_simp)) ?_
                        simp only[List.getElem_toArray,List.getElem_cons_succ,List.getElem_cons_zero,Act.put,List.setIfInBounds_toArray,List.set_cons_zero,List.set_cons_succ]
                        refine RegF.take0 9 (.int .i64 x.page) rfl (by kernel_rfl) (by kernel_rfl) (by kernel_rfl) rfl (fun _ _ _ h=>h) hb0 (RegF.yld rfl (fun W hW=>by have q:W.cell? ⟨wr.heap.size,1,none⟩=some (.int .i64 x.page):=(hW.cell 1).trans rfl;go_simp)) ?_
                        simp only[List.getElem_toArray,List.getElem_cons_succ,List.getElem_cons_zero,Act.put,List.setIfInBounds_toArray,List.set_cons_zero,List.set_cons_succ]
                        refine RegF.take0 10 (.pointer (some ⟨wr.heap.size,3,none⟩)) rfl (by kernel_rfl) (by kernel_rfl) (by kernel_rfl) rfl (fun _ _ _ h=>h) hb0 (RegF.yld rfl (fun W hW=>by go_simp)) ?_
                        simp only[List.getElem_toArray,List.getElem_cons_succ,List.getElem_cons_zero,Act.put,List.setIfInBounds_toArray,List.set_cons_zero,List.set_cons_succ]
                        refine RegF.take0 11 (.int .u8 (x.b.toNat:Int)) rfl (by kernel_rfl) (by kernel_rfl) (by kernel_rfl) rfl (fun _ _ _ h=>h) hb0 (RegF.yld rfl (fun W hW=>by have q:W.cell? ⟨wr.heap.size,3,none⟩=some (.int .u8 (x.b.toNat:Int)):=(hW.cell 3).trans rfl;go_simp)) ?_
                        simp only[List.getElem_toArray,List.getElem_cons_succ,List.getElem_cons_zero,Act.put,List.setIfInBounds_toArray,List.set_cons_zero,List.set_cons_succ]
                        refine RegF.one 5 (by kernel_rfl) ?_
                        refine RegF.opC 10 #[.tmp 120] #[5] rfl rfl rfl (enters_of Tryz.func10 (by kernel_rfl) rfl) #[.int .u8 (x.b.toNat:Int)] (by simp only[List.map_toArray,List.map_cons,List.map_nil];rfl) ((page8_at x.b _ rfl _).mono ?_)
                        rintro e v3 ⟨A3,k3,rfl,hin3,hB3⟩
                        have hPS3:=(hPS2.grow (Below.refl _ v2).drew).grow hB3
                        have hb3:=hb0.below hB3 hb0.lt
                        refine⟨_,rfl,fun _=>hb3,?_⟩
                        simp only[List.getElem_toArray,List.getElem_cons_succ,List.getElem_cons_zero,Act.put,List.setIfInBounds_toArray,List.set_cons_zero,List.set_cons_succ]
                        refine RegF.one 6 (by kernel_rfl) ?_
                        refine RegF.opC 9 #[.tmp 116,.tmp 118,.tmp 121] #[28,3,44] rfl rfl rfl (enters_of Tryz.func9 (by kernel_rfl) rfl) #[.pointer (some ⟨a1,0,none⟩),.int .i64 x.page,.slice A3 512 k3] (by simp only[List.map_toArray,List.map_cons,List.map_nil];rfl) ((pwrite1 hPS3 (hc1.more (by omega)) r0.1 hP2 HPP.out x.page A3 k3 (pgL x.b) (pgL_length _) hin3).mono ?_)
                        rintro e v4 ⟨x1,c1',n1,rfl,hx1,hPS4,hG4⟩
                        have hb4:=hG4.blk hb3 (HN1.out _ (Nat.le_refl _))
                        refine⟨_,rfl,fun _=>hb4,?_⟩
                        simp only[List.getElem_toArray,List.getElem_cons_succ,List.getElem_cons_zero,Act.put,List.setIfInBounds_toArray,List.set_cons_zero,List.set_cons_succ]
                        refine RegF.one 12 (by kernel_rfl) ?_
                        refine RegF.opC 10 #[.tmp 127] #[5] rfl rfl rfl (enters_of Tryz.func10 (by kernel_rfl) rfl) #[.int .u8 (x.b.toNat:Int)] (by simp only[List.map_toArray,List.map_cons,List.map_nil];rfl) ((page8_at x.b _ rfl _).mono ?_)
                        rintro e v5 ⟨A5,k5,rfl,hin5,hB5⟩
                        have hPS5:=hPS4.grow hB5
                        have hb5:=hb4.below hB5 hb4.lt
                        refine⟨_,rfl,fun _=>hb5,?_⟩
                        simp only[List.getElem_toArray,List.getElem_cons_succ,List.getElem_cons_zero,Act.put,List.setIfInBounds_toArray,List.set_cons_zero,List.set_cons_succ]
                        refine RegF.one 13 (by kernel_rfl) ?_
                        refine RegF.opC 9 #[.tmp 123,.tmp 125,.tmp 128] #[28,3,44] rfl rfl rfl (enters_of Tryz.func9 (by kernel_rfl) rfl) #[.pointer (some ⟨a2,0,none⟩),.int .i64 x.page,.slice A5 512 k5] (by simp only[List.map_toArray,List.map_cons,List.map_nil];rfl) ((pwrite1 hPS5.symm (hc2.more (by omega)) r1.1 hP2 HPP.out x.page A5 k5 (pgL x.b) (pgL_length _) hin5).mono ?_)
                        rintro e v6 ⟨x2,c2',n2,rfl,hx2,hPS6,hG6⟩
                        have hb6:=hG6.blk hb5 (HN2.out _ (Nat.le_refl _))
                        refine⟨_,rfl,fun _=>hb6,?_⟩
                        simp only[List.getElem_toArray,List.getElem_cons_succ,List.getElem_cons_zero,Act.put,List.setIfInBounds_toArray,List.set_cons_zero,List.set_cons_succ]
                        refine RegF.one 14 (by kernel_rfl) (RegF.opV (w':=v6) (.int .i64 x1) rfl rfl (by go_simp) ⟨fun _=>hb6,?_⟩)
                        simp only[List.getElem_toArray,List.getElem_cons_succ,List.getElem_cons_zero,Act.put,List.setIfInBounds_toArray,List.set_cons_zero,List.set_cons_succ]
                        refine RegF.one 15 (by kernel_rfl) (RegF.opV (w':=v6) (.int .i64 x2) rfl rfl (by go_simp) ⟨fun _=>hb6,RegF.done (by kernel_rfl) ?_⟩)
                        simp only[List.getElem_toArray,List.getElem_cons_succ,List.getElem_cons_zero,Act.put,List.setIfInBounds_toArray,List.set_cons_zero,List.set_cons_succ]
                        have hup6:=hPS6.h2.fh.up
                        by_cases he:x1=x2
                        · have hPR:PairR W0 d1 f1 l1 a1 r1' d2 f2 l2 a2 r2 many P fr pg s0 s1 (k+1) v6:=⟨G1,S1,c1',G2,S2,c2',hS1.more (by omega),hp1,hx1.ok hc1,hS2.more (by omega),hp2,hx2.ok hc2,hPO.write HPP.out (pgL_length x.b) hx1 hx2 he,hPS6.symm⟩
                          subst he
                          clear hx1 hx2 hPS hPS2 hPS3 hPS4 hPS5 hPS6 hPO hb0 hb2 hb3 hb4 hb5 hb6 hin3 hin5 hG4 hG6 hB2 hB3 hB5 hup
                          go_wp2_with (go_at_call 8;refine(num8_gives _ _).mono ?_;rintro e v9 ⟨rfl,rfl⟩)
                          exact⟨⟨k+1,by omega,by simp,hPR⟩,by simp[intOf];omega⟩
                        · clear hx1 hx2 hPS hPS2 hPS3 hPS4 hPS5 hPS6 hPO hb0 hb2 hb3 hb4 hb5 hb6 hin3 hin5 hG4 hG6 hB2 hB3 hB5 hup
                          go_wp2_with (first
                            | (go_at_call 8;refine(num8_gives _ _).mono ?_;rintro e v9 ⟨rfl,rfl⟩)
                            | (go_at_call 5;refine(works8_gives _).mono ?_;rintro e w9 ⟨rfl,hB9⟩))
                          go_ret
                          exact⟨rfl,hE hup6 hB9⟩
                    · by_cases hw5:x.what=5
                      · have hw:=hw5
                        go_wp2_with (first
                          | (refine wp_exec rfl (x_loadM rowAcT hRg rfl rfl rfl) ?_)
                          | (refine wp_storeBox rfl 43 (.tmp 16) (.tmp 78) rfl rfl rfl rowAcT rfl (by rfl) (acT_one x) ?_;intro v2 hB2 hb2;have q0:v2.cell? ⟨wr.heap.size,0,none⟩=some (.int .i64 x.what):=(hb2.cell 0).trans rfl;rw[hw] at q0;have q1:v2.cell? ⟨wr.heap.size,1,none⟩=some (.int .i64 x.page):=(hb2.cell 1).trans rfl))
                        have hPS2:=hPS.grow hB2
                        clear q0 q1 hRg
                        have hb0:=hb2.below (Below.refl _ v2).drew hb2.lt
                        refine RegF.start (fun W=>BlkIs W wr.heap.size 43 (acT x).toArray) 99 (by kernel_rfl) ?_
                        refine RegF.take0 0 (.pointer (some ⟨a1,0,none⟩)) rfl (by kernel_rfl) (by kernel_rfl) (by kernel_rfl) rfl (fun _ _ _ h=>h) hb0 (RegF.yld rfl (fun W hW=>by go_simp)) ?_
                        simp only[List.getElem_toArray,List.getElem_cons_zero,Act.put,List.setIfInBounds_toArray,List.set_cons_zero,List.set_cons_succ]
                        refine RegF.take0 1 (.pointer (some ⟨wr.heap.size,2,none⟩)) rfl (by kernel_rfl) (by kernel_rfl) (by kernel_rfl) rfl (fun _ _ _ h=>h) hb0 (RegF.yld rfl (fun W hW=>by go_simp)) ?_
                        simp only[List.getElem_toArray,List.getElem_cons_succ,List.getElem_cons_zero,Act.put,List.setIfInBounds_toArray,List.set_cons_zero,List.set_cons_succ]
                        refine RegF.take0 2 (.int .i64 x.size) rfl (by kernel_rfl) (by kernel_rfl) (by kernel_rfl) rfl (fun _ _ _ h=>h) hb0 (RegF.yld rfl (fun W hW=>by have q:W.cell? ⟨wr.heap.size,2,none⟩=some (.int .i64 x.size):=(hW.cell 2).trans rfl;go_simp)) ?_
                        simp only[List.getElem_toArray,List.getElem_cons_succ,List.getElem_cons_zero,Act.put,List.setIfInBounds_toArray,List.set_cons_zero,List.set_cons_succ]
                        refine RegF.take0 4 (.pointer (some ⟨a2,0,none⟩)) rfl (by kernel_rfl) (by kernel_rfl) (by kernel_rfl) rfl (fun _ _ _ h=>h) hb0 (RegF.yld rfl (fun W hW=>by go_simp)) ?_
                        simp only[List.getElem_toArray,List.getElem_cons_succ,List.getElem_cons_zero,Act.put,List.setIfInBounds_toArray,List.set_cons_zero,List.set_cons_succ]
                        refine RegF.take0 5 (.pointer (some ⟨wr.heap.size,2,none⟩)) rfl (by kernel_rfl) (by kernel_rfl) (by kernel_rfl) rfl (fun _ _ _ h=>h) hb0 (RegF.yld rfl (fun W hW=>by go_simp)) ?_
                        simp only[List.getElem_toArray,List.getElem_cons_succ,List.getElem_cons_zero,Act.put,List.setIfInBounds_toArray,List.set_cons_zero,List.set_cons_succ]
                        refine RegF.take0 6 (.int .i64 x.size) rfl (by kernel_rfl) (by kernel_rfl) (by kernel_rfl) rfl (fun _ _ _ h=>h) hb0 (RegF.yld rfl (fun W hW=>by have q:W.cell? ⟨wr.heap.size,2,none⟩=some (.int .i64 x.size):=(hW.cell 2).trans rfl;go_simp)) ?_
                        simp only[List.getElem_toArray,List.getElem_cons_succ,List.getElem_cons_zero,Act.put,List.setIfInBounds_toArray,List.set_cons_zero,List.set_cons_succ]
                        have hPS3:=hPS2.grow (Below.refl _ v2).drew
                        refine RegF.one 3 (by kernel_rfl) ?_
                        refine RegF.opC 11 #[.tmp 138,.tmp 140] #[28,3] rfl rfl rfl (enters_of Tryz.func11 (by kernel_rfl) rfl) #[.pointer (some ⟨a1,0,none⟩),.int .i64 x.size] (by simp only[List.map_toArray,List.map_cons,List.map_nil];rfl) ((pcommit1 hPS3 hc1 (by omega) r0.1 hS1 hp1 (by omega) HPL.out HMN.out hm5 HPP.out hP2 hpg2 hPO.o1 x.size).mono ?_)
                        rintro e v4 ⟨x1,G1',S1',c1',rfl,hS1',hp1',hc1',hT1,hPS4,hG4⟩
                        have hb4:=hG4.blk hb0 (HN1.out _ (Nat.le_refl _))
                        refine⟨_,rfl,fun _=>hb4,?_⟩
                        simp only[List.getElem_toArray,List.getElem_cons_succ,List.getElem_cons_zero,Act.put,List.setIfInBounds_toArray,List.set_cons_zero,List.set_cons_succ]
                        refine RegF.one 7 (by kernel_rfl) ?_
                        refine RegF.opC 11 #[.tmp 142,.tmp 144] #[28,3] rfl rfl rfl (enters_of Tryz.func11 (by kernel_rfl) rfl) #[.pointer (some ⟨a2,0,none⟩),.int .i64 x.size] (by simp only[List.map_toArray,List.map_cons,List.map_nil];rfl) ((pcommit1 hPS4.symm hc2 (by omega) r1.1 hS2 hp2 (by omega) HPL.out HMN.out hm5 HPP.out hP2 hpg2 hPO.o2 x.size).mono ?_)
                        rintro e v6 ⟨x2,G2',S2',c2',rfl,hS2',hp2',hc2',hT2,hPS6,hG6⟩
                        have hb6:=hG6.blk hb4 (HN2.out _ (Nat.le_refl _))
                        refine⟨_,rfl,fun _=>hb6,?_⟩
                        simp only[List.getElem_toArray,List.getElem_cons_succ,List.getElem_cons_zero,Act.put,List.setIfInBounds_toArray,List.set_cons_zero,List.set_cons_succ]
                        refine RegF.one 8 (by kernel_rfl) (RegF.opV (w':=v6) (.int .i64 x1) rfl rfl (by go_simp) ⟨fun _=>hb6,?_⟩)
                        simp only[List.getElem_toArray,List.getElem_cons_succ,List.getElem_cons_zero,Act.put,List.setIfInBounds_toArray,List.set_cons_zero,List.set_cons_succ]
                        refine RegF.one 9 (by kernel_rfl) (RegF.opV (w':=v6) (.int .i64 x2) rfl rfl (by go_simp) ⟨fun _=>hb6,RegF.done (by kernel_rfl) ?_⟩)
                        simp only[List.getElem_toArray,List.getElem_cons_succ,List.getElem_cons_zero,Act.put,List.setIfInBounds_toArray,List.set_cons_zero,List.set_cons_succ]
                        have hup6:=hPS6.h2.fh.up
                        have h160:=hPO.commit hP0 hT1 hT2
                        by_cases he:x1=x2
                        · have hPR:PairR W0 d1 f1 l1 a1 r1' d2 f2 l2 a2 r2 many P fr pg s0 s1 (k+1) v6:=⟨G1',S1',c1',G2',S2',c2',hS1'.more (by omega),hp1',hc1',hS2'.more (by omega),hp2',hc2',hPO.commitSame hT1 hT2 he,hPS6.symm⟩
                          subst he
                          clear h160 hT1 hT2 hPS hPS2 hPS3 hPS4 hPS6 hPO hb0 hb2 hb4 hb6 hG4 hG6 hB2 hup
                          go_wp2_with (go_at_call 8;refine(num8_gives _ _).mono ?_;rintro e v9 ⟨rfl,rfl⟩)
                          exact⟨⟨k+1,by omega,by simp,hPR⟩,by simp[intOf];omega⟩
                        · replace h160:x1=160∨x2=160:=h160.elim (fun h=>absurd h.1 he) id
                          clear hT1 hT2 hPS hPS2 hPS3 hPS4 hPS6 hPO hb0 hb2 hb4 hb6 hG4 hG6 hB2 hup
                          by_cases h1:x1=160
                          · subst h1
                            clear h160
                            go_wp2_with (go_at_call 8;refine(num8_gives _ _).mono ?_;rintro e v9 ⟨rfl,rfl⟩)
                            go_ret
                            exact⟨rfl,hE hup6 (Below.refl _ _)⟩
                          · obtain rfl:x2=160:=h160.elim (fun h=>absurd h h1) id
                            clear h160
                            go_wp2_with (go_at_call 8;refine(num8_gives _ _).mono ?_;rintro e v9 ⟨rfl,rfl⟩)
                            go_ret
                            exact⟨rfl,hE hup6 (Below.refl _ _)⟩
                      · by_cases hw6:x.what=6
                        · have hw:=hw6
                          go_wp2_with (first
                            | (refine wp_exec rfl (x_loadM rowAcT hRg rfl rfl rfl) ?_)
                            | (refine wp_storeBox rfl 43 (.tmp 16) (.tmp 78) rfl rfl rfl rowAcT rfl (by rfl) (acT_one x) ?_;intro v2 hB2 hb2;have q0:v2.cell? ⟨wr.heap.size,0,none⟩=some (.int .i64 x.what):=(hb2.cell 0).trans rfl;rw[hw] at q0;have q1:v2.cell? ⟨wr.heap.size,1,none⟩=some (.int .i64 x.page):=(hb2.cell 1).trans rfl))
                          have hPS2:=hPS.grow hB2
                          clear q0 q1 hRg
                          refine(pdrop1 hPS2).mono ?_
                          rintro e v3 ⟨rfl,hPS3,hG3⟩
                          go_wp2_with (go_at_call 8;refine(num8_gives _ _).mono ?_;rintro e v9 ⟨rfl,rfl⟩)
                          refine(pdrop1 hPS3.symm).mono ?_
                          rintro e v4 ⟨rfl,hPS4,hG4⟩
                          have hPR:PairR W0 d1 f1 l1 a1 r1' d2 f2 l2 a2 r2 many P fr pg s0 s1 (k+1) v4:=⟨G1,S1,⟨c1.now,c1.hh,c1.mm,dropV c1.V⟩,G2,S2,⟨c2.now,c2.hh,c2.mm,dropV c2.V⟩,hS1.more (by omega),hp1,⟨(hc1.more (Nat.le_succ k)).now,(hc1.more (Nat.le_succ k)).hh,(hc1.more (Nat.le_succ k)).mm⟩,hS2.more (by omega),hp2,⟨(hc2.more (Nat.le_succ k)).now,(hc2.more (Nat.le_succ k)).hh,(hc2.more (Nat.le_succ k)).mm⟩,hPO.drop,hPS4.symm⟩
                          clear hPS hPS2 hPS3 hPS4 hPO hb2 hG3 hG4 hB2 hup
                          go_wp2_with (go_at_call 8;refine(num8_gives _ _).mono ?_;rintro e v9 ⟨rfl,rfl⟩)
                          exact⟨⟨k+1,by omega,by simp,hPR⟩,by simp[intOf];omega⟩
                        · have n0:¬ x.what=0:=fun e=>hw0 (.inl e)
                          have n1:¬ x.what=1:=fun e=>hw0 (.inr e)
                          have n2:¬ x.what=2:=fun e=>hw2 (.inl e)
                          have n3:¬ x.what=3:=fun e=>hw2 (.inr e)
                          clear hw0 hw2
                          go_wp2_with (first
                            | (refine wp_exec rfl (x_loadM rowAcT hRg rfl rfl rfl) ?_)
                            | (refine wp_storeBox rfl 43 (.tmp 16) (.tmp 78) rfl rfl rfl rowAcT rfl (by rfl) (acT_one x) ?_;intro v2 hB2 hb2;have q0:v2.cell? ⟨wr.heap.size,0,none⟩=some (.int .i64 x.what):=(hb2.cell 0).trans rfl))
                          exact⟨⟨k+1,by omega,by simp,G1,S1,c1,G2,S2,c2,hS1.more (by omega),hp1,hc1.more (by omega),hS2.more (by omega),hp2,hc2.more (by omega),hPO,hPS.grow hB2⟩,by simp[intOf];omega⟩
                · obtain rfl:k=xs.length:=by omega
                  clear hPS hPO hS1 hS2 hc1 hc2
                  go_wp2_with (go_at_call 5;refine(works8_gives _).mono ?_;rintro e w9 ⟨rfl,hB9⟩)
                  go_ret
                  exact⟨rfl,hE hup hB9⟩
            · go_wp2_with (first
                | (first|(refine wp_loadW rfl 23 (.tmp 3) rfl w.heap.size rfl rowPlan b0 rfl ?_)|(refine wp_loadW rfl 23 (.tmp 3) rfl w.heap.size rfl rowPlan b2 rfl ?_)|(refine wp_loadW rfl 23 (.tmp 3) rfl w.heap.size rfl rowPlan b4 rfl ?_))
                | (go_at_call 4;refine HRt.mono ?_;rintro e w2 ⟨rfl,hB2⟩;have b2:=b0.below hB2 b0.lt;have q0:w2.cell? ⟨w.heap.size,0,none⟩=some (.int .i64 fr):=(by rw[b2.cell];rfl);have q1:w2.cell? ⟨w.heap.size,1,none⟩=some (.int .i64 pg):=(by rw[b2.cell];rfl);have q2:w2.cell? ⟨w.heap.size+1,0,none⟩=some (.int .i64 s0):=(by rw[(b1.below hB2 b1.lt).cell];rfl))
                | (go_at_call 6;have hgo:=hB4;clear hgo;refine(HBg w4 s1 hU4).mono ?_;rintro e w5 ⟨cv2,dv2,cs2,t2,rfl,hB5,hn2,ho2',hout2⟩;have ho2:=Lib.hid ho2';clear ho2';have hU5:=hU4.trans (hB5.mono hU4.size);have hU5':=hB5;obtain rfl:t2=false:=begBad hout2 r1;clear hout2)
                | (go_at_call 6;refine(HBg w2 s0 hB2).mono ?_;rintro e w3 ⟨cv1,dv1,cs1,t1,rfl,hB3,hn1,ho1',hout1⟩;have ho1:=Lib.hid ho1';clear ho1';have hU3:=hB2.trans (hB3.mono hB2.size);obtain⟨rfl,d1,f1,l1,a1,r1',rfl,rfl,hA1⟩:=begGood hout1 (fun h=>h r0);clear hout1)
                | (refine wp_storeBox rfl 39 (.tmp 9) (.tmp 51) rfl rfl rfl rowRCache rfl (by rw[hn1];rfl) ho1.out ?_;intro w4 hB4 _;have hU4:=hU3.trans (hB4.mono hU3.size);have b4:=b0.below hU4 b0.lt;have q3:w4.cell? ⟨w.heap.size+1,1,none⟩=some (.int .i64 s1):=(by rw[(b1.below hU4 b1.lt).cell];rfl))
                | (refine wp_storeBox rfl 39 (.tmp 13) (.tmp 60) rfl rfl rfl rowRCache rfl (by rw[hn2];rfl) ho2.out ?_;intro w6 hB6 _;have hU6:=hU5.trans (hB6.mono hU5.size))
                | (go_at_call 5;refine(works8_gives _).mono ?_;rintro e w9 ⟨rfl,hB9⟩))
              go_ret
              exact⟨rfl,hE hU6 hB9⟩
          · go_wp2_with (first
              | (first|(refine wp_loadW rfl 23 (.tmp 3) rfl w.heap.size rfl rowPlan b0 rfl ?_)|(refine wp_loadW rfl 23 (.tmp 3) rfl w.heap.size rfl rowPlan b2 rfl ?_)|(refine wp_loadW rfl 23 (.tmp 3) rfl w.heap.size rfl rowPlan b4 rfl ?_))
              | (go_at_call 4;refine HRt.mono ?_;rintro e w2 ⟨rfl,hB2⟩;have b2:=b0.below hB2 b0.lt;have q0:w2.cell? ⟨w.heap.size,0,none⟩=some (.int .i64 fr):=(by rw[b2.cell];rfl);have q1:w2.cell? ⟨w.heap.size,1,none⟩=some (.int .i64 pg):=(by rw[b2.cell];rfl);have q2:w2.cell? ⟨w.heap.size+1,0,none⟩=some (.int .i64 s0):=(by rw[(b1.below hB2 b1.lt).cell];rfl))
              | (go_at_call 6;have hgo:=hB4;clear hgo;refine(HBg w4 s1 hU4).mono ?_;rintro e w5 ⟨cv2,dv2,cs2,t2,rfl,hB5,hn2,ho2',hout2⟩;have ho2:=Lib.hid ho2';clear ho2';have hU5:=hU4.trans (hB5.mono hU4.size);have hU5':=hB5)
              | (go_at_call 6;refine(HBg w2 s0 hB2).mono ?_;rintro e w3 ⟨cv1,dv1,cs1,t1,rfl,hB3,hn1,ho1',hout1⟩;have ho1:=Lib.hid ho1';clear ho1';have hU3:=hB2.trans (hB3.mono hB2.size);obtain rfl:t1=false:=begBad hout1 r0;clear hout1)
              | (refine wp_storeBox rfl 39 (.tmp 9) (.tmp 51) rfl rfl rfl rowRCache rfl (by rw[hn1];rfl) ho1.out ?_;intro w4 hB4 _;have hU4:=hU3.trans (hB4.mono hU3.size);have b4:=b0.below hU4 b0.lt;have q3:w4.cell? ⟨w.heap.size+1,1,none⟩=some (.int .i64 s1):=(by rw[(b1.below hU4 b1.lt).cell];rfl))
              | (refine wp_storeBox rfl 39 (.tmp 13) (.tmp 60) rfl rfl rfl rowRCache rfl (by rw[hn2];rfl) ho2.out ?_;intro w6 hB6 _;have hU6:=hU5.trans (hB6.mono hU5.size))
              | (go_at_call 5;refine(works8_gives _).mono ?_;rintro e w9 ⟨rfl,hB9⟩))
            go_ret
            exact⟨rfl,hE hU6 hB9⟩
  · have hpl':planOk fr pg=false:=by cases e:planOk fr pg;rfl;exact absurd e hpl
    rw[hpl'] at HRt
    go_wp2_with (first
      | (first|(refine wp_loadW rfl 23 (.tmp 3) rfl w.heap.size rfl rowPlan b0 rfl ?_)|(refine wp_loadW rfl 23 (.tmp 3) rfl w.heap.size rfl rowPlan b2 rfl ?_)|(refine wp_loadW rfl 23 (.tmp 3) rfl w.heap.size rfl rowPlan b4 rfl ?_))
      | (go_at_call 4;refine HRt.mono ?_;rintro e w2 ⟨rfl,hB2⟩;have b2:=b0.below hB2 b0.lt;have q0:w2.cell? ⟨w.heap.size,0,none⟩=some (.int .i64 fr):=(by rw[b2.cell];rfl);have q1:w2.cell? ⟨w.heap.size,1,none⟩=some (.int .i64 pg):=(by rw[b2.cell];rfl);have q2:w2.cell? ⟨w.heap.size+1,0,none⟩=some (.int .i64 s0):=(by rw[(b1.below hB2 b1.lt).cell];rfl))
      | (go_at_call 5;refine(works8_gives _).mono ?_;rintro e w9 ⟨rfl,hB9⟩))
    go_ret
    exact⟨rfl,hE hB2 hB9⟩
end Go.Proofs.YtmllnpjldmdaeaaGreat
namespace Go.Proofs.YtmllnpjldmdaeaaGreat
open Go Lou Go.ChangeShapes Go.WideShapes Go.ChangeAt Go.RowKit
section
variable {H:Type}{enc:TypeId×Value->H}{W:World}{r:Reach}{b0 b1:Nat}{held:Bool}{v:Value}{d:DataW H}{p:List MemPlace}
theorem ac8_of {n:Nat}{cs:List Value}{x:DataW H×List MemPlace}(hl:cs.length=4)(h:DataW.trod enc Tryz.prog W b1 (fun _=>true) held n 43 cs=some x):∃y:AcT,cs=acT y:=by
  have h1i:Tryz.prog.cellsOf 3=1:=by kernel_rfl
  have h1u:Tryz.prog.cellsOf 5=1:=by kernel_rfl
  obtain⟨xs,m,_,_,_,hlx,hi⟩:=DataW.trod_struct Tryz.underlying43 h
  match cs,hl with
  | [c0,c1,c2,c3],_ =>
    have hx4:xs.length=4:=hlx
    have e0:=hi 0 _ rfl
    have e1:=hi 1 _ rfl
    have e2:=hi 2 _ rfl
    have e3:=hi 3 _ rfl
    rw[List.getElem?_eq_getElem (by omega)] at e0 e1 e2 e3
    obtain⟨z0,rfl,_⟩:=one_int (c:=c0) (l:=[c1,c2,c3]) Tryz.underlying3 h1i e0
    obtain⟨z1,rfl,_⟩:=one_int (c:=c1) (l:=[c2,c3]) Tryz.underlying3 h1i e1
    obtain⟨z2,rfl,_⟩:=one_int (c:=c2) (l:=[c3]) Tryz.underlying3 h1i e2
    obtain⟨z3,rfl,w3⟩:=one_int (c:=c3) (l:=[]) Tryz.underlying5 h1u e3
    have hz:=u8_wf w3
    refine⟨⟨z0,z1,z2,UInt8.ofNat z3.toNat⟩,?_⟩
    have:((UInt8.ofNat z3.toNat).toNat:Int)=z3:=by
      rw[UInt8.toNat_ofNat']
      omega
    unfold acT
    simp only[this]
theorem open_acts8 (hval:Value.okWide Tryz.prog W r b0 25 v)(h:DataW.Trod enc Tryz.prog W b1 (fun _=>true) held 25 v d p):∃(A:Option Addr) (k:Nat) (xs:List AcT),v = .slice A xs.length k/\InG W W.heap.size 4 A xs.length k (actV xs):=by
  obtain⟨A,n,k,rfl⟩:=okWide_slice Tryz.underlying25 hval
  obtain⟨fuel,hf⟩:=h
  have hc:Tryz.prog.cellsOf 43=4:=by kernel_rfl
  obtain⟨A',k',s,e,hin,_⟩:=one_rowC (α:=AcT) acT (by decide) (fun _=>rfl) acT_one Tryz.underlying25 hc (fun n cs x hl ht=>ac8_of hl ht) (show DataW.trod enc Tryz.prog W b1 (fun _=>true) held fuel 25 [.slice A n k]=_ from hf)
  exact⟨A',k',s,e,hin⟩
end
end Go.Proofs.YtmllnpjldmdaeaaGreat
