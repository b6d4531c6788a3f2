/- Texts that the proof of PagerNone leans on, part 15. -/
import Derived.Test.YtnlimngkagmjpaaGreatPagerNoneB14
open List renaming size_toArray → zS, length_cons → zN, length_nil → qB, push_toArray → zZ, append_toArray → zX, nil_append → zQ, cons_append → zW
open Nat renaming le_refl → zG, reduceAdd → qH, reduceSub → qI
open Array renaming replicate_succ → zU, replicate_zero → zV, getElem?_eq_some_iff → zH
set_option linter.unusedVariables false
set_option maxRecDepth 100000
set_option maxHeartbeats 8000000

namespace Go.Proofs.YtnlimngkagmjpaaGreat
open Go Go.RowKit Lou Go.Shelf
attribute [local go_sem] run_eqFseq9 Oper.semAt_some
theorem lawPN_in2 (m:Nat)(hm:10<=m)(w:World)(fr pg room:Int)(hpl:planOk fr pg=true)(h8:fr<=8)(h7:pg<=7)(hr:2<=room/\room<=2000)(hpar:¬ Int.tmod room 2=1) :
  CallsIn Fence.wide m Tryz.prog 4 #[.agg #[.int .i64 fr,.int .i64 pg],.int .i64 room] w fun e w'=>e = .returned (.bool true)/\Below w.heap.size w w':=by
 obtain⟨V0,hV0⟩:∃V0,V0=(w.alloc (.cells #[.int .i64 fr,.int .i64 pg] 25)).alloc (.cells #[.bool false] 4):=⟨_,rfl⟩
 have P0:Pl w.heap.size fr pg V0:=by
  have b1:=BlkIs.new (w.alloc (.cells #[.int .i64 fr,.int .i64 pg] 25)) 4 #[.bool false]
  rw[World.size_alloc] at b1
  rw[hV0]
  exact⟨(BlkIs.new w _ _).alloc _,b1⟩
 have hB0:Below w.heap.size w V0:=by rw[hV0];exact((Below.refl _ w).alloc (zG _) _).alloc (by simp) _
 have hm1:1<=m:=by omega
 have hfp:=(planOk_iff fr pg).1 hpl
 obtain⟨k,hk⟩:∃k:Nat,(k:Int)=2+9*fr+8*pg:=⟨(2+9*fr+8*pg).toNat,by omega⟩
 obtain⟨Pn,hPn⟩:∃Pn:Nat,(Pn:Int)=pg:=⟨pg.toNat,by omega⟩
 have HRt:∀W,Calls Tryz.prog 22 #[.agg #[.int .i64 fr,.int .i64 pg]] W fun e w'=>e = .returned (.bool true)/\Below W.heap.size W w':=fun W=>by
  have:=refRight_gives fr pg W
  rw[hpl] at this
  exact this
 have HSec:∀W,Calls Tryz.prog 7 #[.agg #[.int .i64 fr,.int .i64 pg]] W fun e w'=>e = .returned (.int .i64 (k:Int))/\Below W.heap.size W w':=fun W=>by rw[hk];exact refSectors_gives fr pg W hfp.1 hfp.2
 have HND:∀W,Calls Tryz.prog 6 #[.int .i64 (k:Int)] W fun e w'=>∃p,e = .returned (.tuple #[.pointer (some ⟨p,0,none⟩),.int .i64 0])/\W.heap.size<=p/\DkIs w' p k (fun _=>zer64) [] 0 false/\Below W.heap.size W w':=fun W=>new_gives W k (by omega) (by omega)
 have HFO:∀d W,Below V0.heap.size V0 W->V0.heap.size<=d->DkIs W d k (fun _=>zer64) [] 0 false->Calls Tryz.prog 8 #[.pointer (some ⟨d,0,none⟩),.agg #[.int .i64 fr,.int .i64 pg]] W fun e w'=>∃f l,e = .returned (.tuple #[.pointer (some ⟨f,0,none⟩),.int .i64 0])/\FhIs V0 d f l k fr pg ⟨laid (fun _=>zer64) (wrL 1 (hEnc 1 1 0 0) 1),[],0,false⟩ ⟨1,1,0,[]⟩ w':=fun d W hB hd hD =>
  (fopen_new2 W d k fr pg hB hd hD hpl hk (by omega)).mono fun e w' h=>by
   obtain⟨f,l,h1,h2,_⟩:=h
   exact⟨f,l,h1,h2⟩
 have HPO:∀d f l W,FhIs V0 d f l k fr pg ⟨laid (fun _=>zer64) (wrL 1 (hEnc 1 1 0 0) 1),[],0,false⟩ ⟨1,1,0,[]⟩ W->Calls Tryz.prog 9 #[.pointer (some ⟨f,0,none⟩),.int .i64 room] W (OpOut V0 d f l k Pn fr pg room W):=fun d f l W hF=>popen_new hF hpl hk (by omega) hPn (by omega)
 have c8:¬ 8<fr:=by omega
 have c7:¬ 7<pg:=by omega
 have HR:=Lib.hid hr
 have HPR:=Lib.hid hpar
 clear hfp hk hPn hr hpar
 refine callsIn_of_wp_marks Tryz.func4 rfl trivial ?_ rfl
 simp only[Tryz.ntmps4,zS,zN,qB,qH,qI,zU,zV,zZ,zX,zQ,zW]
 gi_wp2_with (first
  | (refine⟨trivial,?_⟩;gi_at_call 22;rw[<-hV0];refine(callsIn_wide.2 (HRt _)).mono ?_;rintro e W1 ⟨rfl,hB1⟩;have P1:=P0.grow hB1;have x0:=P1.c0;have x1:=P1.c1)
  | (refine⟨trivial,?_⟩;gi_at_call 7;refine(callsIn_wide.2 (HSec _)).mono ?_;rintro e W2 ⟨rfl,hB2⟩)
  | (refine⟨trivial,?_⟩;gi_at_call 6;refine(callsIn_wide.2 (HND _)).mono ?_;rintro e W3 ⟨d,rfl,hd,hD,hB3⟩;have P3:=(P1.grow hB2).grow hB3;have x0:=P3.c0;have x1:=P3.c1;have hB03:Below V0.heap.size V0 W3:=(hB1.trans (hB2.mono hB1.size)).trans (hB3.mono (by have:=hB1.size;have:=hB2.size;omega));have hd0:V0.heap.size<=d:=(by have:=hB1.size;have:=hB2.size;omega))
  | (refine⟨trivial,?_⟩;gi_at_call 8;refine(callsIn_wide.2 (HFO d _ hB03 hd0 hD)).mono ?_;rintro e W4 ⟨f,l,rfl,hF⟩)
  | (refine⟨trivial,?_⟩;gi_at_call 9;fail))
 have hup4:=hF.up
 refine⟨trivial,(callsIn_wide.2 (HPO d f l _ hF)).mono ?_⟩
 rintro e W5 hO
 clear HPO HFO HND HSec HRt hF hD hB03 hd0 hd hB1 hB2 hB3 P1 P3 x0 x1 c8 c7
 have hpar3:¬ room % 2=1:=by
  have h1:=HPR.out
  rw[Int.tmod_eq_emod_of_nonneg (by have:=HR.out;omega)] at h1
  exact h1
 have hr:=HR.out
 have hpar:=HPR.out
 clear HR HPR
 obtain⟨qv,rfl,hB5⟩:∃qv,e = .returned (.tuple #[.pointer qv,.int .i64 0])/\Below V0.heap.size V0 W5:=by
  rcases hO with⟨_,p,a,r,v,h1,hp,_⟩|⟨h1,_⟩
  ·exact⟨_,h1,hp.ca.cs.fh.up⟩
  ·exact absurd hr h1
 have P5:=P0.grow hB5
 have hr1:=hr.1
 have hr2:=hr.2
 clear hO hr P0
 gi_wp2_with (first
  | (refine⟨trivial,?_⟩;gi_at_call 10;refine(callsIn_wide.2 (num9_gives _ _)).mono ?_;rintro e W' ⟨rfl,rfl⟩)
  | (refine⟨trivial,?_⟩;fail_if_success (refine callsIn_wide.2 ?_)))
 obtain⟨W6,hW6⟩:∃W6,W6=W5:=⟨_,rfl⟩
 have hB56:Below W5.heap.size W5 W6:=by rw[hW6];exact Below.refl _ _
 have hN:NoneP W6 none:=.inl rfl
 rw[<-hW6]
 clear hW6
 have P6:=P5.grow hB56
 have hB06:Below w.heap.size w W6:=(hB0.trans (hB5.mono hB0.size)).trans (hB56.mono (by have:=hB0.size;have:=hB5.size;omega))
 clear P5 hB5 hB56 hr1 hpar hup4 hB0
 gi_wp2_with (first
  | (refine⟨trivial,?_⟩;gi_at_call 15;refine(callsIn_wide.2 (nmark_gives hN)).mono ?_;rintro e U1 ⟨rfl,hU1⟩;have N1:=hN.grow hU1)
  | (refine⟨trivial,?_⟩;gi_at_call 23;refine(callsIn_wide.2 (nread_gives N1)).mono ?_;rintro e U2 ⟨rfl,hU2⟩;have N2:=N1.grow hU2)
  | (refine⟨trivial,?_⟩;gi_at_call 12;refine(callsIn_wide.2 (nmake_gives N2)).mono ?_;rintro e U3 ⟨rfl,hU3⟩;have N3:=N2.grow hU3)
  | (refine⟨trivial,?_⟩;gi_at_call 24;refine(callsIn_wide.2 (nroot_gives N3)).mono ?_;rintro e U4 ⟨rfl,hU4⟩;have N4:=N3.grow hU4)
  | (refine⟨trivial,?_⟩;gi_at_call 9;refine(callsIn_wide.2 (popen_nil _ 4)).mono ?_;rintro e U5 ⟨rfl,hU5⟩;have N5:=N4.grow hU5)
  | (refine⟨trivial,?_⟩;gi_at_call 25;refine(callsIn_wide.2 (npages_gives _ _)).mono ?_;rintro e U6 ⟨q,rfl,hq,hU6⟩;have N6:=N5.grow hU6)
  | (refine⟨trivial,?_⟩;fail_if_success (refine callsIn_wide.2 ?_)))
 have hBU:=GrU.chain6 hU1 hU2 hU3 hU4 hU5 hU6
 have P7:=P6.grow hBU
 have hB07:=hB06.trans (hBU.mono hB06.size)
 clear hU1 hU2 hU3 hU4 hU5 hU6 hBU N1 N2 N3 N4 N5 P6 hB06 hN
 refine wpI_stopB (fun a0 a V=>∃D,a = { a0 with defers:={ target:=.collected D,args:=#[] }::a0.defers }/\V.heap[D]? = some (.deferred (some []))/\U6.heap.size<=D/\Below U6.heap.size U6 V) ?_ ?_
 ·intro Q' hQ
  exact wpIn_rangeFunc_no rfl hm1 (gf:=54) (lb:=#[.pointer (some ⟨q,0,none⟩)]) rfl trivial (enters_of Tryz.func54 (by kernel_rfl) rfl)
   (pages1N_seq (m - 1) (by omega) q hq N6) (fun _=>rfl) (fun D V hD hB hK=>hQ _ _ ⟨D,rfl,hK,hD,hB⟩)
 rintro a V ⟨D,rfl,hK,hD,hBV⟩
 have PV:=P7.grow hBV
 have NV:=N6.grow hBV
 have hBwV:=hB07.trans (hBV.mono hB07.size)
 gi_wp2_with (first
  | (refine⟨trivial,?_⟩;gi_at_call 10;refine(callsIn_wide.2 (num9_gives _ _)).mono ?_;rintro e W' ⟨rfl,rfl⟩)
  | (refine⟨trivial,?_⟩;gi_at_call 11;refine(callsIn_wide.2 (nbegin_gives NV)).mono ?_;rintro e U11 ⟨rfl,hU11⟩;have N11:=NV.grow hU11)
  | (refine⟨trivial,?_⟩;gi_at_call 17;refine(callsIn_wide.2 (ncommit_gives N11)).mono ?_;rintro e U12 ⟨rfl,hU12⟩;have N12:=N11.grow hU12)
  | (refine⟨trivial,?_⟩;gi_at_call 18;refine(callsIn_wide.2 (nrollback_gives N12)).mono ?_;rintro e U13 ⟨rfl,hU13⟩;have N13:=N12.grow hU13)
  | (refine⟨trivial,?_⟩;gi_at_call 16;refine(callsIn_wide.2 (nback_gives N13)).mono ?_;rintro e U14 ⟨rfl,hU14⟩;have N14:=N13.grow hU14)
  | (refine⟨trivial,?_⟩;gi_at_call 26;refine(callsIn_wide.2 (nforget_gives N14)).mono ?_;rintro e U15 ⟨rfl,hU15⟩;have N15:=N14.grow hU15)
  | (refine⟨trivial,?_⟩;gi_at_call 28;refine(callsIn_wide.2 (page9_gives _ 0)).mono ?_;rintro e U20 ⟨v20,rfl,own20,hU20⟩;obtain⟨A20,c20,rfl,hin20⟩:=own20.inB;rw[pgL0_length];have N20:=N15.grow hU20)
  | (refine⟨trivial,?_⟩;gi_at_call 27;refine(callsIn_wide.2 (nwrite_gives N20 A20 c20)).mono ?_;rintro e U21 ⟨rfl,hU21⟩;have N21:=N20.grow hU21)
  | (refine⟨trivial,?_⟩;gi_at_call 14;refine(callsIn_wide.2 (nfree_gives N21)).mono ?_;rintro e U22 ⟨rfl,hU22⟩;have N22:=N21.grow hU22)
  | (refine⟨trivial,?_⟩;gi_at_call 29;refine(callsIn_wide.2 (nsetroot_gives N22)).mono ?_;rintro e U23 ⟨rfl,hU23⟩;have N23:=N22.grow hU23)
  | (refine⟨trivial,?_⟩;gi_at_call 20;refine(callsIn_wide.2 (nsize_gives N23)).mono ?_;rintro e U24 ⟨rfl,hU24⟩;have N24:=N23.grow hU24)
  | (refine⟨trivial,?_⟩;gi_at_call 21;refine(callsIn_wide.2 (nspare_gives N24)).mono ?_;rintro e U25 ⟨rfl,hU25⟩;have N25:=N24.grow hU25)
  | (refine⟨trivial,?_⟩;gi_at_call 30;refine(callsIn_wide.2 (nunder_gives N25)).mono ?_;rintro e U26 ⟨rfl,hU26⟩;have N26:=N25.grow hU26)
  | (refine⟨trivial,?_⟩;gi_at_call 5;refine(callsIn_wide.2 (works9_gives _)).mono ?_;rintro e U30 ⟨rfl,hU30⟩;have hBZ:=GrU.chain hU11 hU12 hU13 hU14 hU15 hU20 hU21 hU22 hU23 hU24 hU25 hU26 hU30;have PZ:=PV.grow hBZ;have kZ:=PZ.b1.boxed;have fZ:=PZ.b1.free 0))
 have b10:=PZ.b1.set 0 (.bool true)
 have hBf:Below w.heap.size w (U30.setCell ⟨w.heap.size+1,0,none⟩ (.bool true)):=(hBwV.trans (hBZ.mono hBwV.size)).setCell (p:=⟨w.heap.size+1,0,none⟩) (by simp) _
 have hK8:U30.heap[D]? = some (.deferred (some [])):=(Below.block hBZ D (zH.1 hK).1).trans hK
 have hDw:w.heap.size+1<D:=by have:=P7.b1.lt;omega
 have hE1:=(Below.heap_setCell U30 ⟨w.heap.size+1,0,none⟩ (.bool true) D (by simp;omega)).trans hK8
 clear kZ fZ hK8 hK
 generalize U30.setCell ⟨w.heap.size+1,0,none⟩ (.bool true)=Z at *
 refine⟨by simp,.inl ⟨D,_,rfl,run_takeDeferred hE1,?_⟩⟩
 have b11:BlkIs (Z.putObj D (.deferred none)) (w.heap.size+1) 4 #[.bool true]:=(putObj_oth Z D (.deferred none) (g:=w.heap.size+1) (by omega)).trans b10
 exact⟨.bool true,results_cellQ (p:=⟨w.heap.size+1,0,none⟩) 4 rfl rfl (by simp[go_sem]) b11.boxed,rfl,hBf.trans (belowK_b (w:=w) (zG _) Z D _ _ (by omega) hE1 rfl rfl)⟩
end Go.Proofs.YtnlimngkagmjpaaGreat
namespace Go.Proofs.YtnlimngkagmjpaaGreat
open Go Go.RowKit Lou Go.Shelf
attribute [local go_sem] run_eqFseq9 Oper.semAt_some
theorem lawPN_in3 (m:Nat)(hm:10<=m)(w:World)(fr pg room:Int)(hpl:planOk fr pg=true)(h8:fr<=8)(h7:pg<=7)(hr:room<2)(hpar:Int.tmod room 2=1) :
  CallsIn Fence.wide m Tryz.prog 4 #[.agg #[.int .i64 fr,.int .i64 pg],.int .i64 room] w fun e w'=>e = .returned (.bool true)/\Below w.heap.size w w':=by
 obtain⟨V0,hV0⟩:∃V0,V0=(w.alloc (.cells #[.int .i64 fr,.int .i64 pg] 25)).alloc (.cells #[.bool false] 4):=⟨_,rfl⟩
 have P0:Pl w.heap.size fr pg V0:=by
  have b1:=BlkIs.new (w.alloc (.cells #[.int .i64 fr,.int .i64 pg] 25)) 4 #[.bool false]
  rw[World.size_alloc] at b1
  rw[hV0]
  exact⟨(BlkIs.new w _ _).alloc _,b1⟩
 have hB0:Below w.heap.size w V0:=by rw[hV0];exact((Below.refl _ w).alloc (zG _) _).alloc (by simp) _
 have hm1:1<=m:=by omega
 have hfp:=(planOk_iff fr pg).1 hpl
 obtain⟨k,hk⟩:∃k:Nat,(k:Int)=2+9*fr+8*pg:=⟨(2+9*fr+8*pg).toNat,by omega⟩
 obtain⟨Pn,hPn⟩:∃Pn:Nat,(Pn:Int)=pg:=⟨pg.toNat,by omega⟩
 have HRt:∀W,Calls Tryz.prog 22 #[.agg #[.int .i64 fr,.int .i64 pg]] W fun e w'=>e = .returned (.bool true)/\Below W.heap.size W w':=fun W=>by
  have:=refRight_gives fr pg W
  rw[hpl] at this
  exact this
 have HSec:∀W,Calls Tryz.prog 7 #[.agg #[.int .i64 fr,.int .i64 pg]] W fun e w'=>e = .returned (.int .i64 (k:Int))/\Below W.heap.size W w':=fun W=>by rw[hk];exact refSectors_gives fr pg W hfp.1 hfp.2
 have HND:∀W,Calls Tryz.prog 6 #[.int .i64 (k:Int)] W fun e w'=>∃p,e = .returned (.tuple #[.pointer (some ⟨p,0,none⟩),.int .i64 0])/\W.heap.size<=p/\DkIs w' p k (fun _=>zer64) [] 0 false/\Below W.heap.size W w':=fun W=>new_gives W k (by omega) (by omega)
 have HFO:∀d W,Below V0.heap.size V0 W->V0.heap.size<=d->DkIs W d k (fun _=>zer64) [] 0 false->Calls Tryz.prog 8 #[.pointer (some ⟨d,0,none⟩),.agg #[.int .i64 fr,.int .i64 pg]] W fun e w'=>∃f l,e = .returned (.tuple #[.pointer (some ⟨f,0,none⟩),.int .i64 0])/\FhIs V0 d f l k fr pg ⟨laid (fun _=>zer64) (wrL 1 (hEnc 1 1 0 0) 1),[],0,false⟩ ⟨1,1,0,[]⟩ w':=fun d W hB hd hD =>
  (fopen_new2 W d k fr pg hB hd hD hpl hk (by omega)).mono fun e w' h=>by
   obtain⟨f,l,h1,h2,_⟩:=h
   exact⟨f,l,h1,h2⟩
 have HPO:∀d f l W,FhIs V0 d f l k fr pg ⟨laid (fun _=>zer64) (wrL 1 (hEnc 1 1 0 0) 1),[],0,false⟩ ⟨1,1,0,[]⟩ W->Calls Tryz.prog 9 #[.pointer (some ⟨f,0,none⟩),.int .i64 room] W (OpOut V0 d f l k Pn fr pg room W):=fun d f l W hF=>popen_new hF hpl hk (by omega) hPn (by omega)
 have c8:¬ 8<fr:=by omega
 have c7:¬ 7<pg:=by omega
 have HR:=Lib.hid hr
 have HPR:=Lib.hid hpar
 clear hfp hk hPn hr hpar
 refine callsIn_of_wp_marks Tryz.func4 rfl trivial ?_ rfl
 simp only[Tryz.ntmps4,zS,zN,qB,qH,qI,zU,zV,zZ,zX,zQ,zW]
 gi_wp2_with (first
  | (refine⟨trivial,?_⟩;gi_at_call 22;rw[<-hV0];refine(callsIn_wide.2 (HRt _)).mono ?_;rintro e W1 ⟨rfl,hB1⟩;have P1:=P0.grow hB1;have x0:=P1.c0;have x1:=P1.c1)
  | (refine⟨trivial,?_⟩;gi_at_call 7;refine(callsIn_wide.2 (HSec _)).mono ?_;rintro e W2 ⟨rfl,hB2⟩)
  | (refine⟨trivial,?_⟩;gi_at_call 6;refine(callsIn_wide.2 (HND _)).mono ?_;rintro e W3 ⟨d,rfl,hd,hD,hB3⟩;have P3:=(P1.grow hB2).grow hB3;have x0:=P3.c0;have x1:=P3.c1;have hB03:Below V0.heap.size V0 W3:=(hB1.trans (hB2.mono hB1.size)).trans (hB3.mono (by have:=hB1.size;have:=hB2.size;omega));have hd0:V0.heap.size<=d:=(by have:=hB1.size;have:=hB2.size;omega))
  | (refine⟨trivial,?_⟩;gi_at_call 8;refine(callsIn_wide.2 (HFO d _ hB03 hd0 hD)).mono ?_;rintro e W4 ⟨f,l,rfl,hF⟩)
  | (refine⟨trivial,?_⟩;gi_at_call 9;fail))
 have hup4:=hF.up
 refine⟨trivial,(callsIn_wide.2 (HPO d f l _ hF)).mono ?_⟩
 rintro e W5 hO
 clear HPO HFO HND HSec HRt hF hD hB03 hd0 hd hB1 hB2 hB3 P1 P3 x0 x1 c8 c7
 have hr:=HR.out
 have hpar:=HPR.out
 clear HR HPR
 obtain⟨rfl,hB5⟩:e = .returned (.tuple #[.pointer none,.int .i64 2])/\Below V0.heap.size V0 W5:=by
  rcases hO with⟨h1,_⟩|⟨_,h1,h2⟩
  ·omega
  ·exact⟨h1,hup4.trans (h2.mono hup4.size)⟩
 have P5:=P0.grow hB5
 have hr1:¬ 2<=room:=by omega
 clear hO hr P0
 gi_wp2_with (first
  | (refine⟨trivial,?_⟩;gi_at_call 10;refine(callsIn_wide.2 (num9_gives _ _)).mono ?_;rintro e W' ⟨rfl,rfl⟩)
  | (refine⟨trivial,?_⟩;fail_if_success (refine callsIn_wide.2 ?_)))
 have hB56:Below W5.heap.size W5 (W5.alloc (.cells #[.int .i64 0,.int .i64 0,.int .i64 0,.int .i64 0,.int .i64 0,.int .i64 0,.int .i64 0,.int .i64 0,.int .i64 0,.int .i64 0,.int .i64 0,.int .i64 0,.int .i64 0,.int .i64 0,.int .i64 0,.int .i64 0,.int .i64 0,.int .i64 0,.int .i64 0,.pointer none,.int .i64 0,.int .i64 0,.int .i64 0,.int .i64 0,.int .i64 0,.int .i64 0,.int .i64 0,.int .i64 0,.int .i64 0,.int .i64 0,.int .i64 0,.int .i64 0,.int .i64 0,.int .i64 0,.int .i64 0,.int .i64 0,.int .i64 0,.int .i64 0,.int .i64 0,.bool false,.slice none 0 0] 55)):=(Below.refl _ _).alloc (zG _) _
 obtain⟨W6,hW6⟩:∃W6,W6=W5.alloc (.cells #[.int .i64 0,.int .i64 0,.int .i64 0,.int .i64 0,.int .i64 0,.int .i64 0,.int .i64 0,.int .i64 0,.int .i64 0,.int .i64 0,.int .i64 0,.int .i64 0,.int .i64 0,.int .i64 0,.int .i64 0,.int .i64 0,.int .i64 0,.int .i64 0,.int .i64 0,.pointer none,.int .i64 0,.int .i64 0,.int .i64 0,.int .i64 0,.int .i64 0,.int .i64 0,.int .i64 0,.int .i64 0,.int .i64 0,.int .i64 0,.int .i64 0,.int .i64 0,.int .i64 0,.int .i64 0,.int .i64 0,.int .i64 0,.int .i64 0,.int .i64 0,.int .i64 0,.bool false,.slice none 0 0] 55):=⟨_,rfl⟩
 have hN:NoneP W6 (some ⟨W5.heap.size,0,none⟩):=.inr ⟨_,rfl,by rw[hW6,(BlkIs.new W5 _ _).cell];rfl⟩
 rw[<-hW6] at hB56 ⊢
 clear hW6
 have P6:=P5.grow hB56
 have hB06:Below w.heap.size w W6:=(hB0.trans (hB5.mono hB0.size)).trans (hB56.mono (by have:=hB0.size;have:=hB5.size;omega))
 clear P5 hB5 hB56 hr1 hpar hup4 hB0
 gi_wp2_with (first
  | (refine⟨trivial,?_⟩;gi_at_call 15;refine(callsIn_wide.2 (nmark_gives hN)).mono ?_;rintro e U1 ⟨rfl,hU1⟩;have N1:=hN.grow hU1)
  | (refine⟨trivial,?_⟩;gi_at_call 23;refine(callsIn_wide.2 (nread_gives N1)).mono ?_;rintro e U2 ⟨rfl,hU2⟩;have N2:=N1.grow hU2)
  | (refine⟨trivial,?_⟩;gi_at_call 12;refine(callsIn_wide.2 (nmake_gives N2)).mono ?_;rintro e U3 ⟨rfl,hU3⟩;have N3:=N2.grow hU3)
  | (refine⟨trivial,?_⟩;gi_at_call 24;refine(callsIn_wide.2 (nroot_gives N3)).mono ?_;rintro e U4 ⟨rfl,hU4⟩;have N4:=N3.grow hU4)
  | (refine⟨trivial,?_⟩;gi_at_call 9;refine(callsIn_wide.2 (popen_nil _ 4)).mono ?_;rintro e U5 ⟨rfl,hU5⟩;have N5:=N4.grow hU5)
  | (refine⟨trivial,?_⟩;gi_at_call 25;refine(callsIn_wide.2 (npages_gives _ _)).mono ?_;rintro e U6 ⟨q,rfl,hq,hU6⟩;have N6:=N5.grow hU6)
  | (refine⟨trivial,?_⟩;fail_if_success (refine callsIn_wide.2 ?_)))
 have hBU:=GrU.chain6 hU1 hU2 hU3 hU4 hU5 hU6
 have P7:=P6.grow hBU
 have hB07:=hB06.trans (hBU.mono hB06.size)
 clear hU1 hU2 hU3 hU4 hU5 hU6 hBU N1 N2 N3 N4 N5 P6 hB06 hN
 refine wpI_stopB (fun a0 a V=>∃D,a = { a0 with defers:={ target:=.collected D,args:=#[] }::a0.defers }/\V.heap[D]? = some (.deferred (some []))/\U6.heap.size<=D/\Below U6.heap.size U6 V) ?_ ?_
 ·intro Q' hQ
  exact wpIn_rangeFunc_no rfl hm1 (gf:=54) (lb:=#[.pointer (some ⟨q,0,none⟩)]) rfl trivial (enters_of Tryz.func54 (by kernel_rfl) rfl)
   (pages1N_seq (m - 1) (by omega) q hq N6) (fun _=>rfl) (fun D V hD hB hK=>hQ _ _ ⟨D,rfl,hK,hD,hB⟩)
 rintro a V ⟨D,rfl,hK,hD,hBV⟩
 have PV:=P7.grow hBV
 have NV:=N6.grow hBV
 have hBwV:=hB07.trans (hBV.mono hB07.size)
 gi_wp2_with (first
  | (refine⟨trivial,?_⟩;gi_at_call 10;refine(callsIn_wide.2 (num9_gives _ _)).mono ?_;rintro e W' ⟨rfl,rfl⟩)
  | (refine⟨trivial,?_⟩;gi_at_call 11;refine(callsIn_wide.2 (nbegin_gives NV)).mono ?_;rintro e U11 ⟨rfl,hU11⟩;have N11:=NV.grow hU11)
  | (refine⟨trivial,?_⟩;gi_at_call 17;refine(callsIn_wide.2 (ncommit_gives N11)).mono ?_;rintro e U12 ⟨rfl,hU12⟩;have N12:=N11.grow hU12)
  | (refine⟨trivial,?_⟩;gi_at_call 18;refine(callsIn_wide.2 (nrollback_gives N12)).mono ?_;rintro e U13 ⟨rfl,hU13⟩;have N13:=N12.grow hU13)
  | (refine⟨trivial,?_⟩;gi_at_call 16;refine(callsIn_wide.2 (nback_gives N13)).mono ?_;rintro e U14 ⟨rfl,hU14⟩;have N14:=N13.grow hU14)
  | (refine⟨trivial,?_⟩;gi_at_call 26;refine(callsIn_wide.2 (nforget_gives N14)).mono ?_;rintro e U15 ⟨rfl,hU15⟩;have N15:=N14.grow hU15)
  | (refine⟨trivial,?_⟩;gi_at_call 28;refine(callsIn_wide.2 (page9_gives _ 0)).mono ?_;rintro e U20 ⟨v20,rfl,own20,hU20⟩;obtain⟨A20,c20,rfl,hin20⟩:=own20.inB;rw[pgL0_length];have N20:=N15.grow hU20)
  | (refine⟨trivial,?_⟩;gi_at_call 27;refine(callsIn_wide.2 (nwrite_gives N20 A20 c20)).mono ?_;rintro e U21 ⟨rfl,hU21⟩;have N21:=N20.grow hU21)
  | (refine⟨trivial,?_⟩;gi_at_call 14;refine(callsIn_wide.2 (nfree_gives N21)).mono ?_;rintro e U22 ⟨rfl,hU22⟩;have N22:=N21.grow hU22)
  | (refine⟨trivial,?_⟩;gi_at_call 29;refine(callsIn_wide.2 (nsetroot_gives N22)).mono ?_;rintro e U23 ⟨rfl,hU23⟩;have N23:=N22.grow hU23)
  | (refine⟨trivial,?_⟩;gi_at_call 20;refine(callsIn_wide.2 (nsize_gives N23)).mono ?_;rintro e U24 ⟨rfl,hU24⟩;have N24:=N23.grow hU24)
  | (refine⟨trivial,?_⟩;gi_at_call 21;refine(callsIn_wide.2 (nspare_gives N24)).mono ?_;rintro e U25 ⟨rfl,hU25⟩;have N25:=N24.grow hU25)
  | (refine⟨trivial,?_⟩;gi_at_call 30;refine(callsIn_wide.2 (nunder_gives N25)).mono ?_;rintro e U26 ⟨rfl,hU26⟩;have N26:=N25.grow hU26)
  | (refine⟨trivial,?_⟩;gi_at_call 5;refine(callsIn_wide.2 (works9_gives _)).mono ?_;rintro e U30 ⟨rfl,hU30⟩;have hBZ:=GrU.chain hU11 hU12 hU13 hU14 hU15 hU20 hU21 hU22 hU23 hU24 hU25 hU26 hU30;have PZ:=PV.grow hBZ;have kZ:=PZ.b1.boxed;have fZ:=PZ.b1.free 0))
 have b10:=PZ.b1.set 0 (.bool true)
 have hBf:Below w.heap.size w (U30.setCell ⟨w.heap.size+1,0,none⟩ (.bool true)):=(hBwV.trans (hBZ.mono hBwV.size)).setCell (p:=⟨w.heap.size+1,0,none⟩) (by simp) _
 have hK8:U30.heap[D]? = some (.deferred (some [])):=(Below.block hBZ D (zH.1 hK).1).trans hK
 have hDw:w.heap.size+1<D:=by have:=P7.b1.lt;omega
 have hE1:=(Below.heap_setCell U30 ⟨w.heap.size+1,0,none⟩ (.bool true) D (by simp;omega)).trans hK8
 clear kZ fZ hK8 hK
 generalize U30.setCell ⟨w.heap.size+1,0,none⟩ (.bool true)=Z at *
 refine⟨by simp,.inl ⟨D,_,rfl,run_takeDeferred hE1,?_⟩⟩
 have b11:BlkIs (Z.putObj D (.deferred none)) (w.heap.size+1) 4 #[.bool true]:=(putObj_oth Z D (.deferred none) (g:=w.heap.size+1) (by omega)).trans b10
 exact⟨.bool true,results_cellQ (p:=⟨w.heap.size+1,0,none⟩) 4 rfl rfl (by simp[go_sem]) b11.boxed,rfl,hBf.trans (belowK_b (w:=w) (zG _) Z D _ _ (by omega) hE1 rfl rfl)⟩
end Go.Proofs.YtnlimngkagmjpaaGreat
namespace Go.Proofs.YtnlimngkagmjpaaGreat
open Go Go.RowKit Lou Go.Shelf
attribute [local go_sem] run_eqFseq9 Oper.semAt_some
theorem lawPN_in4 (m:Nat)(hm:10<=m)(w:World)(fr pg room:Int)(hpl:planOk fr pg=true)(h8:fr<=8)(h7:pg<=7)(hr:room<2)(hpar:¬ Int.tmod room 2=1) :
  CallsIn Fence.wide m Tryz.prog 4 #[.agg #[.int .i64 fr,.int .i64 pg],.int .i64 room] w fun e w'=>e = .returned (.bool true)/\Below w.heap.size w w':=by
 obtain⟨V0,hV0⟩:∃V0,V0=(w.alloc (.cells #[.int .i64 fr,.int .i64 pg] 25)).alloc (.cells #[.bool false] 4):=⟨_,rfl⟩
 have P0:Pl w.heap.size fr pg V0:=by
  have b1:=BlkIs.new (w.alloc (.cells #[.int .i64 fr,.int .i64 pg] 25)) 4 #[.bool false]
  rw[World.size_alloc] at b1
  rw[hV0]
  exact⟨(BlkIs.new w _ _).alloc _,b1⟩
 have hB0:Below w.heap.size w V0:=by rw[hV0];exact((Below.refl _ w).alloc (zG _) _).alloc (by simp) _
 have hm1:1<=m:=by omega
 have hfp:=(planOk_iff fr pg).1 hpl
 obtain⟨k,hk⟩:∃k:Nat,(k:Int)=2+9*fr+8*pg:=⟨(2+9*fr+8*pg).toNat,by omega⟩
 obtain⟨Pn,hPn⟩:∃Pn:Nat,(Pn:Int)=pg:=⟨pg.toNat,by omega⟩
 have HRt:∀W,Calls Tryz.prog 22 #[.agg #[.int .i64 fr,.int .i64 pg]] W fun e w'=>e = .returned (.bool true)/\Below W.heap.size W w':=fun W=>by
  have:=refRight_gives fr pg W
  rw[hpl] at this
  exact this
 have HSec:∀W,Calls Tryz.prog 7 #[.agg #[.int .i64 fr,.int .i64 pg]] W fun e w'=>e = .returned (.int .i64 (k:Int))/\Below W.heap.size W w':=fun W=>by rw[hk];exact refSectors_gives fr pg W hfp.1 hfp.2
 have HND:∀W,Calls Tryz.prog 6 #[.int .i64 (k:Int)] W fun e w'=>∃p,e = .returned (.tuple #[.pointer (some ⟨p,0,none⟩),.int .i64 0])/\W.heap.size<=p/\DkIs w' p k (fun _=>zer64) [] 0 false/\Below W.heap.size W w':=fun W=>new_gives W k (by omega) (by omega)
 have HFO:∀d W,Below V0.heap.size V0 W->V0.heap.size<=d->DkIs W d k (fun _=>zer64) [] 0 false->Calls Tryz.prog 8 #[.pointer (some ⟨d,0,none⟩),.agg #[.int .i64 fr,.int .i64 pg]] W fun e w'=>∃f l,e = .returned (.tuple #[.pointer (some ⟨f,0,none⟩),.int .i64 0])/\FhIs V0 d f l k fr pg ⟨laid (fun _=>zer64) (wrL 1 (hEnc 1 1 0 0) 1),[],0,false⟩ ⟨1,1,0,[]⟩ w':=fun d W hB hd hD =>
  (fopen_new2 W d k fr pg hB hd hD hpl hk (by omega)).mono fun e w' h=>by
   obtain⟨f,l,h1,h2,_⟩:=h
   exact⟨f,l,h1,h2⟩
 have HPO:∀d f l W,FhIs V0 d f l k fr pg ⟨laid (fun _=>zer64) (wrL 1 (hEnc 1 1 0 0) 1),[],0,false⟩ ⟨1,1,0,[]⟩ W->Calls Tryz.prog 9 #[.pointer (some ⟨f,0,none⟩),.int .i64 room] W (OpOut V0 d f l k Pn fr pg room W):=fun d f l W hF=>popen_new hF hpl hk (by omega) hPn (by omega)
 have c8:¬ 8<fr:=by omega
 have c7:¬ 7<pg:=by omega
 have HR:=Lib.hid hr
 have HPR:=Lib.hid hpar
 clear hfp hk hPn hr hpar
 refine callsIn_of_wp_marks Tryz.func4 rfl trivial ?_ rfl
 simp only[Tryz.ntmps4,zS,zN,qB,qH,qI,zU,zV,zZ,zX,zQ,zW]
 gi_wp2_with (first
  | (refine⟨trivial,?_⟩;gi_at_call 22;rw[<-hV0];refine(callsIn_wide.2 (HRt _)).mono ?_;rintro e W1 ⟨rfl,hB1⟩;have P1:=P0.grow hB1;have x0:=P1.c0;have x1:=P1.c1)
  | (refine⟨trivial,?_⟩;gi_at_call 7;refine(callsIn_wide.2 (HSec _)).mono ?_;rintro e W2 ⟨rfl,hB2⟩)
  | (refine⟨trivial,?_⟩;gi_at_call 6;refine(callsIn_wide.2 (HND _)).mono ?_;rintro e W3 ⟨d,rfl,hd,hD,hB3⟩;have P3:=(P1.grow hB2).grow hB3;have x0:=P3.c0;have x1:=P3.c1;have hB03:Below V0.heap.size V0 W3:=(hB1.trans (hB2.mono hB1.size)).trans (hB3.mono (by have:=hB1.size;have:=hB2.size;omega));have hd0:V0.heap.size<=d:=(by have:=hB1.size;have:=hB2.size;omega))
  | (refine⟨trivial,?_⟩;gi_at_call 8;refine(callsIn_wide.2 (HFO d _ hB03 hd0 hD)).mono ?_;rintro e W4 ⟨f,l,rfl,hF⟩)
  | (refine⟨trivial,?_⟩;gi_at_call 9;fail))
 have hup4:=hF.up
 refine⟨trivial,(callsIn_wide.2 (HPO d f l _ hF)).mono ?_⟩
 rintro e W5 hO
 clear HPO HFO HND HSec HRt hF hD hB03 hd0 hd hB1 hB2 hB3 P1 P3 x0 x1 c8 c7
 have hr:=HR.out
 have hpar:=HPR.out
 clear HR HPR
 obtain⟨rfl,hB5⟩:e = .returned (.tuple #[.pointer none,.int .i64 2])/\Below V0.heap.size V0 W5:=by
  rcases hO with⟨h1,_⟩|⟨_,h1,h2⟩
  ·omega
  ·exact⟨h1,hup4.trans (h2.mono hup4.size)⟩
 have P5:=P0.grow hB5
 have hr1:¬ 2<=room:=by omega
 clear hO hr P0
 gi_wp2_with (first
  | (refine⟨trivial,?_⟩;gi_at_call 10;refine(callsIn_wide.2 (num9_gives _ _)).mono ?_;rintro e W' ⟨rfl,rfl⟩)
  | (refine⟨trivial,?_⟩;fail_if_success (refine callsIn_wide.2 ?_)))
 obtain⟨W6,hW6⟩:∃W6,W6=W5:=⟨_,rfl⟩
 have hB56:Below W5.heap.size W5 W6:=by rw[hW6];exact Below.refl _ _
 have hN:NoneP W6 none:=.inl rfl
 rw[<-hW6]
 clear hW6
 have P6:=P5.grow hB56
 have hB06:Below w.heap.size w W6:=(hB0.trans (hB5.mono hB0.size)).trans (hB56.mono (by have:=hB0.size;have:=hB5.size;omega))
 clear P5 hB5 hB56 hr1 hpar hup4 hB0
 gi_wp2_with (first
  | (refine⟨trivial,?_⟩;gi_at_call 15;refine(callsIn_wide.2 (nmark_gives hN)).mono ?_;rintro e U1 ⟨rfl,hU1⟩;have N1:=hN.grow hU1)
  | (refine⟨trivial,?_⟩;gi_at_call 23;refine(callsIn_wide.2 (nread_gives N1)).mono ?_;rintro e U2 ⟨rfl,hU2⟩;have N2:=N1.grow hU2)
  | (refine⟨trivial,?_⟩;gi_at_call 12;refine(callsIn_wide.2 (nmake_gives N2)).mono ?_;rintro e U3 ⟨rfl,hU3⟩;have N3:=N2.grow hU3)
  | (refine⟨trivial,?_⟩;gi_at_call 24;refine(callsIn_wide.2 (nroot_gives N3)).mono ?_;rintro e U4 ⟨rfl,hU4⟩;have N4:=N3.grow hU4)
  | (refine⟨trivial,?_⟩;gi_at_call 9;refine(callsIn_wide.2 (popen_nil _ 4)).mono ?_;rintro e U5 ⟨rfl,hU5⟩;have N5:=N4.grow hU5)
  | (refine⟨trivial,?_⟩;gi_at_call 25;refine(callsIn_wide.2 (npages_gives _ _)).mono ?_;rintro e U6 ⟨q,rfl,hq,hU6⟩;have N6:=N5.grow hU6)
  | (refine⟨trivial,?_⟩;fail_if_success (refine callsIn_wide.2 ?_)))
 have hBU:=GrU.chain6 hU1 hU2 hU3 hU4 hU5 hU6
 have P7:=P6.grow hBU
 have hB07:=hB06.trans (hBU.mono hB06.size)
 clear hU1 hU2 hU3 hU4 hU5 hU6 hBU N1 N2 N3 N4 N5 P6 hB06 hN
 refine wpI_stopB (fun a0 a V=>∃D,a = { a0 with defers:={ target:=.collected D,args:=#[] }::a0.defers }/\V.heap[D]? = some (.deferred (some []))/\U6.heap.size<=D/\Below U6.heap.size U6 V) ?_ ?_
 ·intro Q' hQ
  exact wpIn_rangeFunc_no rfl hm1 (gf:=54) (lb:=#[.pointer (some ⟨q,0,none⟩)]) rfl trivial (enters_of Tryz.func54 (by kernel_rfl) rfl)
   (pages1N_seq (m - 1) (by omega) q hq N6) (fun _=>rfl) (fun D V hD hB hK=>hQ _ _ ⟨D,rfl,hK,hD,hB⟩)
 rintro a V ⟨D,rfl,hK,hD,hBV⟩
 have PV:=P7.grow hBV
 have NV:=N6.grow hBV
 have hBwV:=hB07.trans (hBV.mono hB07.size)
 gi_wp2_with (first
  | (refine⟨trivial,?_⟩;gi_at_call 10;refine(callsIn_wide.2 (num9_gives _ _)).mono ?_;rintro e W' ⟨rfl,rfl⟩)
  | (refine⟨trivial,?_⟩;gi_at_call 11;refine(callsIn_wide.2 (nbegin_gives NV)).mono ?_;rintro e U11 ⟨rfl,hU11⟩;have N11:=NV.grow hU11)
  | (refine⟨trivial,?_⟩;gi_at_call 17;refine(callsIn_wide.2 (ncommit_gives N11)).mono ?_;rintro e U12 ⟨rfl,hU12⟩;have N12:=N11.grow hU12)
  | (refine⟨trivial,?_⟩;gi_at_call 18;refine(callsIn_wide.2 (nrollback_gives N12)).mono ?_;rintro e U13 ⟨rfl,hU13⟩;have N13:=N12.grow hU13)
  | (refine⟨trivial,?_⟩;gi_at_call 16;refine(callsIn_wide.2 (nback_gives N13)).mono ?_;rintro e U14 ⟨rfl,hU14⟩;have N14:=N13.grow hU14)
  | (refine⟨trivial,?_⟩;gi_at_call 26;refine(callsIn_wide.2 (nforget_gives N14)).mono ?_;rintro e U15 ⟨rfl,hU15⟩;have N15:=N14.grow hU15)
  | (refine⟨trivial,?_⟩;gi_at_call 28;refine(callsIn_wide.2 (page9_gives _ 0)).mono ?_;rintro e U20 ⟨v20,rfl,own20,hU20⟩;obtain⟨A20,c20,rfl,hin20⟩:=own20.inB;rw[pgL0_length];have N20:=N15.grow hU20)
  | (refine⟨trivial,?_⟩;gi_at_call 27;refine(callsIn_wide.2 (nwrite_gives N20 A20 c20)).mono ?_;rintro e U21 ⟨rfl,hU21⟩;have N21:=N20.grow hU21)
  | (refine⟨trivial,?_⟩;gi_at_call 14;refine(callsIn_wide.2 (nfree_gives N21)).mono ?_;rintro e U22 ⟨rfl,hU22⟩;have N22:=N21.grow hU22)
  | (refine⟨trivial,?_⟩;gi_at_call 29;refine(callsIn_wide.2 (nsetroot_gives N22)).mono ?_;rintro e U23 ⟨rfl,hU23⟩;have N23:=N22.grow hU23)
  | (refine⟨trivial,?_⟩;gi_at_call 20;refine(callsIn_wide.2 (nsize_gives N23)).mono ?_;rintro e U24 ⟨rfl,hU24⟩;have N24:=N23.grow hU24)
  | (refine⟨trivial,?_⟩;gi_at_call 21;refine(callsIn_wide.2 (nspare_gives N24)).mono ?_;rintro e U25 ⟨rfl,hU25⟩;have N25:=N24.grow hU25)
  | (refine⟨trivial,?_⟩;gi_at_call 30;refine(callsIn_wide.2 (nunder_gives N25)).mono ?_;rintro e U26 ⟨rfl,hU26⟩;have N26:=N25.grow hU26)
  | (refine⟨trivial,?_⟩;gi_at_call 5;refine(callsIn_wide.2 (works9_gives _)).mono ?_;rintro e U30 ⟨rfl,hU30⟩;have hBZ:=GrU.chain hU11 hU12 hU13 hU14 hU15 hU20 hU21 hU22 hU23 hU24 hU25 hU26 hU30;have PZ:=PV.grow hBZ;have kZ:=PZ.b1.boxed;have fZ:=PZ.b1.free 0))
 have b10:=PZ.b1.set 0 (.bool true)
 have hBf:Below w.heap.size w (U30.setCell ⟨w.heap.size+1,0,none⟩ (.bool true)):=(hBwV.trans (hBZ.mono hBwV.size)).setCell (p:=⟨w.heap.size+1,0,none⟩) (by simp) _
 have hK8:U30.heap[D]? = some (.deferred (some [])):=(Below.block hBZ D (zH.1 hK).1).trans hK
 have hDw:w.heap.size+1<D:=by have:=P7.b1.lt;omega
 have hE1:=(Below.heap_setCell U30 ⟨w.heap.size+1,0,none⟩ (.bool true) D (by simp;omega)).trans hK8
 clear kZ fZ hK8 hK
 generalize U30.setCell ⟨w.heap.size+1,0,none⟩ (.bool true)=Z at *
 refine⟨by simp,.inl ⟨D,_,rfl,run_takeDeferred hE1,?_⟩⟩
 have b11:BlkIs (Z.putObj D (.deferred none)) (w.heap.size+1) 4 #[.bool true]:=(putObj_oth Z D (.deferred none) (g:=w.heap.size+1) (by omega)).trans b10
 exact⟨.bool true,results_cellQ (p:=⟨w.heap.size+1,0,none⟩) 4 rfl rfl (by simp[go_sem]) b11.boxed,rfl,hBf.trans (belowK_b (w:=w) (zG _) Z D _ _ (by omega) hE1 rfl rfl)⟩
end Go.Proofs.YtnlimngkagmjpaaGreat
namespace Go.Proofs.YtnlimngkagmjpaaGreat
open Go Go.RowKit Lou Go.Shelf
attribute [local go_sem] run_eqFseq9 Oper.semAt_some
theorem lawPN_in5 (m:Nat)(hm:10<=m)(w:World)(fr pg room:Int)(hpl:planOk fr pg=true)(h8:fr<=8)(h7:pg<=7)(hr:2<=room/\2000<room)(hpar:Int.tmod room 2=1) :
  CallsIn Fence.wide m Tryz.prog 4 #[.agg #[.int .i64 fr,.int .i64 pg],.int .i64 room] w fun e w'=>e = .returned (.bool true)/\Below w.heap.size w w':=by
 obtain⟨V0,hV0⟩:∃V0,V0=(w.alloc (.cells #[.int .i64 fr,.int .i64 pg] 25)).alloc (.cells #[.bool false] 4):=⟨_,rfl⟩
 have P0:Pl w.heap.size fr pg V0:=by
  have b1:=BlkIs.new (w.alloc (.cells #[.int .i64 fr,.int .i64 pg] 25)) 4 #[.bool false]
  rw[World.size_alloc] at b1
  rw[hV0]
  exact⟨(BlkIs.new w _ _).alloc _,b1⟩
 have hB0:Below w.heap.size w V0:=by rw[hV0];exact((Below.refl _ w).alloc (zG _) _).alloc (by simp) _
 have hm1:1<=m:=by omega
 have hfp:=(planOk_iff fr pg).1 hpl
 obtain⟨k,hk⟩:∃k:Nat,(k:Int)=2+9*fr+8*pg:=⟨(2+9*fr+8*pg).toNat,by omega⟩
 obtain⟨Pn,hPn⟩:∃Pn:Nat,(Pn:Int)=pg:=⟨pg.toNat,by omega⟩
 have HRt:∀W,Calls Tryz.prog 22 #[.agg #[.int .i64 fr,.int .i64 pg]] W fun e w'=>e = .returned (.bool true)/\Below W.heap.size W w':=fun W=>by
  have:=refRight_gives fr pg W
  rw[hpl] at this
  exact this
 have HSec:∀W,Calls Tryz.prog 7 #[.agg #[.int .i64 fr,.int .i64 pg]] W fun e w'=>e = .returned (.int .i64 (k:Int))/\Below W.heap.size W w':=fun W=>by rw[hk];exact refSectors_gives fr pg W hfp.1 hfp.2
 have HND:∀W,Calls Tryz.prog 6 #[.int .i64 (k:Int)] W fun e w'=>∃p,e = .returned (.tuple #[.pointer (some ⟨p,0,none⟩),.int .i64 0])/\W.heap.size<=p/\DkIs w' p k (fun _=>zer64) [] 0 false/\Below W.heap.size W w':=fun W=>new_gives W k (by omega) (by omega)
 have HFO:∀d W,Below V0.heap.size V0 W->V0.heap.size<=d->DkIs W d k (fun _=>zer64) [] 0 false->Calls Tryz.prog 8 #[.pointer (some ⟨d,0,none⟩),.agg #[.int .i64 fr,.int .i64 pg]] W fun e w'=>∃f l,e = .returned (.tuple #[.pointer (some ⟨f,0,none⟩),.int .i64 0])/\FhIs V0 d f l k fr pg ⟨laid (fun _=>zer64) (wrL 1 (hEnc 1 1 0 0) 1),[],0,false⟩ ⟨1,1,0,[]⟩ w':=fun d W hB hd hD =>
  (fopen_new2 W d k fr pg hB hd hD hpl hk (by omega)).mono fun e w' h=>by
   obtain⟨f,l,h1,h2,_⟩:=h
   exact⟨f,l,h1,h2⟩
 have HPO:∀d f l W,FhIs V0 d f l k fr pg ⟨laid (fun _=>zer64) (wrL 1 (hEnc 1 1 0 0) 1),[],0,false⟩ ⟨1,1,0,[]⟩ W->Calls Tryz.prog 9 #[.pointer (some ⟨f,0,none⟩),.int .i64 room] W (OpOut V0 d f l k Pn fr pg room W):=fun d f l W hF=>popen_new hF hpl hk (by omega) hPn (by omega)
 have c8:¬ 8<fr:=by omega
 have c7:¬ 7<pg:=by omega
 have HR:=Lib.hid hr
 have HPR:=Lib.hid hpar
 clear hfp hk hPn hr hpar
 refine callsIn_of_wp_marks Tryz.func4 rfl trivial ?_ rfl
 simp only[Tryz.ntmps4,zS,zN,qB,qH,qI,zU,zV,zZ,zX,zQ,zW]
 gi_wp2_with (first
  | (refine⟨trivial,?_⟩;gi_at_call 22;rw[<-hV0];refine(callsIn_wide.2 (HRt _)).mono ?_;rintro e W1 ⟨rfl,hB1⟩;have P1:=P0.grow hB1;have x0:=P1.c0;have x1:=P1.c1)
  | (refine⟨trivial,?_⟩;gi_at_call 7;refine(callsIn_wide.2 (HSec _)).mono ?_;rintro e W2 ⟨rfl,hB2⟩)
  | (refine⟨trivial,?_⟩;gi_at_call 6;refine(callsIn_wide.2 (HND _)).mono ?_;rintro e W3 ⟨d,rfl,hd,hD,hB3⟩;have P3:=(P1.grow hB2).grow hB3;have x0:=P3.c0;have x1:=P3.c1;have hB03:Below V0.heap.size V0 W3:=(hB1.trans (hB2.mono hB1.size)).trans (hB3.mono (by have:=hB1.size;have:=hB2.size;omega));have hd0:V0.heap.size<=d:=(by have:=hB1.size;have:=hB2.size;omega))
  | (refine⟨trivial,?_⟩;gi_at_call 8;refine(callsIn_wide.2 (HFO d _ hB03 hd0 hD)).mono ?_;rintro e W4 ⟨f,l,rfl,hF⟩)
  | (refine⟨trivial,?_⟩;gi_at_call 9;fail))
 have hup4:=hF.up
 refine⟨trivial,(callsIn_wide.2 (HPO d f l _ hF)).mono ?_⟩
 rintro e W5 hO
 clear HPO HFO HND HSec HRt hF hD hB03 hd0 hd hB1 hB2 hB3 P1 P3 x0 x1 c8 c7
 have hr:=HR.out
 have hpar:=HPR.out
 clear HR HPR
 obtain⟨rfl,hB5⟩:e = .returned (.tuple #[.pointer none,.int .i64 2])/\Below V0.heap.size V0 W5:=by
  rcases hO with⟨h1,_⟩|⟨_,h1,h2⟩
  ·omega
  ·exact⟨h1,hup4.trans (h2.mono hup4.size)⟩
 have P5:=P0.grow hB5
 have hr1:2<=room:=hr.1
 have hr2:¬ room<=2000:=by omega
 clear hO hr P0
 gi_wp2_with (first
  | (refine⟨trivial,?_⟩;gi_at_call 10;refine(callsIn_wide.2 (num9_gives _ _)).mono ?_;rintro e W' ⟨rfl,rfl⟩)
  | (refine⟨trivial,?_⟩;fail_if_success (refine callsIn_wide.2 ?_)))
 have hB56:Below W5.heap.size W5 (W5.alloc (.cells #[.int .i64 0,.int .i64 0,.int .i64 0,.int .i64 0,.int .i64 0,.int .i64 0,.int .i64 0,.int .i64 0,.int .i64 0,.int .i64 0,.int .i64 0,.int .i64 0,.int .i64 0,.int .i64 0,.int .i64 0,.int .i64 0,.int .i64 0,.int .i64 0,.int .i64 0,.pointer none,.int .i64 0,.int .i64 0,.int .i64 0,.int .i64 0,.int .i64 0,.int .i64 0,.int .i64 0,.int .i64 0,.int .i64 0,.int .i64 0,.int .i64 0,.int .i64 0,.int .i64 0,.int .i64 0,.int .i64 0,.int .i64 0,.int .i64 0,.int .i64 0,.int .i64 0,.bool false,.slice none 0 0] 55)):=(Below.refl _ _).alloc (zG _) _
 obtain⟨W6,hW6⟩:∃W6,W6=W5.alloc (.cells #[.int .i64 0,.int .i64 0,.int .i64 0,.int .i64 0,.int .i64 0,.int .i64 0,.int .i64 0,.int .i64 0,.int .i64 0,.int .i64 0,.int .i64 0,.int .i64 0,.int .i64 0,.int .i64 0,.int .i64 0,.int .i64 0,.int .i64 0,.int .i64 0,.int .i64 0,.pointer none,.int .i64 0,.int .i64 0,.int .i64 0,.int .i64 0,.int .i64 0,.int .i64 0,.int .i64 0,.int .i64 0,.int .i64 0,.int .i64 0,.int .i64 0,.int .i64 0,.int .i64 0,.int .i64 0,.int .i64 0,.int .i64 0,.int .i64 0,.int .i64 0,.int .i64 0,.bool false,.slice none 0 0] 55):=⟨_,rfl⟩
 have hN:NoneP W6 (some ⟨W5.heap.size,0,none⟩):=.inr ⟨_,rfl,by rw[hW6,(BlkIs.new W5 _ _).cell];rfl⟩
 rw[<-hW6] at hB56 ⊢
 clear hW6
 have P6:=P5.grow hB56
 have hB06:Below w.heap.size w W6:=(hB0.trans (hB5.mono hB0.size)).trans (hB56.mono (by have:=hB0.size;have:=hB5.size;omega))
 clear P5 hB5 hB56 hr1 hpar hup4 hB0
 gi_wp2_with (first
  | (refine⟨trivial,?_⟩;gi_at_call 15;refine(callsIn_wide.2 (nmark_gives hN)).mono ?_;rintro e U1 ⟨rfl,hU1⟩;have N1:=hN.grow hU1)
  | (refine⟨trivial,?_⟩;gi_at_call 23;refine(callsIn_wide.2 (nread_gives N1)).mono ?_;rintro e U2 ⟨rfl,hU2⟩;have N2:=N1.grow hU2)
  | (refine⟨trivial,?_⟩;gi_at_call 12;refine(callsIn_wide.2 (nmake_gives N2)).mono ?_;rintro e U3 ⟨rfl,hU3⟩;have N3:=N2.grow hU3)
  | (refine⟨trivial,?_⟩;gi_at_call 24;refine(callsIn_wide.2 (nroot_gives N3)).mono ?_;rintro e U4 ⟨rfl,hU4⟩;have N4:=N3.grow hU4)
  | (refine⟨trivial,?_⟩;gi_at_call 9;refine(callsIn_wide.2 (popen_nil _ 4)).mono ?_;rintro e U5 ⟨rfl,hU5⟩;have N5:=N4.grow hU5)
  | (refine⟨trivial,?_⟩;gi_at_call 25;refine(callsIn_wide.2 (npages_gives _ _)).mono ?_;rintro e U6 ⟨q,rfl,hq,hU6⟩;have N6:=N5.grow hU6)
  | (refine⟨trivial,?_⟩;fail_if_success (refine callsIn_wide.2 ?_)))
 have hBU:=GrU.chain6 hU1 hU2 hU3 hU4 hU5 hU6
 have P7:=P6.grow hBU
 have hB07:=hB06.trans (hBU.mono hB06.size)
 clear hU1 hU2 hU3 hU4 hU5 hU6 hBU N1 N2 N3 N4 N5 P6 hB06 hN
 refine wpI_stopB (fun a0 a V=>∃D,a = { a0 with defers:={ target:=.collected D,args:=#[] }::a0.defers }/\V.heap[D]? = some (.deferred (some []))/\U6.heap.size<=D/\Below U6.heap.size U6 V) ?_ ?_
 ·intro Q' hQ
  exact wpIn_rangeFunc_no rfl hm1 (gf:=54) (lb:=#[.pointer (some ⟨q,0,none⟩)]) rfl trivial (enters_of Tryz.func54 (by kernel_rfl) rfl)
   (pages1N_seq (m - 1) (by omega) q hq N6) (fun _=>rfl) (fun D V hD hB hK=>hQ _ _ ⟨D,rfl,hK,hD,hB⟩)
 rintro a V ⟨D,rfl,hK,hD,hBV⟩
 have PV:=P7.grow hBV
 have NV:=N6.grow hBV
 have hBwV:=hB07.trans (hBV.mono hB07.size)
 gi_wp2_with (first
  | (refine⟨trivial,?_⟩;gi_at_call 10;refine(callsIn_wide.2 (num9_gives _ _)).mono ?_;rintro e W' ⟨rfl,rfl⟩)
  | (refine⟨trivial,?_⟩;gi_at_call 11;refine(callsIn_wide.2 (nbegin_gives NV)).mono ?_;rintro e U11 ⟨rfl,hU11⟩;have N11:=NV.grow hU11)
  | (refine⟨trivial,?_⟩;gi_at_call 17;refine(callsIn_wide.2 (ncommit_gives N11)).mono ?_;rintro e U12 ⟨rfl,hU12⟩;have N12:=N11.grow hU12)
  | (refine⟨trivial,?_⟩;gi_at_call 18;refine(callsIn_wide.2 (nrollback_gives N12)).mono ?_;rintro e U13 ⟨rfl,hU13⟩;have N13:=N12.grow hU13)
  | (refine⟨trivial,?_⟩;gi_at_call 16;refine(callsIn_wide.2 (nback_gives N13)).mono ?_;rintro e U14 ⟨rfl,hU14⟩;have N14:=N13.grow hU14)
  | (refine⟨trivial,?_⟩;gi_at_call 26;refine(callsIn_wide.2 (nforget_gives N14)).mono ?_;rintro e U15 ⟨rfl,hU15⟩;have N15:=N14.grow hU15)
  | (refine⟨trivial,?_⟩;gi_at_call 28;refine(callsIn_wide.2 (page9_gives _ 0)).mono ?_;rintro e U20 ⟨v20,rfl,own20,hU20⟩;obtain⟨A20,c20,rfl,hin20⟩:=own20.inB;rw[pgL0_length];have N20:=N15.grow hU20)
  | (refine⟨trivial,?_⟩;gi_at_call 27;refine(callsIn_wide.2 (nwrite_gives N20 A20 c20)).mono ?_;rintro e U21 ⟨rfl,hU21⟩;have N21:=N20.grow hU21)
  | (refine⟨trivial,?_⟩;gi_at_call 14;refine(callsIn_wide.2 (nfree_gives N21)).mono ?_;rintro e U22 ⟨rfl,hU22⟩;have N22:=N21.grow hU22)
  | (refine⟨trivial,?_⟩;gi_at_call 29;refine(callsIn_wide.2 (nsetroot_gives N22)).mono ?_;rintro e U23 ⟨rfl,hU23⟩;have N23:=N22.grow hU23)
  | (refine⟨trivial,?_⟩;gi_at_call 20;refine(callsIn_wide.2 (nsize_gives N23)).mono ?_;rintro e U24 ⟨rfl,hU24⟩;have N24:=N23.grow hU24)
  | (refine⟨trivial,?_⟩;gi_at_call 21;refine(callsIn_wide.2 (nspare_gives N24)).mono ?_;rintro e U25 ⟨rfl,hU25⟩;have N25:=N24.grow hU25)
  | (refine⟨trivial,?_⟩;gi_at_call 30;refine(callsIn_wide.2 (nunder_gives N25)).mono ?_;rintro e U26 ⟨rfl,hU26⟩;have N26:=N25.grow hU26)
  | (refine⟨trivial,?_⟩;gi_at_call 5;refine(callsIn_wide.2 (works9_gives _)).mono ?_;rintro e U30 ⟨rfl,hU30⟩;have hBZ:=GrU.chain hU11 hU12 hU13 hU14 hU15 hU20 hU21 hU22 hU23 hU24 hU25 hU26 hU30;have PZ:=PV.grow hBZ;have kZ:=PZ.b1.boxed;have fZ:=PZ.b1.free 0))
 have b10:=PZ.b1.set 0 (.bool true)
 have hBf:Below w.heap.size w (U30.setCell ⟨w.heap.size+1,0,none⟩ (.bool true)):=(hBwV.trans (hBZ.mono hBwV.size)).setCell (p:=⟨w.heap.size+1,0,none⟩) (by simp) _
 have hK8:U30.heap[D]? = some (.deferred (some [])):=(Below.block hBZ D (zH.1 hK).1).trans hK
 have hDw:w.heap.size+1<D:=by have:=P7.b1.lt;omega
 have hE1:=(Below.heap_setCell U30 ⟨w.heap.size+1,0,none⟩ (.bool true) D (by simp;omega)).trans hK8
 clear kZ fZ hK8 hK
 generalize U30.setCell ⟨w.heap.size+1,0,none⟩ (.bool true)=Z at *
 refine⟨by simp,.inl ⟨D,_,rfl,run_takeDeferred hE1,?_⟩⟩
 have b11:BlkIs (Z.putObj D (.deferred none)) (w.heap.size+1) 4 #[.bool true]:=(putObj_oth Z D (.deferred none) (g:=w.heap.size+1) (by omega)).trans b10
 exact⟨.bool true,results_cellQ (p:=⟨w.heap.size+1,0,none⟩) 4 rfl rfl (by simp[go_sem]) b11.boxed,rfl,hBf.trans (belowK_b (w:=w) (zG _) Z D _ _ (by omega) hE1 rfl rfl)⟩
end Go.Proofs.YtnlimngkagmjpaaGreat
namespace Go.Proofs.YtnlimngkagmjpaaGreat
open Go Go.RowKit Lou Go.Shelf
attribute [local go_sem] run_eqFseq9 Oper.semAt_some
theorem lawPN_in6 (m:Nat)(hm:10<=m)(w:World)(fr pg room:Int)(hpl:planOk fr pg=true)(h8:fr<=8)(h7:pg<=7)(hr:2<=room/\2000<room)(hpar:¬ Int.tmod room 2=1) :
  CallsIn Fence.wide m Tryz.prog 4 #[.agg #[.int .i64 fr,.int .i64 pg],.int .i64 room] w fun e w'=>e = .returned (.bool true)/\Below w.heap.size w w':=by
 obtain⟨V0,hV0⟩:∃V0,V0=(w.alloc (.cells #[.int .i64 fr,.int .i64 pg] 25)).alloc (.cells #[.bool false] 4):=⟨_,rfl⟩
 have P0:Pl w.heap.size fr pg V0:=by
  have b1:=BlkIs.new (w.alloc (.cells #[.int .i64 fr,.int .i64 pg] 25)) 4 #[.bool false]
  rw[World.size_alloc] at b1
  rw[hV0]
  exact⟨(BlkIs.new w _ _).alloc _,b1⟩
 have hB0:Below w.heap.size w V0:=by rw[hV0];exact((Below.refl _ w).alloc (zG _) _).alloc (by simp) _
 have hm1:1<=m:=by omega
 have hfp:=(planOk_iff fr pg).1 hpl
 obtain⟨k,hk⟩:∃k:Nat,(k:Int)=2+9*fr+8*pg:=⟨(2+9*fr+8*pg).toNat,by omega⟩
 obtain⟨Pn,hPn⟩:∃Pn:Nat,(Pn:Int)=pg:=⟨pg.toNat,by omega⟩
 have HRt:∀W,Calls Tryz.prog 22 #[.agg #[.int .i64 fr,.int .i64 pg]] W fun e w'=>e = .returned (.bool true)/\Below W.heap.size W w':=fun W=>by
  have:=refRight_gives fr pg W
  rw[hpl] at this
  exact this
 have HSec:∀W,Calls Tryz.prog 7 #[.agg #[.int .i64 fr,.int .i64 pg]] W fun e w'=>e = .returned (.int .i64 (k:Int))/\Below W.heap.size W w':=fun W=>by rw[hk];exact refSectors_gives fr pg W hfp.1 hfp.2
 have HND:∀W,Calls Tryz.prog 6 #[.int .i64 (k:Int)] W fun e w'=>∃p,e = .returned (.tuple #[.pointer (some ⟨p,0,none⟩),.int .i64 0])/\W.heap.size<=p/\DkIs w' p k (fun _=>zer64) [] 0 false/\Below W.heap.size W w':=fun W=>new_gives W k (by omega) (by omega)
 have HFO:∀d W,Below V0.heap.size V0 W->V0.heap.size<=d->DkIs W d k (fun _=>zer64) [] 0 false->Calls Tryz.prog 8 #[.pointer (some ⟨d,0,none⟩),.agg #[.int .i64 fr,.int .i64 pg]] W fun e w'=>∃f l,e = .returned (.tuple #[.pointer (some ⟨f,0,none⟩),.int .i64 0])/\FhIs V0 d f l k fr pg ⟨laid (fun _=>zer64) (wrL 1 (hEnc 1 1 0 0) 1),[],0,false⟩ ⟨1,1,0,[]⟩ w':=fun d W hB hd hD =>
  (fopen_new2 W d k fr pg hB hd hD hpl hk (by omega)).mono fun e w' h=>by
   obtain⟨f,l,h1,h2,_⟩:=h
   exact⟨f,l,h1,h2⟩
 have HPO:∀d f l W,FhIs V0 d f l k fr pg ⟨laid (fun _=>zer64) (wrL 1 (hEnc 1 1 0 0) 1),[],0,false⟩ ⟨1,1,0,[]⟩ W->Calls Tryz.prog 9 #[.pointer (some ⟨f,0,none⟩),.int .i64 room] W (OpOut V0 d f l k Pn fr pg room W):=fun d f l W hF=>popen_new hF hpl hk (by omega) hPn (by omega)
 have c8:¬ 8<fr:=by omega
 have c7:¬ 7<pg:=by omega
 have HR:=Lib.hid hr
 have HPR:=Lib.hid hpar
 clear hfp hk hPn hr hpar
 refine callsIn_of_wp_marks Tryz.func4 rfl trivial ?_ rfl
 simp only[Tryz.ntmps4,zS,zN,qB,qH,qI,zU,zV,zZ,zX,zQ,zW]
 gi_wp2_with (first
  | (refine⟨trivial,?_⟩;gi_at_call 22;rw[<-hV0];refine(callsIn_wide.2 (HRt _)).mono ?_;rintro e W1 ⟨rfl,hB1⟩;have P1:=P0.grow hB1;have x0:=P1.c0;have x1:=P1.c1)
  | (refine⟨trivial,?_⟩;gi_at_call 7;refine(callsIn_wide.2 (HSec _)).mono ?_;rintro e W2 ⟨rfl,hB2⟩)
  | (refine⟨trivial,?_⟩;gi_at_call 6;refine(callsIn_wide.2 (HND _)).mono ?_;rintro e W3 ⟨d,rfl,hd,hD,hB3⟩;have P3:=(P1.grow hB2).grow hB3;have x0:=P3.c0;have x1:=P3.c1;have hB03:Below V0.heap.size V0 W3:=(hB1.trans (hB2.mono hB1.size)).trans (hB3.mono (by have:=hB1.size;have:=hB2.size;omega));have hd0:V0.heap.size<=d:=(by have:=hB1.size;have:=hB2.size;omega))
  | (refine⟨trivial,?_⟩;gi_at_call 8;refine(callsIn_wide.2 (HFO d _ hB03 hd0 hD)).mono ?_;rintro e W4 ⟨f,l,rfl,hF⟩)
  | (refine⟨trivial,?_⟩;gi_at_call 9;fail))
 have hup4:=hF.up
 refine⟨trivial,(callsIn_wide.2 (HPO d f l _ hF)).mono ?_⟩
 rintro e W5 hO
 clear HPO HFO HND HSec HRt hF hD hB03 hd0 hd hB1 hB2 hB3 P1 P3 x0 x1 c8 c7
 have hpar3:¬ room % 2=1:=by
  have h1:=HPR.out
  rw[Int.tmod_eq_emod_of_nonneg (by have:=HR.out;omega)] at h1
  exact h1
 have hr:=HR.out
 have hpar:=HPR.out
 clear HR HPR
 obtain⟨rfl,hB5⟩:e = .returned (.tuple #[.pointer none,.int .i64 2])/\Below V0.heap.size V0 W5:=by
  rcases hO with⟨h1,_⟩|⟨_,h1,h2⟩
  ·omega
  ·exact⟨h1,hup4.trans (h2.mono hup4.size)⟩
 have P5:=P0.grow hB5
 have hr1:2<=room:=hr.1
 have hr2:¬ room<=2000:=by omega
 clear hO hr P0
 gi_wp2_with (first
  | (refine⟨trivial,?_⟩;gi_at_call 10;refine(callsIn_wide.2 (num9_gives _ _)).mono ?_;rintro e W' ⟨rfl,rfl⟩)
  | (refine⟨trivial,?_⟩;fail_if_success (refine callsIn_wide.2 ?_)))
 obtain⟨W6,hW6⟩:∃W6,W6=W5:=⟨_,rfl⟩
 have hB56:Below W5.heap.size W5 W6:=by rw[hW6];exact Below.refl _ _
 have hN:NoneP W6 none:=.inl rfl
 rw[<-hW6]
 clear hW6
 have P6:=P5.grow hB56
 have hB06:Below w.heap.size w W6:=(hB0.trans (hB5.mono hB0.size)).trans (hB56.mono (by have:=hB0.size;have:=hB5.size;omega))
 clear P5 hB5 hB56 hr1 hpar hup4 hB0
 gi_wp2_with (first
  | (refine⟨trivial,?_⟩;gi_at_call 15;refine(callsIn_wide.2 (nmark_gives hN)).mono ?_;rintro e U1 ⟨rfl,hU1⟩;have N1:=hN.grow hU1)
  | (refine⟨trivial,?_⟩;gi_at_call 23;refine(callsIn_wide.2 (nread_gives N1)).mono ?_;rintro e U2 ⟨rfl,hU2⟩;have N2:=N1.grow hU2)
  | (refine⟨trivial,?_⟩;gi_at_call 12;refine(callsIn_wide.2 (nmake_gives N2)).mono ?_;rintro e U3 ⟨rfl,hU3⟩;have N3:=N2.grow hU3)
  | (refine⟨trivial,?_⟩;gi_at_call 24;refine(callsIn_wide.2 (nroot_gives N3)).mono ?_;rintro e U4 ⟨rfl,hU4⟩;have N4:=N3.grow hU4)
  | (refine⟨trivial,?_⟩;gi_at_call 9;refine(callsIn_wide.2 (popen_nil _ 4)).mono ?_;rintro e U5 ⟨rfl,hU5⟩;have N5:=N4.grow hU5)
  | (refine⟨trivial,?_⟩;gi_at_call 25;refine(callsIn_wide.2 (npages_gives _ _)).mono ?_;rintro e U6 ⟨q,rfl,hq,hU6⟩;have N6:=N5.grow hU6)
  | (refine⟨trivial,?_⟩;fail_if_success (refine callsIn_wide.2 ?_)))
 have hBU:=GrU.chain6 hU1 hU2 hU3 hU4 hU5 hU6
 have P7:=P6.grow hBU
 have hB07:=hB06.trans (hBU.mono hB06.size)
 clear hU1 hU2 hU3 hU4 hU5 hU6 hBU N1 N2 N3 N4 N5 P6 hB06 hN
 refine wpI_stopB (fun a0 a V=>∃D,a = { a0 with defers:={ target:=.collected D,args:=#[] }::a0.defers }/\V.heap[D]? = some (.deferred (some []))/\U6.heap.size<=D/\Below U6.heap.size U6 V) ?_ ?_
 ·intro Q' hQ
  exact wpIn_rangeFunc_no rfl hm1 (gf:=54) (lb:=#[.pointer (some ⟨q,0,none⟩)]) rfl trivial (enters_of Tryz.func54 (by kernel_rfl) rfl)
   (pages1N_seq (m - 1) (by omega) q hq N6) (fun _=>rfl) (fun D V hD hB hK=>hQ _ _ ⟨D,rfl,hK,hD,hB⟩)
 rintro a V ⟨D,rfl,hK,hD,hBV⟩
 have PV:=P7.grow hBV
 have NV:=N6.grow hBV
 have hBwV:=hB07.trans (hBV.mono hB07.size)
 gi_wp2_with (first
  | (refine⟨trivial,?_⟩;gi_at_call 10;refine(callsIn_wide.2 (num9_gives _ _)).mono ?_;rintro e W' ⟨rfl,rfl⟩)
  | (refine⟨trivial,?_⟩;gi_at_call 11;refine(callsIn_wide.2 (nbegin_gives NV)).mono ?_;rintro e U11 ⟨rfl,hU11⟩;have N11:=NV.grow hU11)
  | (refine⟨trivial,?_⟩;gi_at_call 17;refine(callsIn_wide.2 (ncommit_gives N11)).mono ?_;rintro e U12 ⟨rfl,hU12⟩;have N12:=N11.grow hU12)
  | (refine⟨trivial,?_⟩;gi_at_call 18;refine(callsIn_wide.2 (nrollback_gives N12)).mono ?_;rintro e U13 ⟨rfl,hU13⟩;have N13:=N12.grow hU13)
  | (refine⟨trivial,?_⟩;gi_at_call 16;refine(callsIn_wide.2 (nback_gives N13)).mono ?_;rintro e U14 ⟨rfl,hU14⟩;have N14:=N13.grow hU14)
  | (refine⟨trivial,?_⟩;gi_at_call 26;refine(callsIn_wide.2 (nforget_gives N14)).mono ?_;rintro e U15 ⟨rfl,hU15⟩;have N15:=N14.grow hU15)
  | (refine⟨trivial,?_⟩;gi_at_call 28;refine(callsIn_wide.2 (page9_gives _ 0)).mono ?_;rintro e U20 ⟨v20,rfl,own20,hU20⟩;obtain⟨A20,c20,rfl,hin20⟩:=own20.inB;rw[pgL0_length];have N20:=N15.grow hU20)
  | (refine⟨trivial,?_⟩;gi_at_call 27;refine(callsIn_wide.2 (nwrite_gives N20 A20 c20)).mono ?_;rintro e U21 ⟨rfl,hU21⟩;have N21:=N20.grow hU21)
  | (refine⟨trivial,?_⟩;gi_at_call 14;refine(callsIn_wide.2 (nfree_gives N21)).mono ?_;rintro e U22 ⟨rfl,hU22⟩;have N22:=N21.grow hU22)
  | (refine⟨trivial,?_⟩;gi_at_call 29;refine(callsIn_wide.2 (nsetroot_gives N22)).mono ?_;rintro e U23 ⟨rfl,hU23⟩;have N23:=N22.grow hU23)
  | (refine⟨trivial,?_⟩;gi_at_call 20;refine(callsIn_wide.2 (nsize_gives N23)).mono ?_;rintro e U24 ⟨rfl,hU24⟩;have N24:=N23.grow hU24)
  | (refine⟨trivial,?_⟩;gi_at_call 21;refine(callsIn_wide.2 (nspare_gives N24)).mono ?_;rintro e U25 ⟨rfl,hU25⟩;have N25:=N24.grow hU25)
  | (refine⟨trivial,?_⟩;gi_at_call 30;refine(callsIn_wide.2 (nunder_gives N25)).mono ?_;rintro e U26 ⟨rfl,hU26⟩;have N26:=N25.grow hU26)
  | (refine⟨trivial,?_⟩;gi_at_call 5;refine(callsIn_wide.2 (works9_gives _)).mono ?_;rintro e U30 ⟨rfl,hU30⟩;have hBZ:=GrU.chain hU11 hU12 hU13 hU14 hU15 hU20 hU21 hU22 hU23 hU24 hU25 hU26 hU30;have PZ:=PV.grow hBZ;have kZ:=PZ.b1.boxed;have fZ:=PZ.b1.free 0))
 have b10:=PZ.b1.set 0 (.bool true)
 have hBf:Below w.heap.size w (U30.setCell ⟨w.heap.size+1,0,none⟩ (.bool true)):=(hBwV.trans (hBZ.mono hBwV.size)).setCell (p:=⟨w.heap.size+1,0,none⟩) (by simp) _
 have hK8:U30.heap[D]? = some (.deferred (some [])):=(Below.block hBZ D (zH.1 hK).1).trans hK
 have hDw:w.heap.size+1<D:=by have:=P7.b1.lt;omega
 have hE1:=(Below.heap_setCell U30 ⟨w.heap.size+1,0,none⟩ (.bool true) D (by simp;omega)).trans hK8
 clear kZ fZ hK8 hK
 generalize U30.setCell ⟨w.heap.size+1,0,none⟩ (.bool true)=Z at *
 refine⟨by simp,.inl ⟨D,_,rfl,run_takeDeferred hE1,?_⟩⟩
 have b11:BlkIs (Z.putObj D (.deferred none)) (w.heap.size+1) 4 #[.bool true]:=(putObj_oth Z D (.deferred none) (g:=w.heap.size+1) (by omega)).trans b10
 exact⟨.bool true,results_cellQ (p:=⟨w.heap.size+1,0,none⟩) 4 rfl rfl (by simp[go_sem]) b11.boxed,rfl,hBf.trans (belowK_b (w:=w) (zG _) Z D _ _ (by omega) hE1 rfl rfl)⟩
end Go.Proofs.YtnlimngkagmjpaaGreat
namespace Go.Proofs.YtnlimngkagmjpaaGreat
open Go Go.RowKit Lou
theorem lawPN_in (m:Nat)(hm:10<=m)(w:World)(fr pg room:Int)(hpl:planOk fr pg=true)(h8:fr<=8)(h7:pg<=7) :
  CallsIn Fence.wide m Tryz.prog 4 #[.agg #[.int .i64 fr,.int .i64 pg],.int .i64 room] w fun e w'=>e = .returned (.bool true)/\Below w.heap.size w w':=by
 rcases(by omega:(2<=room/\room<=2000)∨room<2∨(2<=room/\2000<room)) with hr|hr|hr<;>by_cases hp:Int.tmod room 2=1
 ·exact lawPN_in1 m hm w fr pg room hpl h8 h7 hr hp
 ·exact lawPN_in2 m hm w fr pg room hpl h8 h7 hr hp
 ·exact lawPN_in3 m hm w fr pg room hpl h8 h7 hr hp
 ·exact lawPN_in4 m hm w fr pg room hpl h8 h7 hr hp
 ·exact lawPN_in5 m hm w fr pg room hpl h8 h7 hr hp
 ·exact lawPN_in6 m hm w fr pg room hpl h8 h7 hr hp
theorem lawPN_walk (w:World)(fr pg room:Int) :
  Calls Tryz.prog 4 #[.agg #[.int .i64 fr,.int .i64 pg],.int .i64 room] w fun e w'=>e = .returned (.bool true)/\Below w.heap.size w w':=by
 by_cases h:planOk fr pg=true/\fr<=8/\pg<=7
 ·exact callsIn_wide.1 (lawPN_in 10 (zG _) w fr pg room h.1 h.2.1 h.2.2)
 ·exact callsIn_wide.1 (lawPN_out 10 (by decide) w fr pg room h)
end Go.Proofs.YtnlimngkagmjpaaGreat
