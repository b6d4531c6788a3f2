/- Texts that the proof of PagerNone leans on, part 11. -/
import Derived.Test.YtnlimngkagmjpaaGreatPagerNoneB10
open List renaming getElem?_eq_getElem → zI, length_append → zY, getElem_mem → qJ, setIfInBounds_toArray → zA, set_cons_zero → zF, set_cons_succ → zE, getElem_toArray → zD, getElem_cons_zero → zB, getElem_cons_succ → zC, length_map → qD, size_toArray → zS, length_cons → zN, length_nil → qB, push_toArray → zZ, append_toArray → zX, nil_append → zQ, cons_append → zW, take_of_length_le → qA
open Nat renaming le_refl → zG, le_trans → zP, lt_of_lt_of_le → zO, reduceAdd → qH, reduceSub → qI
open Array renaming getElem?_toList → qE, getElem?_eq_some_iff → zH, replicate_succ → zU, replicate_zero → zV
set_option linter.unusedVariables false
set_option maxRecDepth 100000
set_option maxHeartbeats 8000000

namespace Go.Proofs.YtnlimngkagmjpaaGreat
open Go Go.RowKit Lou
theorem RowIs.short {W:World}{P:Nat}{now k:Int}{v:RowV}(h:RowIs W P now k v):v.y.length<=100000:=by
 rcases h.len with h|h
 ·omega
 ·rw[h];simp
def MadeRoom (P:Nat)(room:Int)(V V':RowsV):Prop :=
 ((((keysV (ptrV V) P).length:Int)<room)/\V'=V)∨(room<=((keysV (ptrV V) P).length:Int)/\∃k0 v0,V k0=some v0/\v0.d=false/\(∀k v,V k=some v->v.d=false->v0.at_<=v.at_)/\V'=updV V k0 none)
def NoRoom (P:Nat)(room:Int)(V:RowsV):Prop:=room<=((keysV (ptrV V) P).length:Int)/\∀k v,V k=some v->v.d=true
theorem MadeRoom.sub {P:Nat}{room:Int}{V V':RowsV}(h:MadeRoom P room V V'){k:Int}{v:RowV}(hv:V' k=some v):V k=some v:=by
 rcases h with⟨_,rfl⟩|⟨_,k0,v0,_,_,_,rfl⟩
 ·exact hv
 ·unfold updV at hv
  split at hv
  ·cases hv
  ·exact hv
section
variable {w:World}{a f r P:Nat}{room now hh mm:Int}{V:RowsV}
theorem takes_hit (h:CaIs w a f r P room now hh mm V)(hP:P<=1000)(hn:0<=now/\now<=1000000)(hroom:2<=room){page:Int}{v:RowV}(hv:V page=some v) :
  Calls Tryz.prog 66 #[.pointer (some ⟨a,0,none⟩),.int .i64 page] w fun e w'=>e = .returned (.tuple #[.pointer (some ⟨v.b,0,none⟩),.int .i64 0])/\CaIs w' a f r P room (now+1) hh mm (updV V page (some { v with at_:=now+1 }))/\GrowBut (caMu a r V) w w':=by
 refine(takes_gives w a f r P room now hh mm V h hP hn hroom page (h.rows page v hv).key).mono ?_
 rintro e w' ⟨⟨v',h1,rfl,h2⟩|⟨h1,_⟩|⟨h1,_⟩|⟨h1,_⟩,hG⟩
 ·rw[hv] at h1
  injection h1 with h1
  subst h1
  exact⟨rfl,h2,hG⟩
 all_goals rw[hv] at h1;cases h1
theorem takes_miss (h:CaIs w a f r P room now hh mm V)(hP:P<=1000)(hn:0<=now/\now<=1000000)(hroom:2<=room){page:Int}(hp:0<=page/\page<(P:Int))(hv:V page=none) :
  Calls Tryz.prog 66 #[.pointer (some ⟨a,0,none⟩),.int .i64 page] w fun e w'=>((NoRoom P room V/\e = .returned (.tuple #[.pointer none,.int .i64 160])/\CaIs w' a f r P room now hh mm V)∨∃V' b,MadeRoom P room V V'/\w.heap.size<=b/\e = .returned (.tuple #[.pointer (some ⟨b,0,none⟩),.int .i64 0])/\CaIs w' a f r P room (now+1) hh mm (updV V' page (some ⟨b,now+1,none,0,[],false⟩)))/\GrowBut (caMu a r V) w w':=by
 refine(takes_gives w a f r P room now hh mm V h hP hn hroom page hp).mono ?_
 rintro e w' ⟨⟨v',h1,_⟩|⟨_,h1,b,h2,rfl,h3⟩|⟨_,h1,h2,rfl,h3⟩|⟨_,h1,k0,v0,h2,h3,h4,b,h5,rfl,h6⟩,hG⟩
 ·rw[hv] at h1
  cases h1
 ·exact⟨.inr ⟨V,b,.inl ⟨h1,rfl⟩,h2,rfl,h3⟩,hG⟩
 ·exact⟨.inl ⟨⟨h1,h2⟩,rfl,h3⟩,hG⟩
 ·exact⟨.inr ⟨_,b,.inr ⟨h1,k0,v0,h2,h3,h4,rfl⟩,h5,rfl,h6⟩,hG⟩
end
theorem cnew_gives (w:World)(f l d P:Nat)(fr pg room:Int)(S:LgS)(hb:BlkIs w f 75 (flFC l fr pg))(hL:LogIs w l d fr pg S)(hr:2<=room/\room<=2000) :
  Calls Tryz.prog 32 #[.pointer (some ⟨f,0,none⟩),.int .i64 room] w fun e w'=>∃a r,e = .returned (.tuple #[.pointer (some ⟨a,0,none⟩),.int .i64 0])/\w.heap.size<=a/\w.heap.size<=r/\CaIs w' a f r P room 0 0 0 (fun _=>none)/\Below w.heap.size w w':=by
 have HD:=fdisk_gives hb hL
 have h1:¬ room<2:=by omega
 have h2:¬ 2000<room:=by omega
 go_enter Tryz.func32,Tryz.ntmps32
 go_wp2_with (first
  | (refine wp_makeMap rfl rfl ?_;intro _)
  | (go_at_call 62;refine HD.mono ?_;rintro e w' ⟨rfl,rfl⟩))
 have hB1:Below w.heap.size w (w.alloc (.map #[] 0)):=(Below.refl _ w).alloc (zG _) _
 have hB2:Below (w.alloc (.map #[] 0)).heap.size (w.alloc (.map #[] 0)) ((w.alloc (.map #[] 0)).alloc (.cells (caC f room 0 w.heap.size 0 0) 118)):=(Below.refl _ _).alloc (zG _) _
 have hm0:MapIs (w.alloc (.map #[] 0)) w.heap.size #[] 0:=World.alloc_heap_new w _
 have bb:=BlkIs.new (w.alloc (.map #[] 0)) 118 (caC f room 0 w.heap.size 0 0)
 rw[World.size_alloc] at bb
 have e0:ptrV (fun _=>none)=fun _=>none:=rfl
 refine bodyPost_ret (results_tmp2 rfl _ _ _) rfl ⟨w.heap.size+1,w.heap.size,rfl,by omega,zG _,⟨bb,⟨#[],0,hm0.below hB2 hm0.lt,by rw[e0];exact EnV.empty,MapKept.stamped_empty 0⟩,fun k v h=>(by cases h),fun j k u v h=>(by cases h),fun j k u v h=>(by cases h)⟩,hB1.trans (hB2.mono hB1.size)⟩
def ReadOut (a f r P:Nat)(room now hh mm:Int)(V:RowsV)(page:Int)(R:Int ⊕ List UInt8)(sz:Nat)(e:Ending)(w':World):Prop :=
 (∃v A c,V page=some v/\e = .returned (.tuple #[.slice A v.y.length c,.int .i64 0])/\InB w' w'.heap.size A c v.y/\TyB w' A/\CaIs w' a f r P room (now+1) (hh+1) mm (updV V page (some { v with at_:=now+1 }))) ∨
 (V page=none/\∃er,R = .inl er/\e = .returned (.tuple #[.slice none 0 0,.int .i64 er])/\CaIs w' a f r P room now hh (mm+1) V) ∨
 (V page=none/\∃y,R = .inr y/\NoRoom P room V/\e = .returned (.tuple #[.slice none 0 0,.int .i64 160])/\CaIs w' a f r P room now hh (mm+1) V) ∨
 (V page=none/\∃y V' b A c A' c',R = .inr y/\MadeRoom P room V V'/\sz<=b/\e = .returned (.tuple #[.slice A y.length c,.int .i64 0])/\InB w' w'.heap.size A c y/\TyB w' A/\CaIs w' a f r P room (now+1) hh (mm+1) (updV V' page (some ⟨b,now+1,A',c',y,false⟩)))
theorem cread_hit (w:World)(a f r P:Nat)(room now hh mm:Int)(V:RowsV)(h:CaIs w a f r P room now hh mm V)(hP:P<=1000)(hn:0<=now/\now<=1000000)(hroom:2<=room)(hh0:0<=hh/\hh<=1000000)(page:Int)(R:Int ⊕ List UInt8)(v:RowV)(hv:V page=some v) :
  Calls Tryz.prog 37 #[.pointer (some ⟨a,0,none⟩),.int .i64 page] w fun e w'=>ReadOut a f r P room now hh mm V page R w.heap.size e w'/\GrowBut (caMu a r V) w w':=by
 have HN:=cnone_gives h.cb
 have k3:w.cell? ⟨a,3,none⟩=some (.map (some r)):=(h.cb.cell _).trans rfl
 have HA:=add1_gives (w:=w) (a:=⟨a,4,none⟩) (x:=hh) ((h.cb.cell _).trans rfl) (h.cb.free 4) rfl (by omega)
 obtain⟨h1,hG1⟩:=h.setCa 4 (.int .i64 (hh+1)) (now':=now) (hh':=hh+1) (mm':=mm) rfl (Int.le_refl _)
 have HT:=takes_hit h1 hP hn hroom hv
 obtain⟨es,clock,hmi,he,hst⟩:=h.mp
 have hl:=ptrV_some hv
 obtain⟨W1,eW1⟩:∃W1,W1=w.setCell ⟨a,4,none⟩ (.int .i64 (hh+1)):=⟨_,rfl⟩
 rw[<-eW1] at HA h1 hG1 HT
 clear eW1
 go_enter Tryz.func37,Tryz.ntmps37
 go_wp2_with (first
  | (go_at_call 65;refine HN.mono ?_;rintro e w' ⟨rfl,rfl⟩)
  | (refine wp_exec rfl (lookR he hmi hl rfl rfl rfl) ?_)
  | (go_at_call 71;refine HA.mono ?_;rintro e w' ⟨rfl,rfl⟩)
  | (go_at_call 66;refine HT.mono ?_;rintro e w2 ⟨rfl,h2,hG2⟩
     have hr2:=h2.rows page _ (updV_self V page _)
     have k2:w2.cell? ⟨v.b,1,none⟩=some (.slice v.A v.y.length v.c):=(hr2.blk.cell _).trans rfl
     have HC:=cloneP_gives w2 v.A v.c v.y hr2.bys hr2.short)
  | (go_at_call 67;refine HC.mono ?_;rintro e w3 ⟨A,c,rfl,hin,hge,hty,hB3⟩))
 exact bodyPost_ret (results_tmp2 rfl _ _ _) rfl ⟨.inl ⟨v,A,c,hv,rfl,hin,hty,h2.below hB3⟩,((hG1.more (fun k e _ => .inl e)).trans hG2).trans (GrowBut.below hB3)⟩
def FileSays (W:World)(f:Nat)(page:Int)(R:Int ⊕ List UInt8):Prop :=
 Calls Tryz.prog 72 #[.pointer (some ⟨f,0,none⟩),.int .i64 page] W fun e w'=>(match R with | .inl er=>e = .returned (.tuple #[.slice none 0 0,.int .i64 er]) | .inr y=>∃A c,e = .returned (.tuple #[.slice A y.length c,.int .i64 0])/\InB w' w'.heap.size A c y)/\Below W.heap.size W w'
theorem cread_err (w:World)(a f r P:Nat)(room now hh mm:Int)(V:RowsV)(h:CaIs w a f r P room now hh mm V)(hm0:0<=mm/\mm<=1000000)(page er:Int)(hv:V page=none)(her:er≠0)(HF:∀W,GrowBut (caMu a r V) w W->FileSays W f page (.inl er)) :
  Calls Tryz.prog 37 #[.pointer (some ⟨a,0,none⟩),.int .i64 page] w fun e w'=>ReadOut a f r P room now hh mm V page (.inl er) w.heap.size e w'/\GrowBut (caMu a r V) w w':=by
 have HN:=cnone_gives h.cb
 have k3:w.cell? ⟨a,3,none⟩=some (.map (some r)):=(h.cb.cell _).trans rfl
 have HA:=add1_gives (w:=w) (a:=⟨a,5,none⟩) (x:=mm) ((h.cb.cell _).trans rfl) (h.cb.free 5) rfl (by omega)
 obtain⟨h1,hG1⟩:=h.setCa 5 (.int .i64 (mm+1)) (now':=now) (hh':=hh) (mm':=mm+1) rfl (Int.le_refl _)
 have hG1':=hG1.more (Nu:=caMu a r V) (fun k e _ => .inl e)
 have HR:=HF _ hG1'
 obtain⟨es,clock,hmi,he,hst⟩:=h.mp
 have hl:=ptrV_none hv
 obtain⟨W1,eW1⟩:∃W1,W1=w.setCell ⟨a,5,none⟩ (.int .i64 (mm+1)):=⟨_,rfl⟩
 rw[<-eW1] at HA h1 hG1' HR
 clear eW1 hG1
 have k0:W1.cell? ⟨a,0,none⟩=some (.pointer (some ⟨f,0,none⟩)):=(h1.cb.cell _).trans rfl
 have hne:(er == 0)=false:=beq_eq_false_iff_ne.2 her
 unfold FileSays at HR
 go_enter Tryz.func37,Tryz.ntmps37
 go_wp2_with (first
  | (go_at_call 65;refine HN.mono ?_;rintro e w' ⟨rfl,rfl⟩)
  | (refine wp_exec rfl (look0R he hmi hl rfl rfl rfl) ?_)
  | (go_at_call 71;refine HA.mono ?_;rintro e w' ⟨rfl,rfl⟩)
  | (refine HR.mono ?_;rintro e w2 ⟨rfl,hB2⟩))
 exact bodyPost_ret (results_tmp2 rfl _ _ _) rfl ⟨.inr (.inl ⟨hv,er,rfl,rfl,h1.below hB2⟩),hG1'.trans (GrowBut.below hB2)⟩
theorem cread_miss (w:World)(a f r P:Nat)(room now hh mm:Int)(V:RowsV)(h:CaIs w a f r P room now hh mm V)(hP:P<=1000)(hn:0<=now/\now<=1000000)(hroom:2<=room)(hm0:0<=mm/\mm<=1000000)(page:Int)(hpg:0<=page/\page<(P:Int))(y:List UInt8)(hy:y.length=512)(hv:V page=none)(HF:∀W,GrowBut (caMu a r V) w W->FileSays W f page (.inr y)) :
  Calls Tryz.prog 37 #[.pointer (some ⟨a,0,none⟩),.int .i64 page] w fun e w'=>ReadOut a f r P room now hh mm V page (.inr y) w.heap.size e w'/\GrowBut (caMu a r V) w w':=by
 have HN:=cnone_gives h.cb
 have k3:w.cell? ⟨a,3,none⟩=some (.map (some r)):=(h.cb.cell _).trans rfl
 have HA:=add1_gives (w:=w) (a:=⟨a,5,none⟩) (x:=mm) ((h.cb.cell _).trans rfl) (h.cb.free 5) rfl (by omega)
 obtain⟨h1,hG1⟩:=h.setCa 5 (.int .i64 (mm+1)) (now':=now) (hh':=hh) (mm':=mm+1) rfl (Int.le_refl _)
 have hG1':=hG1.more (Nu:=caMu a r V) (fun k e _ => .inl e)
 have HR:=HF _ hG1'
 obtain⟨es,clock,hmi,he,hst⟩:=h.mp
 have hl:=ptrV_none hv
 obtain⟨W1,eW1⟩:∃W1,W1=w.setCell ⟨a,5,none⟩ (.int .i64 (mm+1)):=⟨_,rfl⟩
 rw[<-eW1] at HA h1 hG1' HR
 clear eW1 hG1
 have k0:W1.cell? ⟨a,0,none⟩=some (.pointer (some ⟨f,0,none⟩)):=(h1.cb.cell _).trans rfl
 unfold FileSays at HR
 go_enter Tryz.func37,Tryz.ntmps37
 go_wp2_with (first
  | (go_at_call 65;refine HN.mono ?_;rintro e w' ⟨rfl,rfl⟩)
  | (refine wp_exec rfl (look0R he hmi hl rfl rfl rfl) ?_)
  | (go_at_call 71;refine HA.mono ?_;rintro e w' ⟨rfl,rfl⟩)
  | (refine HR.mono ?_;rintro e w2 ⟨⟨A,c,rfl,hin⟩,hB2⟩
     have h2:=h1.below hB2
     have HT:=takes_miss h2 hP hn hroom hpg hv))
 refine HT.mono ?_
 rintro e w3 ⟨(⟨hno,rfl,h3⟩|⟨V',b,hmade,hb,rfl,h3⟩),hG3⟩
 ·go_wp2
  exact bodyPost_ret (results_tmp2 rfl _ _ _) rfl ⟨.inr (.inr (.inl ⟨hv,y,rfl,hno,rfl,h3⟩)),(hG1'.trans (GrowBut.below hB2)).trans hG3⟩
 ·have hin3:InB w3 w3.heap.size A c y:=RowIs.keepB hin (.inl hy) hG3 h2.ca
  have hv3:=updV_self V' page (some ⟨b,now+1,none,0,[],false⟩)
  have hr3:=h3.rows page _ hv3
  have k1:w3.cell? ⟨b,1,none⟩=some (.slice none 0 0):=(hr3.blk.cell _).trans rfl
  have k2:=hr3.blk.free 1
  obtain⟨h4,hG4⟩:=h3.setRow (v1:=⟨b,now+1,A,c,y,false⟩) hv3 rfl 1 (.slice A 512 c) (by simp[rowC,hy]) (.inr ⟨hin3,.inl hy⟩) ⟨by show 0<=now+1;omega,Int.le_refl _⟩ (fun _ k v hk hkv=>by
   rw[updV_ne hk] at hkv
   have:=(h2.rows k v (hmade.sub hkv)).at0.2
   show v.at_≠now+1
   omega)
  rw[updV_updV] at h4
  have hr4:=h4.rows page _ (updV_self V' page _)
  have HC:=cloneP_gives (w3.setCell ⟨b,1,none⟩ (.slice A 512 c)) A c y hr4.bys (by omega)
  rw[hy] at HC
  go_wp2_with (go_at_call 67;refine HC.mono ?_;rintro e w5 ⟨A2,c2,rfl,hin5,hge,hty,hB5⟩)
  refine bodyPost_ret (results_tmp2 rfl _ _ _) rfl ⟨.inr (.inr (.inr ⟨hv,y,V',b,A2,c2,A,c,rfl,hmade,zP hG1'.size (zP hB2.size hb),by rw[hy];rfl,hin5,hty,h4.below hB5⟩)),?_⟩
  have hG34:GrowBut (caMu a r V) w2 (w3.setCell ⟨b,1,none⟩ (.slice A 512 c)):=by
   have:=(hG3.more (Nu:=fun k=>caMu a r V k∨w2.heap.size<=k) (fun k e _ => .inl e)).trans (hG4.more (fun k e _ => .inr (by rw[e];exact hb)))
   exact this.more (fun k e hk=>by rcases e with e|e;exact e;omega)
  exact((hG1'.trans (GrowBut.below hB2)).trans hG34).trans (GrowBut.below hB5)
theorem planPages (fr pg:Int)(W:World):(Instr.field 25 (.agg #[.int .i64 fr,.int .i64 pg]) 1).run Tryz.prog W = .ok (.int .i64 pg) W:=by
 simp[Instr.field,run_underlying Tryz.underlying25,part,asAgg,go_sem,Result.andThen]
theorem cwrite_range (w:World)(a f l r:Nat)(fr pg room now hh mm:Int)(hb:BlkIs w a 118 (caC f room now r hh mm))(hf:BlkIs w f 75 (flFC l fr pg))(page:Int)(A:Option Addr)(c:Nat)(hn:page<0∨pg<=page) :
  Calls Tryz.prog 34 #[.pointer (some ⟨a,0,none⟩),.int .i64 page,.slice A 512 c] w fun e w'=>e = .returned (.int .i64 4)/\Below w.heap.size w w':=by
 have HN:=cnone_gives hb
 have HP:=fplan_gives hf
 have k0:w.cell? ⟨a,0,none⟩=some (.pointer (some ⟨f,0,none⟩)):=(hb.cell _).trans rfl
 go_enter Tryz.func34,Tryz.ntmps34
 go_wp2_with fail
 refine wp_scope_jumps (rest:=?rest) 0 (fun a w'=>(∃u0 u1 u2 u3 u4 u5 u7 u8 u9 u10 u11 u12 u13 u14 u15 u16 u17 u18 u19 u20 u21 u22 u23 u24 u25 u26 u27 u28 u29 u30 u31 u32 u33 u34 u35 u36 u37 u38 u39 u40 u41,a = { tmps:=#[u0,u1,u2,u3,u4,u5,.int .i64 4,u7,u8,u9,u10,u11,u12,u13,u14,u15,u16,u17,u18,u19,u20,u21,u22,u23,u24,u25,u26,u27,u28,u29,u30,u31,u32,u33,u34,u35,u36,u37,u38,u39,u40,u41],defers:=[] })/\Below w.heap.size w w') (fun _ _=>0) ?hf ?first ?pass
 case hf=>exact rfl
 case pass =>
  rintro a w' ⟨⟨u0,u1,u2,u3,u4,u5,u7,u8,u9,u10,u11,u12,u13,u14,u15,u16,u17,u18,u19,u20,u21,u22,u23,u24,u25,u26,u27,u28,u29,u30,u31,u32,u33,u34,u35,u36,u37,u38,u39,u40,u41,rfl⟩,hB⟩
  go_wp2
  simp only[Exit.jump]
  go_ret
  exact⟨rfl,hB⟩
 case first =>
  by_cases h0:page<0
  ·go_wp2_with (first
    | (go_at_call 65;refine HN.mono ?_;rintro e w' ⟨rfl,rfl⟩)
    | (go_at_call 43;refine HP.mono ?_;rintro e w' ⟨rfl,hB⟩))
   go_step3
   exact⟨rfl,by repeat (first|exact rfl|apply Exists.intro),Below.refl _ _⟩
  ·have h1:pg<=page:=by omega
   have hq:=planPages fr pg
   go_wp2_with (first
    | (go_at_call 65;refine HN.mono ?_;rintro e w' ⟨rfl,rfl⟩)
    | (go_at_call 43;refine HP.mono ?_;rintro e w' ⟨rfl,hB⟩))
   go_step3
   exact⟨rfl,by repeat (first|exact rfl|apply Exists.intro),hB⟩
theorem CaIs.hu {W:World}{a f r P:Nat}{room now hh mm:Int}{V:RowsV}(h:CaIs W a f r P room now hh mm V){page:Int}{v:RowV}(hv:V page=some v)(v1:RowV)(he:v1.at_=v.at_):1<=v1.at_->∀k u,k≠page->V k=some u->u.at_≠v1.at_:=fun h1 k u hk hu e=>hk (h.iat k page u v hu hv (by rw[e];exact h1) (by rw[e,he]))
theorem CaIs.fill {W:World}{a f r P:Nat}{room now hh mm:Int}{V:RowsV}(h:CaIs W a f r P room now hh mm V){page:Int}{v:RowV}(hv:V page=some v){A:Option Addr}{c:Nat}{y:List UInt8}(hy:y.length=512)(hin:InB W W.heap.size A c y) :
  CaIs ((W.setCell ⟨v.b,1,none⟩ (.slice A 512 c)).setCell ⟨v.b,2,none⟩ (.bool true)) a f r P room now hh mm (updV V page (some ⟨v.b,v.at_,A,c,y,true⟩))/\GrowBut (fun k=>k=v.b) W ((W.setCell ⟨v.b,1,none⟩ (.slice A 512 c)).setCell ⟨v.b,2,none⟩ (.bool true)):=by
 obtain⟨h1,g1⟩:=h.setRow (v1:=⟨v.b,v.at_,A,c,y,v.d⟩) hv rfl 1 (.slice A 512 c) (by simp[rowC,hy]) (.inr ⟨hin,.inl hy⟩) (h.rows page v hv).at0 (h.hu hv _ rfl)
 have hv1:=updV_self V page (some ⟨v.b,v.at_,A,c,y,v.d⟩)
 obtain⟨h2,g2⟩:=h1.setRow (v1:=⟨v.b,v.at_,A,c,y,true⟩) hv1 rfl 2 (.bool true) (by simp[rowC]) (.inl ⟨rfl,rfl,rfl⟩) (h1.rows page _ hv1).at0 (h1.hu hv1 _ rfl)
 rw[updV_updV] at h2
 exact⟨h2,g1.trans g2⟩
def Took (P:Nat)(room:Int)(V V':RowsV)(page:Int)(b:Nat)(sz:Nat):Prop:=(∃v,V page=some v/\b=v.b/\V'=V)∨(V page=none/\MadeRoom P room V V'/\sz<=b)
theorem Took.mu {P:Nat}{room:Int}{V V':RowsV}{page:Int}{b a r sz:Nat}(h:Took P room V V' page b sz):caMu a r V b∨sz<=b:=by
 rcases h with⟨v,h1,h2,_⟩|⟨_,_,h3⟩
 ·exact .inl (.inr (.inr ⟨page,v,h1,h2⟩))
 ·exact .inr h3
def WriteOut (a f r P:Nat)(room now hh mm:Int)(V:RowsV)(page:Int)(y:List UInt8)(sz:Nat)(e:Ending)(w':World):Prop :=
 (V page=none/\NoRoom P room V/\e = .returned (.int .i64 160)/\CaIs w' a f r P room now hh mm V) ∨
 (∃V' b A' c',Took P room V V' page b sz/\e = .returned (.int .i64 0)/\CaIs w' a f r P room (now+1) hh mm (updV V' page (some ⟨b,now+1,A',c',y,true⟩)))
theorem cwrite_gives (w:World)(a f l r P:Nat)(fr pg room now hh mm:Int)(V:RowsV)(h:CaIs w a f r P room now hh mm V)(hf:BlkIs w f 75 (flFC l fr pg))(hP:P<=1000)(hPg:(P:Int)=pg)(hn:0<=now/\now<=1000000)(hroom:2<=room)(page:Int)(hpg:0<=page/\page<pg)(A:Option Addr)(c:Nat)(y:List UInt8)(hy:y.length=512)(hin:InB w w.heap.size A c y) :
  Calls Tryz.prog 34 #[.pointer (some ⟨a,0,none⟩),.int .i64 page,.slice A 512 c] w fun e w'=>WriteOut a f r P room now hh mm V page y w.heap.size e w'/\GrowBut (caMu a r V) w w':=by
 have HN:=cnone_gives h.cb
 have HP:=fplan_gives hf
 have k0:w.cell? ⟨a,0,none⟩=some (.pointer (some ⟨f,0,none⟩)):=(h.cb.cell _).trans rfl
 have hq:=planPages fr pg
 have h0:¬ page<0:=by omega
 have h1:¬ pg<=page:=by omega
 have HT:∀W,Below w.heap.size w W->Calls Tryz.prog 66 #[.pointer (some ⟨a,0,none⟩),.int .i64 page] W fun e w'=>((V page=none/\NoRoom P room V/\e = .returned (.tuple #[.pointer none,.int .i64 160])/\CaIs w' a f r P room now hh mm V)∨∃V' v1,Took P room V V' page v1.b w.heap.size/\v1.at_=now+1/\e = .returned (.tuple #[.pointer (some ⟨v1.b,0,none⟩),.int .i64 0])/\CaIs w' a f r P room (now+1) hh mm (updV V' page (some v1)))/\GrowBut (caMu a r V) W w':=fun W hB=>by
  cases hv:V page with
  | some v =>
   refine(takes_hit (h.below hB) hP hn hroom hv).mono ?_
   rintro e w' ⟨rfl,h2,hG⟩
   exact⟨.inr ⟨V,{ v with at_:=now+1 },.inl ⟨v,hv,rfl,rfl⟩,rfl,rfl,h2⟩,hG⟩
  | none =>
   refine(takes_miss (h.below hB) hP hn hroom ⟨hpg.1,by omega⟩ hv).mono ?_
   rintro e w' ⟨⟨h2,rfl,h3⟩|⟨V',b,h2,h3,rfl,h4⟩,hG⟩
   ·exact⟨.inl ⟨rfl,h2,rfl,h3⟩,hG⟩
   ·exact⟨.inr ⟨V',⟨b,now+1,none,0,[],false⟩,.inr ⟨hv,h2,zP hB.size h3⟩,rfl,rfl,h4⟩,hG⟩
 go_enter Tryz.func34,Tryz.ntmps34
 go_wp2_with fail
 refine wp_scope_straight ?_
 go_wp2_with (first
  | (go_at_call 65;refine HN.mono ?_;rintro e w' ⟨rfl,rfl⟩)
  | (go_at_call 43;refine HP.mono ?_;rintro e w1 ⟨rfl,hB1⟩))
 refine(HT w1 hB1).mono ?_
 rintro e w2 ⟨(⟨hv,hno,rfl,h2⟩|⟨V',v1,htk,hat,rfl,h2⟩),hG2⟩
 ·go_wp2
  go_step3
  go_wp2
  simp only[Exit.noGoto]
  go_ret
  exact⟨.inl ⟨hv,hno,rfl,h2⟩,(GrowBut.below hB1).trans hG2⟩
 ·have hG1:=(GrowBut.below (Mu:=caMu a r V) hB1).trans hG2
  have hin2:InB w2 w2.heap.size A c y:=RowIs.keepB hin (.inl hy) hG1 h.ca
  have HC:=cloneP_gives w2 A c y hin2 (by omega)
  rw[hy] at HC
  have hv1:=updV_self V' page (some v1)
  go_wp2_with (first
   | (go_at_call 67;refine HC.mono ?_;rintro e w3 ⟨A3,c3,rfl,hin3,hge,hty,hB3⟩
      have h3:=h2.below hB3
      have hr3:=h3.rows page _ hv1
      have k1:w3.cell? ⟨v1.b,1,none⟩=some (.slice v1.A v1.y.length v1.c):=(hr3.blk.cell _).trans rfl
      have k2:=hr3.blk.free 1
      have k3:w3.cell? ⟨v1.b,2,none⟩=some (.bool v1.d):=(hr3.blk.cell _).trans rfl
      have k4:=hr3.blk.free 2
      obtain⟨h4,hG4⟩:=h3.fill hv1 hy hin3))
  go_step3
  go_wp2
  simp only[Exit.noGoto]
  go_ret
  refine⟨.inr ⟨V',v1.b,A3,c3,htk,rfl,?_⟩,?_⟩
  ·rw[updV_updV,hat] at h4
   exact h4
  ·have hG5:=(hG1.more (Nu:=fun k=>caMu a r V k∨w.heap.size<=k) (fun k e _ => .inl e)).trans ((GrowBut.below hB3).trans (hG4.more (fun k e _=>by rw[e];exact htk.mu)))
   exact hG5.more (fun k e hk=>by rcases e with e|e;exact e;omega)

theorem toldF_inj {Y Z:Nat->List UInt8}(hY:∀k,(Y k).length=512)(hZ:∀k,(Z k).length=512){a b:Int}:∀P,toldF Y a P=toldF Z b P->lowB a=lowB b/\∀p,p<P->Y p=Z p
 | 0,h=>⟨by injection h,fun p hp=>absurd hp (Nat.not_lt_zero p)⟩
 | P+1,h=>by
  unfold toldF at h
  obtain⟨h1,h2⟩:=List.append_inj h (by rw[toldF_len hY,toldF_len hZ])
  obtain⟨h3,h4⟩:=toldF_inj hY hZ P h1
  refine⟨h3,fun p hp => ?_⟩
  by_cases e:p=P
  ·subst e;exact h2
  ·exact h4 p (by omega)
theorem lastPw_len {pw:Nat->Int×List UInt8}{p:Int}:∀n,(∀k,k<n->(pw k).2.length=512)->∀y,lastPw pw p n=some y->y.length=512
 | 0,_,y,h=>by cases h
 | n+1,hl,y,h=>by
  unfold lastPw at h
  by_cases e:(pw n).1=p
  ·rw[if_pos e] at h
   injection h with h
   rw[<-h]
   exact hl n (by omega)
  ·rw[if_neg e] at h
   exact lastPw_len n (fun k hk=>hl k (by omega)) y h
theorem tell_pages {fr:Int}{G G':Nat->List UInt8}{S S':LgS}{z:Int}{n P:Nat}{pw:Nat->Int×List UInt8}(hG:∀k,(G k).length=64)(hy:∀x∈S.fs,x.y.length=512)(hG':∀k,(G' k).length=64)(hy':∀x∈S'.fs,x.y.length=512)(hl:∀k,k<n->(pw k).2.length=512)(h:tellF G' fr S' P=wantF (fileY G fr S) z n pw P):lowB S'.sz=lowB z/\∀p,p<P->fileY G' fr S' p=(lastPw pw (p:Int) n).getD (fileY G fr S p) :=
 toldF_inj (fun k=>fpY_len hG' hy' _ _) (fun k=>by
  cases e:lastPw pw (k:Int) n with
  | none=>exact fpY_len hG hy _ _
  | some y=>exact lastPw_len n hl y e) P h
theorem com_full {fr pg z x:Int}{P n:Nat}{s s':DS}{S S':LgS}{xs:Nat->Int×Option Addr×Nat}{pw:Nat->Int×List UInt8}(h:ComOut fr pg P s S n xs pw z x s' S')(hpl:planOk fr pg=true)(hx:∀k,k<n->(pw k).1=(xs k).1)(hR:1<=n/\0<=z/\z<=pg/\∀k,k<n->0<=(pw k).1/\(pw k).1<pg)(hn:fr<(n:Int)):x=160:=by
 have hR:=(rightC_iff (z:=z) hpl hx).2 hR
 rcases h with⟨ha,_⟩|⟨_,h,_⟩
 ·rcases ha with⟨h,_⟩|⟨_,_,h,_⟩|⟨_,h,_⟩
  ·exact absurd hR h
  ·exact h
  ·omega
 ·omega
theorem rng_pw {w:World}{g:Nat}{T:TypeId}(xs:List (Int×Option Addr×Nat))(h:BlkIs w g T (pwsC xs).toArray):PwIn w g 0 xs.length fun k=>xs.getD k (0,none,0):=fun k hk j v hj=>by
 rw[h.cell]
 have hx:xs.getD k (0,none,0)=xs[k]:=by rw[List.getD_eq_getElem?_getD,zI hk];rfl
 simp only[hx] at hj
 have:=pwsC_get xs k hk j v hj
 simpa using this
theorem args_of {V:World}{B g:Nat}(xs:List (Int×Option Addr×Nat))(pb:List (Int×List UInt8))(hb:BlkIs V g 129 (pwsC xs).toArray)(hB:B<=g)
  (hp:∀k,k<xs.length->(pb.getD k (0,[])).1=(xs.getD k (0,none,0)).1/\(pb.getD k (0,[])).2.length=512/\InB V V.heap.size (xs.getD k (0,none,0)).2.1 (xs.getD k (0,none,0)).2.2 (pb.getD k (0,[])).2/\TyB V (xs.getD k (0,none,0)).2.1) :
  PwArgs V B (some ⟨g,0,none⟩) xs.length (fun k=>xs.getD k (0,none,0)) (fun k=>pb.getD k (0,[])) :=
 ⟨fun g' o e=>by injection e with e;injection e with e1;omega,fun _=>⟨g,0,rfl,rng_pw xs hb,hb.lt⟩,fun k hk=>⟨(hp k hk).1,(hp k hk).2.1,(hp k hk).2.2.1⟩,fun k hk=>(hp k hk).2.2.2⟩
def comX (fr pg z:Int)(n:Nat)(pw:Nat->Int×List UInt8)(x:Int):Prop :=
 ((1<=n/\0<=z/\z<=pg/\∀k,k<n->0<=(pw k).1/\(pw k).1<pg)/\(((n:Int)<=fr/\x=0)∨(fr<(n:Int)/\x=160)))∨(¬ (1<=n/\0<=z/\z<=pg/\∀k,k<n->0<=(pw k).1/\(pw k).1<pg)/\x=2)
theorem comX_of {fr pg z x:Int}{P n:Nat}{s s':DS}{S S':LgS}{xs:Nat->Int×Option Addr×Nat}{pw:Nat->Int×List UInt8}(h:ComOut fr pg P s S n xs pw z x s' S')(hpl:planOk fr pg=true)(hx:∀k,k<n->(pw k).1=(xs k).1)(h0:(x=0/\MayCom fr pg z n pw)∨(¬ x=0/\¬ MayCom fr pg z n pw)):comX fr pg z n pw x:=by
 by_cases hR:1<=n/\0<=z/\z<=pg/\∀k,k<n->0<=(pw k).1/\(pw k).1<pg
 ·refine .inl ⟨hR,?_⟩
  by_cases hn:(n:Int)<=fr
  ·rcases h0 with⟨e,_⟩|⟨_,e⟩
   ·exact .inl ⟨hn,e⟩
   ·exact absurd ⟨hR,hn⟩ e
  ·exact .inr ⟨by omega,com_full h hpl hx hR (by omega)⟩
 ·refine .inr ⟨hR,?_⟩
  have hR':¬ RightC fr pg z n xs:=fun e=>hR ((rightC_iff (z:=z) hpl hx).1 e)
  rcases h with⟨ha,_⟩|⟨ha,_⟩
  ·rcases ha with⟨_,e,_⟩|⟨e,_⟩|⟨e,_⟩
   ·exact e
   ·exact absurd e hR'
   ·exact absurd e hR'
  ·rcases ha with⟨_,e,_⟩|⟨e,_⟩|⟨e,_⟩
   ·cases e
   ·exact absurd e hR'
   ·exact absurd e hR'
abbrev RowsC:=Int->Option (List UInt8×Bool)
def RowsOk (P:Nat)(Y:Nat->List UInt8)(R:RowsC):Prop:=∀p b d,R p=some (b,d)->(0<=p/\p<(P:Int))/\b.length=512/\(d=false->b=Y p.toNat)
def DirtySame (R1 R2:RowsC):Prop:=∀p b,R1 p=some (b,true)↔R2 p=some (b,true)
def viewC (Y:Nat->List UInt8)(R:RowsC)(p:Nat):List UInt8:=match R (p:Int) with|some (b,true)=>b|_=>Y p
theorem RowsOk.view {P:Nat}{Y:Nat->List UInt8}{R:RowsC}(h:RowsOk P Y R){p:Nat}{b:List UInt8}{d:Bool}(hr:R (p:Int)=some (b,d)):viewC Y R p=b:=by
 unfold viewC
 rw[hr]
 cases d with
 | true=>rfl
 | false =>
  have:=(h _ b false hr).2.2 rfl
  rw[Int.toNat_natCast] at this
  exact this.symm
def RowsCut (R R':RowsC):Prop:=R'=R∨∃k b,R k=some (b,false)/\R'=fun p=>if p=k then none else R p
def rowsPut (R:RowsC)(k:Int)(x:List UInt8×Bool):RowsC:=fun p=>if p=k then some x else R p
theorem RowsCut.ok {P:Nat}{Y:Nat->List UInt8}{R R':RowsC}(h:RowsOk P Y R)(hc:RowsCut R R'):RowsOk P Y R':=by
 rcases hc with rfl|⟨k,b,_,rfl⟩
 ·exact h
 ·intro p c d hr
  replace hr:(if p=k then none else R p)=some (c,d):=hr
  by_cases e:p=k
  ·rw[if_pos e] at hr;cases hr
  ·rw[if_neg e] at hr
   exact h p c d hr
theorem RowsCut.dirty {R R':RowsC}(hc:RowsCut R R')(p:Int)(b:List UInt8):R' p=some (b,true)↔R p=some (b,true):=by
 rcases hc with rfl|⟨k,c,hk,rfl⟩
 ·exact Iff.rfl
 ·by_cases e:p=k
  ·subst e
   simp only[if_true]
   rw[hk]
   constructor
   ·intro h;cases h
   ·intro h;cases h
  ·simp only[if_neg e]
theorem RowsOk.put {P:Nat}{Y:Nat->List UInt8}{R:RowsC}(h:RowsOk P Y R){k:Int}{b:List UInt8}{d:Bool}(hk:0<=k/\k<(P:Int))(hb:b.length=512)(hd:d=false->b=Y k.toNat):RowsOk P Y (rowsPut R k (b,d)):=fun p c e hr=>by
 unfold rowsPut at hr
 by_cases q:p=k
 ·subst q
  rw[if_pos rfl] at hr
  injection hr with hr
  injection hr with h1 h2
  subst h1 h2
  exact⟨hk,hb,hd⟩
 ·rw[if_neg q] at hr
  exact h p c e hr
theorem put_clean {R:RowsC}{k:Int}{x:List UInt8}(hk:∀b,R k≠some (b,true))(p:Int)(b:List UInt8):rowsPut R k (x,false) p=some (b,true)↔R p=some (b,true):=by
 unfold rowsPut
 by_cases q:p=k
 ·subst q
  rw[if_pos rfl]
  constructor
  ·intro h;cases h
  ·intro h;exact absurd h (hk b)
 ·rw[if_neg q]
def dirtyL (R:RowsC):Nat->List (Nat×List UInt8)
 | 0=>[]
 | P+1=>dirtyL R P++(match R (P:Int) with|some (b,true)=>[(P,b)] | _=>[])
theorem dirtyL_mem {R:RowsC}:∀{P:Nat} {x:Nat×List UInt8},x∈dirtyL R P↔x.1<P/\R (x.1:Int)=some (x.2,true)
 | 0,x=>by simp[dirtyL]
 | P+1,x=>by
  unfold dirtyL
  rw[List.mem_append,dirtyL_mem]
  have hc:x∈(match R (P:Int) with|some (b,true)=>[(P,b)] | _=>[])↔x.1=P/\R (P:Int)=some (x.2,true):=by
   obtain⟨a,c⟩:=x
   split
   ·next b h =>
    rw[List.mem_singleton,h]
    constructor
    ·intro e
     injection e with e1 e2
     subst e1 e2
     exact⟨rfl,rfl⟩
    ·rintro⟨e1,e2⟩
     simp only at e1 e2
     injection e2 with e2
     injection e2 with e2 _
     rw[e1,e2]
   ·next h =>
    constructor
    ·intro e;cases e
    ·rintro⟨_,e⟩
     exact absurd e (h _)
  rw[hc]
  constructor
  ·rintro(⟨h1,h2⟩|⟨h1,h2⟩)
   ·exact⟨by omega,h2⟩
   ·rw[h1];exact⟨by omega,h2⟩
  ·rintro⟨h1,h2⟩
   by_cases e:x.1=P
   ·rw[e] at h2;exact .inr ⟨e,h2⟩
   ·exact .inl ⟨by omega,h2⟩
theorem dirtyL_len (R:RowsC):∀P,(dirtyL R P).length<=P
 | 0=>zG 0
 | P+1=>by
  have:=dirtyL_len R P
  unfold dirtyL
  rw[zY]
  split<;>simp<;>omega
def pwL (l:List (Nat×List UInt8))(k:Nat):Int×List UInt8:=match l[k]? with|some x=>((x.1:Int),x.2)|none=>(0,[])
theorem lastPw_congr {pw qw:Nat->Int×List UInt8}{p:Int}:∀n,(∀k,k<n->pw k=qw k)->lastPw pw p n=lastPw qw p n
 | 0,_=>rfl
 | n+1,h=>by
  unfold lastPw
  rw[h n (by omega),lastPw_congr n (fun k hk=>h k (by omega))]
theorem pwL_app {l m:List (Nat×List UInt8)}{k:Nat}(hk:k<l.length):pwL (l++m) k=pwL l k:=by
 unfold pwL
 rw[List.getElem?_append_left hk]
theorem lastPw_snoc (l:List (Nat×List UInt8))(x:Nat×List UInt8)(p:Int):lastPw (pwL (l++[x])) p (l.length+1)=if (x.1:Int)=p then some x.2 else lastPw (pwL l) p l.length:=by
 have e:pwL (l++[x]) l.length=((x.1:Int),x.2):=by
  unfold pwL
  rw[List.getElem?_append_right (zG _),Nat.sub_self]
  rfl
 show (if (pwL (l++[x]) l.length).1=p then some (pwL (l++[x]) l.length).2 else lastPw (pwL (l++[x])) p l.length)=_
 rw[e,lastPw_congr l.length (fun k hk=>pwL_app hk)]
theorem lastPw_dirty (R:RowsC)(p:Nat):∀P,lastPw (pwL (dirtyL R P)) (p:Int) (dirtyL R P).length=if p<P then (match R (p:Int) with|some (b,true)=>some b|_=>none) else none
 | 0=>rfl
 | P+1=>by
  have ih:=lastPw_dirty R p P
  unfold dirtyL
  by_cases hd:∃b,R (P:Int)=some (b,true)
  ·obtain⟨b,hb⟩:=hd
   have e:(match R (P:Int) with|some (b,true)=>[(P,b)] | _=>[])=[(P,b)]:=by rw[hb]
   rw[e,zY,List.length_singleton,lastPw_snoc,ih]
   by_cases hp:p=P
   ·subst hp
    rw[if_pos rfl,if_pos (by omega),hb]
   ·rw[if_neg (show ¬ ((P,b).1:Int)=(p:Int) by show ¬ (P:Int)=(p:Int);omega)]
    by_cases h1:p<P
    ·rw[if_pos h1,if_pos (by omega)]
    ·rw[if_neg h1,if_neg (by omega)]
  ·have e:(match R (P:Int) with|some (b,true)=>[(P,b)] | _=>([]:List (Nat×List UInt8)))=[]:=by
    split
    ·next b h=>exact absurd ⟨b,h⟩ hd
    ·rfl
   rw[e,List.append_nil,ih]
   by_cases hp:p=P
   ·subst hp
    rw[if_neg (by omega),if_pos (by omega)]
    split
    ·next b h=>exact absurd ⟨b,h⟩ hd
    ·rfl
   ·by_cases h1:p<P
    ·rw[if_pos h1,if_pos (by omega)]
    ·rw[if_neg h1,if_neg (by omega)]
theorem DkIs.keepX {Mu:Nat->Prop}{W W':World}{d many:Nat}{g:Nat->List UInt8}{xs:List (Nat×List UInt8)}{left:Int}{st:Bool}(h:DkIs W d many g xs left st){k:Nat}(hk:¬ g k=zer64)(hG:GrowBut Mu W W')(hd:¬ Mu d)
  (hMu:∀j,Mu j->(∃es c f,MapIs W j es c/\EnV es f/\∀k v,f k=some v->∃a,v = .pointer a)∨(∃T cs,BlkIs W j T cs/\cs.size<=64)∨∃ds,W.heap[j]? = some (.deferred ds)):DkIs W' d many g xs left st:=by
 obtain⟨r,A,c,hb,hm,hw,hx⟩:=h.has
 have hr:¬ Mu r:=fun hmr=>by
  obtain⟨es,ck,hmi,he,_⟩:=hm.lies
  have h4:W.heap[r]? = some (.map es ck):=hmi
  rcases hMu r hmr with⟨es1,c1,f,h1,h2,h3⟩|⟨T,cs,h1,_⟩|⟨ds,h1⟩
  ·have h5:W.heap[r]? = some (.map es1 c1):=h1
   rw[h4] at h5
   injection h5 with h5
   injection h5 with e1 _
   subst e1
   obtain⟨i,e,h6,_,h7⟩:=he.all k (g k) (by unfold spar;rw[if_neg hk])
   obtain⟨k',l,h8,_,h9⟩:=h2.keys i e h6
   obtain⟨a,ha⟩:=h3 k' l h8
   rw[h7,ha] at h9
   cases h9
  ·have h5:W.heap[r]? = some (.cells cs T (0,0)):=h1
   rw[h4] at h5
   cases h5
  ·rw[h4] at h1
   cases h1
 refine⟨r,A,c,hG.blk hb hd,hm.keep (hG.block r hm.lt hr),hw,⟨hx.le,hx.max,hx.nil,hx.len,hx.one,fun h0 => ?_⟩⟩
 obtain⟨b,o,e,hbl,hrg⟩:=hx.lies h0
 subst e
 have hbn:¬ Mu b:=fun hmb=>by
  have hno:∀ob,W.heap[b]? = some ob->(∀cs T fr,ob≠.cells cs T fr)->False:=fun ob h5 hob=>by
   have hel:=InW.elem (w:=W) (B:=W.heap.size) (c:=c) ⟨hw,hx⟩ 0 h0
   have h0l:=lsC_length (hw xs[0] (qJ h0))
   have hc:=hel 0 ((lsC xs[0])[0]'(by omega)) (zI (by omega))
   cases ob with
   | cells cs T fr=>exact hob cs T fr rfl
   | _=>simp[World.cell?,h5] at hc
  rcases hMu b hmb with⟨es1,c1,f,h1,_⟩|⟨T,cs,h1,hs⟩|⟨ds,h1⟩
  ·exact hno _ h1 (fun cs T fr e=>by cases e)
  ·exact InW.notDisk (w:=W) (B:=W.heap.size) (c:=c) ⟨hw,hx⟩ h0 h1 hs rfl
  ·exact hno _ h1 (fun cs T fr e=>by cases e)
 exact⟨b,o,rfl,zO hbl hG.size,fun j v hj=>hG.cell (p:=⟨b,o+j,none⟩) (hrg j v hj) hbl hbn⟩
def sysMu (d l a r:Nat)(V:RowsV)(k:Nat):Prop:=k=d∨k=l∨caMu a r V k
structure SmBlk (W:World)(k:Nat):Prop where
 ca:CaBlk W k
 dk:(∃es c g,MapIs W k es c/\EnV es g/\∀j v,g j=some v->∃p,v = .pointer p)∨(∃T cs,BlkIs W k T cs/\cs.size<=64)∨∃ds,W.heap[k]? = some (.deferred ds)
theorem SmBlk.df {W:World}{k:Nat}{ds:Option (List Deferred)}(h:W.heap[k]? = some (.deferred ds)):SmBlk W k:=⟨.inr (.inr ⟨ds,h⟩),.inr (.inr ⟨ds,h⟩)⟩
theorem CaIs.sm {W:World}{a f r P:Nat}{room now hh mm:Int}{V:RowsV}(h:CaIs W a f r P room now hh mm V):∀k,caMu a r V k->SmBlk W k:=fun k hk=>by
 refine⟨h.ca k hk,?_⟩
 rcases hk with rfl|rfl|⟨j,v,hv,rfl⟩
 ·exact .inr (.inl ⟨_,_,h.cb,by show 6<=64;decide⟩)
 ·obtain⟨es,c,hm,he,_⟩:=h.mp
  exact .inl ⟨es,c,ptrV V,hm,he,fun k x hx=>by obtain⟨v,_,e⟩:=ptrV_ptr hx;exact⟨_,e⟩⟩
 ·exact .inr (.inl ⟨_,_,(h.rows j v hv).blk,by show 3<=64;decide⟩)
theorem LogIs.lg {W:World}{l d:Nat}{fr pg:Int}{S:LgS}(h:LogIs W l d fr pg S):∃A n c,BlkIs W l 104 (lgC (some ⟨d,0,none⟩) fr pg S.sr S.ep S.sz A n c):=by
 obtain⟨_,A,c,vs,hlg,_⟩:=h
 exact⟨A,vs.length,c,hlg⟩
theorem DkIs.bk {W:World}{d many:Nat}{g:Nat->List UInt8}{xs:List (Nat×List UInt8)}{left:Int}{st:Bool}(h:DkIs W d many g xs left st):∃r A n c,BlkIs W d 70 (dkC r many A n c left st):=by
 obtain⟨r,A,c,hb,_⟩:=h.has
 exact⟨r,A,xs.length,c,hb⟩
theorem FhIs.sm {W0 W:World}{d f l many:Nat}{fr pg:Int}{s:DS}{S:LgS}(h:FhIs W0 d f l many fr pg s S W):SmBlk W d/\SmBlk W l:=by
 obtain⟨r,A,n,c,hb⟩:=DkIs.bk h.dk
 obtain⟨A',n',c',hl⟩:=h.lg.lg
 exact⟨⟨.inr (.inl ⟨_,_,hb,by show 5<=64;decide,fun n e=>by cases e⟩),.inr (.inl ⟨_,_,hb,by show 5<=64;decide⟩)⟩,⟨.inr (.inl ⟨_,_,hl,by show 7<=64;decide,fun n e=>by cases e⟩),.inr (.inl ⟨_,_,hl,by show 7<=64;decide⟩)⟩⟩
structure CfIs (W0:World)(d f l a r many P:Nat)(fr pg room now hh mm:Int)(s:DS)(S:LgS)(V:RowsV)(W:World):Prop where
 fh:FhIs W0 d f l many fr pg s S W
 ca:CaIs W a f r P room now hh mm V
 nb:∀k,caMu a r V k->W0.heap.size<=k
 nz:∃k,¬ s.g k=zer64
 y5:∀x∈S.fs,x.y.length=512
section
variable {W0 W W':World}{d f l a r many P:Nat}{fr pg room now hh mm now' hh' mm':Int}{s s':DS}{S S':LgS}{V V':RowsV}
theorem CaIs.notTy (h:CaIs W a f r P room now hh mm V){k:Nat}{T:TypeId}{cs:Array Value}(hb:BlkIs W k T cs)(h1:T≠118)(h2:T≠126):¬ caMu a r V k:=fun hk=>by
 rcases hk with rfl|rfl|⟨j,v,hv,rfl⟩
 ·exact BlkIs.ne_type hb h.cb h1 rfl
 ·obtain⟨es,c,hm,_⟩:=h.mp
  exact hm.notBlk hb rfl
 ·exact BlkIs.ne_type hb (h.rows j v hv).blk h2 rfl
theorem CfIs.nd (h:CfIs W0 d f l a r many P fr pg room now hh mm s S V W):¬ caMu a r V d/\¬ caMu a r V l/\¬ caMu a r V f:=by
 obtain⟨_,_,_,_,hb⟩:=DkIs.bk h.fh.dk
 obtain⟨_,_,_,hl⟩:=h.fh.lg.lg
 exact⟨h.ca.notTy hb (by decide) (by decide),h.ca.notTy hl (by decide) (by decide),h.ca.notTy h.fh.fb (by decide) (by decide)⟩
theorem CfIs.ge (h:CfIs W0 d f l a r many P fr pg room now hh mm s S V W):∀k,sysMu d l a r V k->W0.heap.size<=k:=fun k hk=>by
 rcases hk with rfl|rfl|hk
 ·exact h.fh.gd
 ·exact h.fh.gl
 ·exact h.nb k hk
theorem CfIs.lts (h:CfIs W0 d f l a r many P fr pg room now hh mm s S V W):∀k,sysMu d l a r V k->k<W.heap.size:=fun k hk=>by
 rcases hk with rfl|rfl|hk
 ·exact h.fh.lts.1
 ·exact h.fh.lts.2
 ·exact h.ca.lts k hk
theorem FhIs.keepX {Mu:Nat->Prop}(h:FhIs W0 d f l many fr pg s S W)(hz:∃k,¬ s.g k=zer64)(hy:∀x∈S.fs,x.y.length=512)(hG:GrowBut Mu W W')(hsm:∀k,Mu k->SmBlk W k)(hge:∀k,Mu k->W0.heap.size<=k)(hn:∀k,Mu k->k≠d/\k≠l/\k≠f):FhIs W0 d f l many fr pg s S W':=by
 obtain⟨k,hk⟩:=hz
 exact⟨h.up.trans (hG.toBelow h.up.size hge),DkIs.keepX h.dk hk hG (fun e=>(hn _ e).1 rfl) (fun j hj=>(hsm j hj).dk),h.lg.keepC hy hG (fun j hj=>(hsm j hj).ca) (fun e=>(hn _ e).2.1 rfl),hG.blk h.fb (fun e=>(hn _ e).2.2 rfl),h.gd,h.gl⟩
theorem CfIs.keep {Mu:Nat->Prop}(h:CfIs W0 d f l a r many P fr pg room now hh mm s S V W)(hG:GrowBut Mu W W')(hsm:∀k,Mu k->SmBlk W k)(hge:∀k,Mu k->W0.heap.size<=k)(hn:∀k,Mu k->¬ sysMu d l a r V k/\k≠f):CfIs W0 d f l a r many P fr pg room now hh mm s S V W' :=
 ⟨h.fh.keepX h.nz h.y5 hG hsm hge (fun k hk=>⟨fun e=>(hn k hk).1 (.inl e),fun e=>(hn k hk).1 (.inr (.inl e)),(hn k hk).2⟩),h.ca.keep hG (fun k hk=>(hsm k hk).ca) (fun k hk e=>(hn k hk).1 (.inr (.inr e))),h.nb,h.nz,h.y5⟩
theorem CfIs.grow (h:CfIs W0 d f l a r many P fr pg room now hh mm s S V W)(hB:Below W.heap.size W W'):CfIs W0 d f l a r many P fr pg room now hh mm s S V W' :=
 ⟨h.fh.grow hB,h.ca.below hB,h.nb,h.nz,h.y5⟩
theorem CfIs.notDf (h:CfIs W0 d f l a r many P fr pg room now hh mm s S V W){D:Nat}{ds:Option (List Deferred)}(hD:W.heap[D]? = some (.deferred ds)):¬ sysMu d l a r V D/\D≠f:=by
 have hc:∀{T:TypeId} {cs:Array Value} {k:Nat},BlkIs W k T cs->D≠k:=fun hb e=>by
  subst e
  have hb':W.heap[D]? = some (.cells _ _ (0,0)):=hb
  rw[hD] at hb'
  cases hb'
 obtain⟨_,_,_,_,hb⟩:=DkIs.bk h.fh.dk
 obtain⟨_,_,_,hl⟩:=h.fh.lg.lg
 refine⟨fun hk => ?_,hc h.fh.fb⟩
 rcases hk with e|e|e|e|⟨j,v,hv,e⟩
 ·exact hc hb e
 ·exact hc hl e
 ·exact hc h.ca.cb e
 ·obtain⟨es,c,hm,_⟩:=h.ca.mp
  have hm':W.heap[r]? = some (.map es c):=hm
  rw[e,hm'] at hD
  cases hD
 ·exact hc (h.ca.rows j v hv).blk e
theorem CfIs.taken (h:CfIs W0 d f l a r many P fr pg room now hh mm s S V W){D:Nat}{ds:Option (List Deferred)}(hD:W.heap[D]? = some (.deferred ds))(hd:W0.heap.size<=D)(o:Obj):CfIs W0 d f l a r many P fr pg room now hh mm s S V (W.putObj D o)/\GrowBut (fun k=>k=D) W (W.putObj D o):=by
 have hG:GrowBut (fun k=>k=D) W (W.putObj D o):=GrowBut.grown (grownBy_putObj' W D o) (fun r e=>by injection e with e;exact .inl e.symm)
 exact⟨h.keep hG (fun k e=>by subst e;exact SmBlk.df hD) (fun k e=>by subst e;exact hd) (fun k e=>by subst e;exact h.notDf hD),hG⟩
theorem CfIs.turn (h:CfIs W0 d f l a r many P fr pg room now hh mm s S V W)(hG:GrowBut (caMu a r V) W W')(hC:CaIs W' a f r P room now' hh' mm' V')(hN:∀k,caMu a r V' k->caMu a r V k∨W.heap.size<=k):CfIs W0 d f l a r many P fr pg room now' hh' mm' s S V' W':=by
 obtain⟨n1,n2,n3⟩:=h.nd
 have hup:=h.fh.up.size
 exact⟨h.fh.keepX h.nz h.y5 hG h.ca.sm h.nb (fun k hk=>⟨fun e=>n1 (e▸hk),fun e=>n2 (e▸hk),fun e=>n3 (e▸hk)⟩),hC,fun k hk=>(hN k hk).elim (h.nb k) (fun e=>by omega),h.nz,h.y5⟩
theorem CfIs.turnF (h:CfIs W0 d f l a r many P fr pg room now hh mm s S V W)(hG:GrowBut (fun k=>k=d∨k=l) W W')(hF:FhIs W0 d f l many fr pg s' S' W')(hz:∃k,¬ s'.g k=zer64)(hy:∀x∈S'.fs,x.y.length=512):CfIs W0 d f l a r many P fr pg room now hh mm s' S' V W':=by
 obtain⟨n1,n2,_⟩:=h.nd
 exact⟨hF,h.ca.keep hG (fun k hk=>by rcases hk with rfl|rfl;exact h.fh.sm.1.ca;exact h.fh.sm.2.ca) (fun k hk=>by rcases hk with rfl|rfl;exact n1;exact n2),h.nb,hz,hy⟩
end
def Apart (M1 M2:Nat->Prop)(f1 f2:Nat):Prop:=∀k,(M1 k∨k=f1)->¬ (M2 k∨k=f2)
theorem Apart.symm {M1 M2:Nat->Prop}{f1 f2:Nat}(h:Apart M1 M2 f1 f2):Apart M2 M1 f2 f1:=fun k h2 h1=>h k h1 h2
theorem fread_range {w:World}{f l d:Nat}{fr pg:Int}{S:LgS}(hb:BlkIs w f 75 (flFC l fr pg))(hpl:planOk fr pg=true)(p:Int)(hp:p<0∨pg<=p) :
  Calls Tryz.prog 72 #[.pointer (some ⟨f,0,none⟩),.int .i64 p] w fun e w'=>e = .returned (.tuple #[.slice none 0 0,.int .i64 4])/\Below w.heap.size w w':=by
 have HN:=fnone_gives hb
 have HA:=pageAt_gives (fr:=fr) (pg:=pg) (n:=p) w
 have hp0:plE (planOk fr pg) p pg=4:=by rw[hpl];simp only[plE,if_true];rw[if_neg (by omega)]
 unfold atV at HA
 rw[hp0,if_neg (by decide)] at HA
 have hpl2:w.rangeAt f 1 [.int .i64 fr,.int .i64 pg]:=fun j v hj=>by
  rw[hb.cell]
  match j,hj with
  | 0,hj=>exact hj
  | 1,hj=>exact hj
  | j+2,hj=>exact absurd hj (by simp)
 clear hp0 hp hpl
 go_enter Tryz.func72,Tryz.ntmps72
 go_wp2_with fail
 refine wp_scope_jumps (rest:=?rest) 0 (fun a w'=>(∃u0 u1 u2 u3 u4 u6 u7 u8 u9 u10 u11 u12 u13 u14 u15 u16 u17 u18 u19 u20 u21 u22 u23 u24 u25 u26 u27 u28 u29 u30 u31 u32 u33 u34 u35 u36 u37 u38 u39 u40 u41 u42 u43 u44 u45 u46 u47 u48 u49 u50 u51 u52 u53 u54 u55 u56 u57 u58 u59 u60 u61 u62 u63 u64 u65 u66 u67 u68 u69,a = { tmps:=#[u0,u1,u2,u3,u4,.int .i64 4,u6,u7,u8,u9,u10,u11,u12,u13,u14,u15,u16,u17,u18,u19,u20,u21,u22,u23,u24,u25,u26,u27,u28,u29,u30,u31,u32,u33,u34,u35,u36,u37,u38,u39,u40,u41,u42,u43,u44,u45,u46,u47,u48,u49,u50,u51,u52,u53,u54,u55,u56,u57,u58,u59,u60,u61,u62,u63,u64,u65,u66,u67,u68,u69],defers:=[] })/\Below w.heap.size w w') (fun _ _=>0) ?hf ?first ?pass
 case hf=>exact rfl
 case pass =>
  rintro a w' ⟨⟨u0,u1,u2,u3,u4,u6,u7,u8,u9,u10,u11,u12,u13,u14,u15,u16,u17,u18,u19,u20,u21,u22,u23,u24,u25,u26,u27,u28,u29,u30,u31,u32,u33,u34,u35,u36,u37,u38,u39,u40,u41,u42,u43,u44,u45,u46,u47,u48,u49,u50,u51,u52,u53,u54,u55,u56,u57,u58,u59,u60,u61,u62,u63,u64,u65,u66,u67,u68,u69,rfl⟩,hB⟩
  go_wp2
  simp only[Exit.jump]
  exact bodyPost_ret (results_tmp2 rfl _ _ _) rfl ⟨rfl,hB⟩
 case first =>
  go_wp2_with (first
   | (go_at_call 63;refine HN.mono ?_;rintro e w' ⟨rfl,rfl⟩)
   | (refine wp_exec rfl (x_loadM rowPlan hpl2 rfl rfl rfl) ?_)
   | (go_at_call 121;refine HA.mono ?_;rintro e w1 ⟨rfl,hB1⟩))
  go_step3
  exact⟨rfl,by repeat (first|exact rfl|apply Exists.intro),hB1⟩
def fileR (fr pg:Int)(s:DS)(S:LgS)(p:Int):Int ⊕ List UInt8:=if p<0∨pg<=p then .inl 4 else if s.stopped && (pgY S.fs p).isNone then .inl 140 else .inr (fileY (laid s.g s.xs) fr S p.toNat)
theorem fileR_out {fr pg:Int}{s:DS}{S:LgS}{p:Int}(h:p<0∨pg<=p):fileR fr pg s S p = .inl 4:=if_pos h
theorem fileR_in {fr pg:Int}{s:DS}{S:LgS}{p:Int}(hs:s.stopped=false)(h:0<=p/\p<pg):fileR fr pg s S p = .inr (fileY (laid s.g s.xs) fr S p.toNat):=by
 unfold fileR
 rw[if_neg (by omega),hs]
 rfl
theorem fileR_cases {fr pg:Int}{s:DS}{S:LgS}(p:Int)(hG:∀k,(laid s.g s.xs k).length=64)(hy:∀x∈S.fs,x.y.length=512):(∃er,er≠0/\fileR fr pg s S p = .inl er)∨∃y,(0<=p/\p<pg)/\y.length=512/\fileR fr pg s S p = .inr y:=by
 unfold fileR
 split
 ·exact .inl ⟨4,by decide,rfl⟩
 ·split
  ·exact .inl ⟨140,by decide,rfl⟩
  ·exact .inr ⟨_,by omega,fpY_len hG hy _ _,rfl⟩
theorem fileSays_gives {W0 W:World}{d f l many:Nat}{fr pg:Int}{s:DS}{S:LgS}(h:FhIs W0 d f l many fr pg s S W)(hst:s.stopped=false)(hxl:s.xs.length<=1000000)(hn:S.fs.length<=2000)(hy:∀x∈S.fs,x.y.length=512)(hpl:planOk fr pg=true)(hmany:(many:Int)=2+9*fr+8*pg)(hmax:many<=1000000)(p:Int):FileSays W f p (fileR fr pg s S p):=by
 unfold FileSays
 by_cases hp:p<0∨pg<=p
 ·rw[fileR_out hp]
  exact fread_range (l:=l) (d:=d) (S:=S) h.fb hpl p hp
 ·rw[fileR_in hst (by omega)]
  obtain⟨q,hq⟩:∃q:Nat,(q:Int)=p:=⟨p.toNat,by omega⟩
  have hpr:=(planOk_iff fr pg).1 hpl
  have hG:=laid_long h.dk
  subst hq
  have:=fread_gives W f l d many fr pg s S h.fb h.lg h.dk hst hxl hn hy hpl hmany hmax q (by omega) (2+9*fr.toNat+8*q) (by omega)
  refine this.mono ?_
  rintro e w' ⟨A,c,rfl,hin,hB⟩
  have hl:(fileY (laid s.g s.xs) fr S q).length=512:=fpY_len hG hy _ _
  refine⟨⟨A,c,?_,hin⟩,hB⟩
  show _=Ending.returned (.tuple #[.slice A (fileY (laid s.g s.xs) fr S ((q:Int)).toNat).length c,.int .i64 0])
  rw[Int.toNat_natCast,hl]
structure CaSt where
 now:Int
 hh:Int
 mm:Int
 V:RowsV
def RdP (P:Nat)(room:Int)(c:CaSt)(page:Int)(R:Int ⊕ List UInt8)(sz:Nat)(x:Int ⊕ List UInt8)(c':CaSt):Prop :=
 (∃v,c.V page=some v/\x = .inr v.y/\c'=⟨c.now+1,c.hh+1,c.mm,updV c.V page (some { v with at_:=c.now+1 })⟩) ∨
 (c.V page=none/\∃er,R = .inl er/\x = .inl er/\c'=⟨c.now,c.hh,c.mm+1,c.V⟩) ∨
 (c.V page=none/\∃y,R = .inr y/\NoRoom P room c.V/\x = .inl 160/\c'=⟨c.now,c.hh,c.mm+1,c.V⟩) ∨
 (c.V page=none/\∃y V1 b A1 c1,R = .inr y/\MadeRoom P room c.V V1/\sz<=b/\x = .inr y/\c'=⟨c.now+1,c.hh,c.mm+1,updV V1 page (some ⟨b,c.now+1,A1,c1,y,false⟩)⟩)
def RdE (x:Int ⊕ List UInt8)(e:Ending)(w':World):Prop :=
 match x with
 | .inl er=>e = .returned (.tuple #[.slice none 0 0,.int .i64 er])
 | .inr y=>∃A c,e = .returned (.tuple #[.slice A y.length c,.int .i64 0])/\InB w' w'.heap.size A c y/\TyB w' A
theorem caMu_upd {a r n:Nat}{V V1:RowsV}{page:Int}{b:Nat}{v:RowV}(hV:∀k u,V1 k=some u->V k=some u)(hb:v.b=b)(h:(∃u,V page=some u/\b=u.b)∨n<=b):∀k,caMu a r (updV V1 page (some v)) k->caMu a r V k∨n<=k:=fun k hk=>by
 rcases hk with hk|hk|⟨j,u,hu,rfl⟩
 ·exact .inl (.inl hk)
 ·exact .inl (.inr (.inl hk))
 ·unfold updV at hu
  split at hu
  ·injection hu with hu
   subst hu
   rw[hb]
   rcases h with⟨u,h1,h2⟩|h
   ·exact .inl (.inr (.inr ⟨page,u,h1,h2⟩))
   ·exact .inr h
  ·exact .inl (.inr (.inr ⟨j,u,hV j u hu,rfl⟩))
theorem RdP.names {P:Nat}{room:Int}{c c':CaSt}{page:Int}{R x:Int ⊕ List UInt8}{a r n:Nat}(h:RdP P room c page R n x c'):∀k,caMu a r c'.V k->caMu a r c.V k∨n<=k:=by
 rcases h with⟨v,h1,_,rfl⟩|⟨_,er,_,_,rfl⟩|⟨_,y,_,_,_,rfl⟩|⟨_,y,V1,b,A1,c1,_,h2,h3,_,rfl⟩
 ·exact caMu_upd (fun k u h=>h) rfl (.inl ⟨v,h1,rfl⟩)
 ·exact fun k hk => .inl hk
 ·exact fun k hk => .inl hk
 ·exact caMu_upd (fun k u h=>h2.sub h) rfl (.inr h3)
structure CaSt.Ok (c:CaSt)(N:Nat):Prop where
 now:0<=c.now/\c.now<=(N:Int)
 hh:0<=c.hh/\c.hh<=(N:Int)
 mm:0<=c.mm/\c.mm<=(N:Int)
theorem CaSt.Ok.more {c:CaSt}{N M:Nat}(h:c.Ok N)(hm:N<=M):c.Ok M:=⟨by have:=h.now;omega,by have:=h.hh;omega,by have:=h.mm;omega⟩
theorem RdP.ok {P:Nat}{room:Int}{c c':CaSt}{page:Int}{R x:Int ⊕ List UInt8}{n N:Nat}(h:RdP P room c page R n x c')(hc:c.Ok N):c'.Ok (N+1):=by
 obtain⟨h1,h2,h3⟩:=hc
 rcases h with⟨v,_,_,rfl⟩|⟨_,er,_,_,rfl⟩|⟨_,y,_,_,_,rfl⟩|⟨_,y,V1,b,A1,c1,_,_,_,_,rfl⟩
 all_goals exact⟨by simp only;omega,by simp only;omega,by simp only;omega⟩
abbrev CsIs (W0:World)(d f l a r many P:Nat)(fr pg room:Int)(s:DS)(S:LgS)(c:CaSt)(W:World):Prop:=CfIs W0 d f l a r many P fr pg room c.now c.hh c.mm s S c.V W
section
variable {W0 W W':World}{d f l a r many P:Nat}{fr pg room:Int}{s:DS}{S:LgS}{c:CaSt}
theorem CfIs.fhKeep {now hh mm:Int}{V:RowsV}(h:CfIs W0 d f l a r many P fr pg room now hh mm s S V W)(hG:GrowBut (caMu a r V) W W'):FhIs W0 d f l many fr pg s S W':=by
 obtain⟨n1,n2,n3⟩:=h.nd
 exact h.fh.keepX h.nz h.y5 hG h.ca.sm h.nb (fun k hk=>⟨fun e=>n1 (e▸hk),fun e=>n2 (e▸hk),fun e=>n3 (e▸hk)⟩)
def FileTold (W0:World)(d f l many:Nat)(fr pg:Int)(s:DS)(S:LgS):Prop:=∀(p:Int) (W:World),FhIs W0 d f l many fr pg s S W->FileSays W f p (fileR fr pg s S p)
theorem fileTold_free (hst:s.stopped=false)(hxl:s.xs.length<=1000000)(hn:S.fs.length<=2000)(hy:∀x∈S.fs,x.y.length=512)(hpl:planOk fr pg=true)(hmany:(many:Int)=2+9*fr+8*pg)(hmax:many<=1000000):FileTold W0 d f l many fr pg s S:=fun p W h=>fileSays_gives h hst hxl hn hy hpl hmany hmax p
theorem sread_gives (h:CsIs W0 d f l a r many P fr pg room s S c W)(hT:FileTold W0 d f l many fr pg s S)(hc:c.Ok 900000)(hroom:2<=room)(hP:P<=1000)(hPg:(P:Int)=pg)(page:Int) :
  Calls Tryz.prog 37 #[.pointer (some ⟨a,0,none⟩),.int .i64 page] W fun e w'=>∃x c',RdP P room c page (fileR fr pg s S page) W.heap.size x c'/\RdE x e w'/\CsIs W0 d f l a r many P fr pg room s S c' w'/\GrowBut (caMu a r c.V) W w':=by
 have HF:∀W',GrowBut (caMu a r c.V) W W'->FileSays W' f page (fileR fr pg s S page):=fun W' hG=>hT page W' (h.fhKeep hG)
 have hnow:=hc.now
 have hhh:=hc.hh
 have hmm:=hc.mm
 have fin:∀e w',ReadOut a f r P room c.now c.hh c.mm c.V page (fileR fr pg s S page) W.heap.size e w'/\GrowBut (caMu a r c.V) W w'->∃x c',RdP P room c page (fileR fr pg s S page) W.heap.size x c'/\RdE x e w'/\CsIs W0 d f l a r many P fr pg room s S c' w'/\GrowBut (caMu a r c.V) W w':=by
  rintro e w' ⟨⟨v,A,k,h1,rfl,h2,h3,h4⟩|⟨h1,er,h2,rfl,h3⟩|⟨h1,y,h2,h3,rfl,h4⟩|⟨h1,y,V1,b,A,k,A1,k1,h2,h3,h4,rfl,h5,h6,h7⟩,hG⟩
  ·have hR:RdP P room c page (fileR fr pg s S page) W.heap.size (.inr v.y) ⟨c.now+1,c.hh+1,c.mm,updV c.V page (some { v with at_:=c.now+1 })⟩:=.inl ⟨v,h1,rfl,rfl⟩
   exact⟨_,_,hR,⟨A,k,rfl,h2,h3⟩,h.turn hG h4 hR.names,hG⟩
  ·have hR:RdP P room c page (fileR fr pg s S page) W.heap.size (.inl er) ⟨c.now,c.hh,c.mm+1,c.V⟩:=.inr (.inl ⟨h1,er,h2,rfl,rfl⟩)
   exact⟨_,_,hR,rfl,h.turn hG h3 hR.names,hG⟩
  ·have hR:RdP P room c page (fileR fr pg s S page) W.heap.size (.inl 160) ⟨c.now,c.hh,c.mm+1,c.V⟩:=.inr (.inr (.inl ⟨h1,y,h2,h3,rfl,rfl⟩))
   exact⟨_,_,hR,rfl,h.turn hG h4 hR.names,hG⟩
  ·have hR:RdP P room c page (fileR fr pg s S page) W.heap.size (.inr y) ⟨c.now+1,c.hh,c.mm+1,updV V1 page (some ⟨b,c.now+1,A1,k1,y,false⟩)⟩:=.inr (.inr (.inr ⟨h1,y,V1,b,A1,k1,h2,h3,h4,rfl,rfl⟩))
   exact⟨_,_,hR,⟨A,k,rfl,h5,h6⟩,h.turn hG h7 hR.names,hG⟩
 cases hv:c.V page with
 | some v=>exact(cread_hit W a f r P room c.now c.hh c.mm c.V h.ca hP (by omega) hroom (by omega) page _ v hv).mono fin
 | none =>
  rcases fileR_cases (fr:=fr) (pg:=pg) page (laid_long h.fh.dk) h.y5 with⟨er,her,hR⟩|⟨y,hp,hy,hR⟩
  ·rw[hR] at HF fin ⊢
   exact(cread_err W a f r P room c.now c.hh c.mm c.V h.ca (by omega) page er hv her HF).mono fin
  ·rw[hR] at HF fin ⊢
   exact(cread_miss W a f r P room c.now c.hh c.mm c.V h.ca hP (by omega) hroom (by omega) page (by omega) y hy hv HF).mono fin
end
def SeenIs (es:Array MapEntry)(seen:Array Nat)(pd:Int->Bool):Prop:=∀e∈es.toList,∀k:Int,e.key = .int .i64 k->(pd k=true↔seen.contains e.born=true)
def pdPush (pd:Int->Bool)(k:Int):Int->Bool:=fun j=>decide (j=k) || pd j
theorem pdPush_self (pd:Int->Bool)(k:Int):pdPush pd k k=true:=by simp[pdPush]
theorem pdPush_ne {pd:Int->Bool}{k j:Int}(h:j≠k):pdPush pd k j=pd j:=by simp[pdPush,h]
theorem SeenIs.start (es:Array MapEntry):SeenIs es #[] (fun _=>false):=fun e _ k _=>by simp
theorem SeenIs.sub {es es':Array MapEntry}{seen:Array Nat}{pd:Int->Bool}(h:SeenIs es seen pd)(hs:∀x∈es'.toList,x∈es.toList):SeenIs es' seen pd:=fun e he=>h e (hs e he)
theorem EnV.at_ {es:Array MapEntry}{f:Int->Option Value}(h:EnV es f){e:MapEntry}(he:e∈es.toList):∃(k:Int) (v:Value),f k=some v/\e.key = .int .i64 k/\e.val=v:=by
 obtain⟨i,hi,rfl⟩:=List.getElem_of_mem he
 exact h.keys i es.toList[i] (by rw[<-qE];exact zI hi)
theorem EnV.keyInj {es:Array MapEntry}{f:Int->Option Value}(h:EnV es f){e e':MapEntry}(he:e∈es.toList)(he':e'∈es.toList)(hk:e.key=e'.key):e=e':=by
 obtain⟨i,hi,rfl⟩:=List.getElem_of_mem he
 obtain⟨j,hj,rfl⟩:=List.getElem_of_mem he'
 have:=h.inj i j _ _ (by rw[<-qE];exact zI hi) (by rw[<-qE];exact zI hj) hk
 subst this
 rfl
theorem SeenIs.next {es:Array MapEntry}{f:Int->Option Value}{seen:Array Nat}{pd:Int->Bool}{clock:Nat}(h:SeenIs es seen pd)(he:EnV es f)(hst:MapKept.Stamped es clock){e:MapEntry}(hem:e∈es.toList){k:Int}(hek:e.key = .int .i64 k):SeenIs es (seen.push e.born) (pdPush pd k):=fun e' he' k' hk'=>by
 have hnd:=((MapKept.stamped_iff es clock).1 hst).2.1
 rw[contains_push,Bool.or_eq_true]
 unfold pdPush
 rw[Bool.or_eq_true,h e' he' k' hk']
 constructor
 ·rintro(hd|hs)
  ·have hkk:k'=k:=by simpa using hd
   subst hkk
   have:=he.keyInj he' hem (hk'.trans hek.symm)
   subst this
   exact .inr (by simp)
  ·exact .inl hs
 ·rintro(hs|hb)
  ·exact .inr hs
  ·have hbb:e'.born=e.born:=by simpa using hb
   obtain rfl:=born_inj hnd he' hem hbb
   exact .inl (by simpa using keyI_inj (hk'.symm.trans hek))
theorem SeenIs.fin {es:Array MapEntry}{f:Int->Option Value}{seen:Array Nat}{pd:Int->Bool}(h:SeenIs es seen pd)(he:EnV es f)(hall:∀x∈es.toList,seen.contains x.born=true):∀k v,f k=some v->pd k=true:=fun k v hv=>by
 obtain⟨i,e,h1,h2,_⟩:=he.all k v hv
 have hm:e∈es.toList:=Array.mem_toList_iff.2 (Array.mem_of_getElem? h1)
 exact(h e hm k h2).2 (hall e hm)
theorem iterV {w:World}{r m since clock:Nat}{seen:Array Nat}{es:Array MapEntry}{f:Int->Option Value}{pd:Int->Bool}(ty:TypeId)(h:IterAt w r m since seen)(hm:MapIs w m es clock)(he:EnV es f)(hst:MapKept.Stamped es clock)(hold:∀x∈es.toList,x.born<since)(hc:since<=clock)(hne:m<r)(hr:r<w.heap.size)(hp:SeenIs es seen pd) :
  ((∀k v,f k=some v->pd k=true)/\(Instr.next (.pointer (some ⟨r,0,none⟩)) false ty).run Tryz.prog w = .ok (.tuple #[.bool false]) w) ∨
  ∃k v b,∃w':World,f k=some v/\pd k=false/\(Instr.next (.pointer (some ⟨r,0,none⟩)) false ty).run Tryz.prog w = .ok (.tuple #[.bool true,.int .i64 k,v]) w'/\IterAt w' r m since (seen.push b)/\Below r w w'/\w'.rangeLeft m r<w.rangeLeft m r /\
   (Instr.entry (.pointer (some ⟨r,0,none⟩))).run Tryz.prog w' = .ok (.tuple #[.int .i64 k,v]) w'/\SeenIs es (seen.push b) (pdPush pd k):=by
 rcases iter_next ty h hm hold hc hst hne hr with⟨h1,h2⟩|⟨e,w',h1,h2,h3,h4,h5,h6,h7⟩
 ·exact .inl ⟨hp.fin he h1,h2⟩
 ·obtain⟨k,v,q1,q2,q3⟩:=he.at_ h1
  rw[q2,q3] at h3 h7
  refine .inr ⟨k,v,e.born,w',q1,?_,h3,h4,h5,h6,h7,hp.next he hst h1 q2⟩
  cases hpd:pd k with
  | false=>rfl
  | true =>
   have:=(hp e h1 k q2).1 hpd
   rw[h2] at this
   cases this
theorem leftOf_sub {es es':Array MapEntry}(seen:Array Nat)(h:es'.toList.Sublist es.toList):(leftOf es' seen).size<=(leftOf es seen).size:=by
 unfold leftOf
 have e:∀xs:Array MapEntry,(xs.filter fun e => !seen.contains e.born).size=(xs.toList.filter fun e => !seen.contains e.born).length:=fun xs=>by
  rw[<-Array.toList_filter,Array.length_toList]
 rw[e,e]
 exact(h.filter _).length_le
theorem erase_sub (es:Array MapEntry)(i:Nat):(es.eraseIdxIfInBounds i).toList.Sublist es.toList:=by
 unfold Array.eraseIdxIfInBounds
 split
 ·rw[Array.toList_eraseIdx]
  exact List.eraseIdx_sublist _ _
 ·exact List.Sublist.refl _
theorem IterAt.keep {w w':World}{r m since:Nat}{seen:Array Nat}(h:IterAt w r m since seen)(hk:w'.heap[r]? = w.heap[r]?):IterAt w' r m since seen:=by
 obtain⟨c0,q1,q2⟩:=h
 exact⟨c0,hk.trans q1,q2⟩
theorem rangeLeft_keep {w w':World}{m r:Nat}(h1:w'.heap[m]? = w.heap[m]?)(h2:w'.heap[r]? = w.heap[r]?):w'.rangeLeft m r=w.rangeLeft m r:=by
 unfold World.rangeLeft
 rw[h1,h2]
section
variable {ops:Array Oper}{Q:Exit->Act->World->Prop}{a:Act}{w:World}{r clock:Nat}{k:Int}{es:Array MapEntry}{f:Int->Option Value}{x y z:Operand}{o:Oper}
theorem opPutB {i:Nat}{K:Act->World->Prop}{l:Value}(ho:ops[i]? = some o)(hg:o.guard=none)(hop:o.op = .mapUpdate 87 x y z)(h1:a.eval x = .map (some r))(h2:a.eval y = .int .i64 k)(h3:a.eval z=l)(he:EnV es f)(hst:MapKept.Stamped es clock)(hm:MapIs w r es clock)
  (h:∀es' clock',EnV es' (fsetV f k (some l))->MapKept.Stamped es' clock'->K (a.put o.dst undef) (setMap w r es' clock')):wpOp Tryz.prog ops Q i K a w:=by
 obtain⟨es',clock',hr,he',hs'⟩:=x_putT (ρ:=a.eval) (o:=o) Tryz.underlying87 he hst hm hop h1 h2 h3
 exact RegF.opS ho hg hr (h es' clock' he' hs')
end
section
variable {ρ:Operand->Value}{w:World}{o:Oper}{x y z:Operand}{r clock:Nat}{k:Int}{es:Array MapEntry}{f:Int->Option Value}{T E:TypeId}
theorem x_delT2 (hT:Tryz.prog.underlying T=some (.map 3 E))(he:EnV es f)(hst:MapKept.Stamped es clock)(hm:MapIs w r es clock)(ho:o.op = .call { callee:=.builtin .delete,args:=#[x,y],argTypes:=#[T,3] })(h1:ρ x = .map (some r))(h2:ρ y = .int .i64 k) :
  ∃es',(execOp ρ o).run Tryz.prog w = .ok (.value (.tuple #[])) (setMap w r es' clock)/\EnV es' (fsetV f k none)/\MapKept.Stamped es' clock/\es'.toList.Sublist es.toList:=by
 have hk:MapKept.IsKey (.int .i64) (.int .i64 k):=rfl
 have hc:(Instr.checkKey es.isEmpty 10000 3 (.int .i64 k)).run Tryz.prog w = .ok () w:=MapKept.run_checkKey Tryz.underlying3 hk _ 9999
 have hm':w.heap[r]? = some (.map es clock):=hm
 rcases he.find k with⟨hf,hn⟩|⟨j,e,l0,hf,hj,hek,_,_⟩
 ·refine⟨es,?_,by rw[fsetV_none hn];exact he,hst,List.Sublist.refl _⟩
  simp[execOp,ho,h1,h2,resolve,invoke,builtin,Builtin.delete_,run_underlying hT,MapKept.run_getObj_map hm',hc,MapKept.run_findKey Tryz.underlying3 hf,MapKept.run_setObj_map _ hm',Result.andThen,setMap]
 ·refine⟨_,?_,he.erase hj hek,MapKept.stamped_erase hst j,erase_sub es j⟩
  simp[execOp,ho,h1,h2,resolve,invoke,builtin,Builtin.delete_,run_underlying hT,MapKept.run_getObj_map hm',hc,MapKept.run_findKey Tryz.underlying3 hf,MapKept.run_setObj_map _ hm',Result.andThen,setMap]
end
def dirtyF (V:RowsV):Int->Option Value:=fun k=>match V k with|some v=>if v.d then some (.slice v.A v.y.length v.c) else none|none=>none
def dirtyY (V:RowsV):Int->Option (List UInt8):=fun k=>match V k with|some v=>if v.d then some v.y else none|none=>none
theorem dirtyF_none {V:RowsV}{k:Int}{v:RowV}(h:V k=some v)(hd:v.d=false):dirtyF V k=none:=by unfold dirtyF;rw[h];simp only[hd,Bool.false_eq_true,if_false]
theorem dirtyF_some {V:RowsV}{k:Int}{v:RowV}(h:V k=some v)(hd:v.d=true):dirtyF V k=some (.slice v.A v.y.length v.c):=by unfold dirtyF;rw[h];simp only[hd,if_true]
def come (pd:Int->Bool)(g:Int->Option Value):Int->Option Value:=fun k=>if pd k then g k else none
theorem come_start (g:Int->Option Value):come (fun _=>false) g=fun _=>none:=rfl
theorem come_some {pd:Int->Bool}{g:Int->Option Value}{k:Int}{x:Value}(h:g k=some x):come (pdPush pd k) g=fsetV (come pd g) k (some x):=by
 funext j
 unfold come fsetV
 by_cases e:j=k
 ·subst e
  rw[pdPush_self,if_pos rfl,if_pos rfl,h]
 ·rw[pdPush_ne e,if_neg e]
theorem come_none {pd:Int->Bool}{g:Int->Option Value}{k:Int}(h:g k=none):come (pdPush pd k) g=come pd g:=by
 funext j
 unfold come
 by_cases e:j=k
 ·subst e
  rw[h]
  split<;>split<;>rfl
 ·rw[pdPush_ne e]
theorem come_all {pd:Int->Bool}{g:Int->Option Value}(h:∀k x,g k=some x->pd k=true):come pd g=g:=by
 funext j
 unfold come
 cases hg:g j with
 | none=>split<;>rfl
 | some x=>rw[h j x hg,if_pos rfl]
theorem dirtyPg {W:World}{a f r P:Nat}{room now hh mm:Int}{V:RowsV}(h:CaIs W a f r P room now hh mm V)(hf:∀k v,V k=some v->v.y.length=512):PgIs W (dirtyF V) (dirtyY V):=fun k=>by
 cases hv:V k with
 | none=>exact .inl ⟨by unfold dirtyF;rw[hv],by unfold dirtyY;rw[hv]⟩
 | some v =>
  cases hd:v.d with
  | false=>exact .inl ⟨dirtyF_none hv hd,by unfold dirtyY;rw[hv];simp[hd]⟩
  | true=>exact .inr ⟨v.A,v.c,v.y,by rw[dirtyF_some hv hd,hf k v hv],by unfold dirtyY;rw[hv];simp[hd],hf k v hv,(h.rows k v hv).bys⟩
structure DirtyAt (w:World)(s r clock:Nat)(es:Array MapEntry)(g:Int->Option Value)(seen:Array Nat)(pd:Int->Bool)(W:World):Prop where
 it:IterAt W (s+1+1) r clock seen
 sn:SeenIs es seen pd
 mp:∃eo co,MapIs W s eo co/\EnV eo (come pd g)/\MapKept.Stamped eo co
 bx:BlkIs W (s+1) 87 #[.map (some s)]
 up:Below s w W
 sz:s+1+1<W.heap.size
theorem cdirty_gives (w:World)(a f r P:Nat)(room now hh mm:Int)(V:RowsV)(h:CaIs w a f r P room now hh mm V) :
  Calls Tryz.prog 68 #[.pointer (some ⟨a,0,none⟩)] w fun e w'=>∃q s eo co,e = .returned (.func (.func 112) #[] #[.pointer (some ⟨q,0,none⟩)])/\BlkIs w' q 87 #[.map (some s)]/\MapIs w' s eo co/\EnV eo (dirtyF V)/\MapKept.Stamped eo co/\Below w.heap.size w w'/\w.heap.size<=s/\w.heap.size<=q:=by
 obtain⟨W2,hW2⟩:∃W2,W2=((w.alloc (.map #[] 0)).alloc (.cells #[.map (some w.heap.size)] 87)):=⟨_,rfl⟩
 have hBm:Below w.heap.size w (w.alloc (.map #[] 0)):=(Below.refl _ w).alloc (zG _) _
 have hB2:Below w.heap.size w W2:=by rw[hW2];exact hBm.alloc (by simp) _
 have s2:W2.heap.size=w.heap.size+1+1:=by rw[hW2];simp
 have hm2:MapIs W2 w.heap.size #[] 0:=by
  rw[hW2]
  exact(show MapIs (w.alloc (.map #[] 0)) w.heap.size #[] 0 from heap_alloc_new w _).below ((Below.refl _ _).alloc (zG _) _) (by simp)
 have b2:BlkIs W2 (w.heap.size+1) 87 #[.map (some w.heap.size)]:=by
  have:=BlkIs.new (w.alloc (.map #[] 0)) 87 #[.map (some w.heap.size)]
  rw[World.size_alloc] at this
  rw[hW2]
  exact this
 have h2:=h.below hB2
 have HN:=cnone_gives h2.cb
 have k3:W2.cell? ⟨a,3,none⟩=some (.map (some r)):=(h2.cb.cell _).trans rfl
 obtain⟨es,clock,hm,he,hst⟩:=h.mp
 have hm2r:MapIs W2 r es clock:=hm.below hB2 hm.lt
 have hrl:=hm.lt
 have hcl:∀x∈es.toList,x.born<clock:=((MapKept.stamped_iff es clock).1 hst).1
 obtain⟨W3,hW3⟩:∃W3,W3=W2.alloc (.mapIter (some r) clock #[] clock):=⟨_,rfl⟩
 have hB3:Below W2.heap.size W2 W3:=by rw[hW3];exact(Below.refl _ _).alloc (zG _) _
 have hit3:IterAt W3 (w.heap.size+1+1) r clock #[]:=⟨clock,by rw[hW3,<-s2];exact heap_alloc_new W2 _,zG _⟩
 have hB3w:Below w.heap.size w W3:=hB2.trans (hB3.mono hB2.size)
 have s3:w.heap.size+1+1<W3.heap.size:=by rw[hW3];simp;omega
 have at0:DirtyAt w w.heap.size r clock es (dirtyF V) #[] (fun _=>false) W3:=⟨hit3,SeenIs.start es,⟨#[],0,hm2.below hB3 hm2.lt,by rw[come_start];exact EnV.empty,MapKept.stamped_empty 0⟩,b2.below hB3 b2.lt,hB3w,s3⟩
 have HW2:=Lib.hid hW2.symm
 have HW3:=Lib.hid hW3.symm
 have HS2:=Lib.hid s2
 clear hW2 hW3 s2
 go_enter Tryz.func68,Tryz.ntmps68
 go_wp2_with (first
  | (refine wp_makeMap rfl rfl ?_;intro _)
  | (go_at_call 65;rw[HW2.out];refine HN.mono ?_;rintro e w' ⟨rfl,rfl⟩)
  | (refine wp_exec rfl (x_range hm2r Tryz.underlying111 rfl rfl) ?_;rw[HW3.out,HS2.out]))
 simp only[Act.put,zA,zF,zE]
 go_loopw [15] (fun _ wr=>∃seen pd,DirtyAt w w.heap.size r clock es (dirtyF V) seen pd wr) (fun _ wr=>wr.rangeLeft r (w.heap.size+1+1))
 case atStart=>exact⟨_,_,at0⟩
 case round =>
  obtain⟨seen,pd,hD⟩:=hrel
  obtain⟨hit,hsn,⟨eo,co,hmo,heo,hso⟩,hbx,hup,hsz⟩:=hD
  have hmr:MapIs wr r es clock:=(hup.block r hrl).trans hm
  rcases iterV 0 hit hmr he hst hcl (zG _) (by omega) hsz hsn with⟨hall,hrun⟩|⟨k,x,b,w4,hk,hpk,hrun,hit4,hB4,hdec,hent,hsn4⟩
  ·have hcm:come pd (dirtyF V)=dirtyF V:=come_all fun k x hx=>by
    unfold dirtyF at hx
    cases hv:V k with
    | none=>rw[hv] at hx;cases hx
    | some v=>exact hall k _ (ptrV_some hv)
   rw[hcm] at heo
   clear hcm
   go_wp2_with (refine wp_exec rfl (x_next hrun rfl) ?_)
   go_ret
   exact⟨_,_,eo,co,rfl,hbx,hmo,heo,hso,hup,zG _,by omega⟩
  ·obtain⟨v,hv,rfl⟩:=ptrV_ptr hk
   have hup4:Below w.heap.size w w4:=hup.trans (hB4.mono (by omega))
   have h4:=h.below hup4
   have hr4:=h4.rows k v hv
   have hmo4:=hmo.below hB4 (by omega)
   have hbx4:=hbx.below hB4 (by omega)
   have hsz4:w.heap.size+1+1<w4.heap.size:=zO hsz hB4.size
   have k2:w4.cell? ⟨v.b,2,none⟩=some (.bool v.d):=(hr4.blk.cell _).trans rfl
   cases hd:v.d with
   | false =>
    rw[hd] at k2
    have hcm:=come_none (pd:=pd) (dirtyF_none hv hd)
    have at4:DirtyAt w w.heap.size r clock es (dirtyF V) (seen.push b) (pdPush pd k) w4:=⟨hit4,hsn4,⟨eo,co,hmo4,by rw[hcm];exact heo,hso⟩,hbx4,hup4,hsz4⟩
    clear hcm hd
    go_wp2_with (first
     | (refine wp_exec rfl (x_next hrun rfl) ?_)
     | (refine wp_exec rfl (x_entry hent rfl) ?_))
    exact⟨⟨_,_,at4⟩,hdec⟩
   | true =>
    rw[hd] at k2
    have hdf:=dirtyF_some hv hd
    have hcm:=come_some (pd:=pd) hdf
    have k1:w4.cell? ⟨v.b,1,none⟩=some (.slice v.A v.y.length v.c):=(hr4.blk.cell _).trans rfl
    have kb:w4.cell? ⟨w.heap.size+1,0,none⟩=some (.map (some w.heap.size)):=hbx4.boxed
    have hS0:w4.drew.cell? ⟨v.b,1,none⟩=some (.slice v.A v.y.length v.c)/\w4.drew.cell? ⟨w.heap.size+1,0,none⟩=some (.map (some w.heap.size)):=⟨k1,kb⟩
    have hB5:Below w4.heap.size w4 w4.drew:=(Below.refl _ _).drew
    have hmo5:=hmo4.below hB5 hmo4.lt
    have hbx5:=hbx4.below hB5 hbx4.lt
    have hup5:Below w.heap.size w w4.drew:=hup4.trans (hB5.mono hup4.size)
    have hit5:IterAt w4.drew (w.heap.size+1+1) r clock (seen.push b):=hit4
    have hd5:w4.drew.rangeLeft r (w.heap.size+1+1)<wr.rangeLeft r (w.heap.size+1+1):=hdec
    have hs5:w.heap.size+1+1<w4.drew.heap.size:=hsz4
    have HCM:=Lib.hid hcm
    clear hd hcm hdf k1 kb
    go_wp2_with (first
     | (refine wp_exec rfl (x_next hrun rfl) ?_)
     | (refine wp_exec rfl (x_entry hent rfl) ?_))
    refine RegF.start (fun W:World=>W.cell? ⟨v.b,1,none⟩=some (.slice v.A v.y.length v.c)/\W.cell? ⟨w.heap.size+1,0,none⟩=some (.map (some w.heap.size))) 6 (by kernel_rfl) ?_
    refine RegF.t 0 (.map (some w.heap.size)) rfl hS0 (fun W ⟨e0,e1⟩=>by go_simp) ?_
    simp only[zD,zB,Act.put,zA,zF,zE]
    refine RegF.t 1 (.int .i64 k) rfl hS0 (fun W ⟨e0,e1⟩=>by go_simp) ?_
    simp only[zD,zC,zB,Act.put,zA,zF,zE]
    refine RegF.t 2 (.pointer (some ⟨v.b,0,none⟩)) rfl hS0 (fun W ⟨e0,e1⟩=>by go_simp) ?_
    simp only[zD,zC,zB,Act.put,zA,zF,zE]
    refine RegF.t 3 (.pointer (some ⟨v.b,0,none⟩)) rfl hS0 (fun W ⟨e0,e1⟩=>by go_simp) ?_
    simp only[zD,zC,zB,Act.put,zA,zF,zE]
    refine RegF.t 4 (.pointer (some ⟨v.b,1,none⟩)) rfl hS0 (fun W ⟨e0,e1⟩=>by go_simp) ?_
    simp only[zD,zC,zB,Act.put,zA,zF,zE]
    refine RegF.t 5 (.slice v.A v.y.length v.c) rfl hS0 (fun W ⟨e0,e1⟩=>by go_simp) ?_
    simp only[zD,zC,zB,Act.put,zA,zF,zE]
    refine RegF.one 6 (by kernel_rfl) ?_
    refine opPutB rfl rfl rfl rfl rfl rfl heo hso hmo5 ?_
    intro eo' co' heo' hso'
    refine⟨fun h=>absurd rfl h,RegF.done (by kernel_rfl) ?_⟩
    simp only[zD,zC,zB,Act.put]
    replace heo':EnV eo' (fsetV (come pd (dirtyF V)) k (some (.slice v.A v.y.length v.c))):=heo'
    rw[<-HCM.out] at heo'
    have hg6:=setMap_grown hmo5 eo' co'
    have hm6:=hmo5.set eo' co'
    have hB6:Below w.heap.size w4.drew (setMap w4.drew w.heap.size eo' co'):=grown_below hg6 (by omega) (fun r e=>by injection e with e;omega)
    generalize setMap w4.drew w.heap.size eo' co'=w6 at *
    have e1:=hg6.block (w.heap.size+1+1) hs5 (fun e=>by injection e with e;omega)
    have e2:=hg6.block r (Nat.lt_trans hrl (by omega)) (fun e=>by injection e with e;omega)
    have at6:DirtyAt w w.heap.size r clock es (dirtyF V) (seen.push b) (pdPush pd k) w6:=⟨hit5.keep e1,hsn4,⟨eo',co',hm6,heo',hso'⟩,hbx5.grown hg6 (fun e=>by injection e with e;omega),hup5.trans hB6,zO hs5 hg6.size⟩
    have hd6:w6.rangeLeft r (w.heap.size+1+1)<wr.rangeLeft r (w.heap.size+1+1):=by rw[rangeLeft_keep e2 e1];exact hd5
    clear hg6 hm6 hB6 e1 e2 hS0 hB5 hmo5 hbx5 hup5 hit5 hd5 hs5
    go_wp2
    exact⟨⟨_,_,at6⟩,hd6⟩
end Go.Proofs.YtnlimngkagmjpaaGreat
namespace Go.Proofs.YtnlimngkagmjpaaGreat
open Go Go.RowKit Lou Go.Maps Go.Shelf Go.Sort
theorem collectB_gives (w:World)(b r many clock:Nat)(es:Array MapEntry)(f:Int->Option Value)(hb:BlkIs w b 87 #[.map (some r)])(hmi:MapIs w r es clock)(he:EnV es f)(hst:MapKept.Stamped es clock)(hlt:KeysB f many)(hm:many<=40000) :
  Calls Tryz.prog 130 #[.func (.func 132) #[] #[.pointer (some ⟨b,0,none⟩)]] w fun e w'=>∃v,∃ss:List Int,e = .returned v/\ss.Perm ((keysV f many).map fun k:Nat=>(k:Int))/\w'.ownsRow w.heap.size 3 1 v ss.length (ss.map encZ)/\(v = .slice none 0 0↔ss=[])/\Below w.heap.size w w':=by
 obtain⟨D0,hown,hsz,hperm⟩:=own_mapV hmi he hst hlt hm
 have hmax:Maps.size D0<=maxLen:=zP hsz (zP hm (by decide))
 have hbytes:Maps.size D0*8<=140737488355328:=by omega
 refine(callsIn_wide (n:=6)).1 ?_
 have hseq:SeqGives Fence.wide 4 Tryz.prog 132 #[.pointer (some ⟨b,0,none⟩)] encZ (fun ss=>ss.Perm (intKeys D0)) (Maps.size D0) w :=
  AnyZI.keys_gives (ρ:=layK_ren) { layK with } Fence.wide _ trivial rfl (by omega) b r many D0 _ hb.lt hb.boxed hown
 refine(AnyZI.collect_in layC Fence.wide 6 trivial trivial rfl (by omega) 132 #[.pointer (some ⟨b,0,none⟩)] trivial (enters_of Tryz.func132 (by kernel_rfl) rfl) _ _ hmax hbytes w hseq).mono ?_
 rintro e w' ⟨v,ss,rfl,hS,hrow,hnil,hB⟩
 exact⟨v,ss,rfl,hS.trans hperm,hrow,hnil,hB⟩
theorem keysB_gives (mb:Option Nat)(w:World):Calls Tryz.prog 86 #[.map mb] w fun e w'=>e = .returned (.func (.func 132) #[] #[.pointer (some ⟨w.heap.size,0,none⟩)])/\w'=w.alloc (.cells #[.map mb] 87) :=
 (callsIn_wide (n:=6)).1 (AnyZI.keys_in layK Fence.wide 6 trivial rfl mb w)
section
variable {ρ:Operand->Value}{w:World}{o:Oper}{x y:Operand}{r clock:Nat}{k:Int}{es:Array MapEntry}{f:Int->Option Value}{v:Value}
theorem lookB (he:EnV es f)(hm:MapIs w r es clock)(hk:f k=some v)(ho:o.op = .lookup 87 x y false)(h1:ρ x = .map (some r))(h2:ρ y = .int .i64 k):(execOp ρ o).run Tryz.prog w = .ok (.value v) w :=
 x_lookupT (z0:=(.slice none 0 0)) Tryz.underlying87 (by simp[go_sem]) he hm (by simp[hk]) ho h1 h2
end
theorem notB_gives (W:World)(s1 s2 r clock:Nat)(es:Array MapEntry)(f:Int->Option Value)(sg:Nat)(sl:Array Value)(esg:∀args w,(callFunc sg args).run Tryz.prog w = .ok (.enter sg args) w)(h1:BlkIs W s1 172 #[.func (.func sg) #[] sl])(h2:BlkIs W s2 87 #[.map (some r)])(hmi:MapIs W r es clock)(he:EnV es f)(k:Int)(v:Value)(hk:f k=some v)(b:Bool)(hs:Calls Tryz.prog sg (#[v] ++ sl) W fun e w'=>e = .returned (.bool b)/\W=w') :
  Calls Tryz.prog 156 #[.int .i64 k,.pointer (some ⟨s1,0,none⟩),.pointer (some ⟨s2,0,none⟩)] W fun e w'=>e = .returned (.bool (!b))/\W=w':=by
 have c1:=h1.boxed
 have c2:=h2.boxed
 go_enter Tryz.func156,Tryz.ntmps156
 go_wp2_with (first
  | (refine wp_exec rfl (lookB he hmi hk rfl rfl rfl) ?_)
  | (refine hs.mono ?_;rintro e w' ⟨rfl,rfl⟩))
 go_ret
 exact⟨rfl,rfl⟩
theorem sortedB_gives (w:World)(r many clock:Nat)(es:Array MapEntry)(f:Int->Option Value)(hmi:MapIs w r es clock)(he:EnV es f)(hst:MapKept.Stamped es clock)(hlt:KeysB f many)(hm:many<=40000)
  (sg:Nat) (sl:Array Value) (esg:∀args w,(callFunc sg args).run Tryz.prog w = .ok (.enter sg args) w) (p:Int->Bool) (hsuch:∀W,Below w.heap.size w W->∀k v,f k=some v->Calls Tryz.prog sg (#[v] ++ sl) W fun e w'=>e = .returned (.bool (p k))/\W=w')
  (bg:Nat) (bl:Array Value) (ebg:∀args w,(callFunc bg args).run Tryz.prog w = .ok (.enter bg args) w) (cf:Int->Int->Int) (hO:SWO (ltOf cf)) (hby:∀W,Below w.heap.size w W->∀x y,(f x).isSome=true->(f y).isSome=true->p x=true->p y=true->Calls Tryz.prog bg (#[.int .i64 x,.int .i64 y] ++ bl) W fun e w'=>e = .returned (.int .i64 (cf x y))/\∃q os,w'=grow (W.drewN q) os) :
  Calls Tryz.prog 113 #[.map (some r),.func (.func sg) #[] sl,.func (.func bg) #[] bl] w fun e w'=>∃(A:Option Addr) (c:Nat) (ks:List Int),e = .returned (.slice A ks.length c)/\KeysSo f p cf ks/\RowInts w w' A ks/\Below w.heap.size w w':=by
 have hB0:Below w.heap.size w ((w.alloc (.cells #[.map (some r)] 87)).alloc (.cells #[.func (.func sg) #[] sl] 172)):=((Below.refl _ w).alloc (zG _) _).alloc (by simp) _
 have b0:BlkIs ((w.alloc (.cells #[.map (some r)] 87)).alloc (.cells #[.func (.func sg) #[] sl] 172)) w.heap.size 87 #[.map (some r)]:=(BlkIs.new w _ _).alloc _
 have b1:BlkIs ((w.alloc (.cells #[.map (some r)] 87)).alloc (.cells #[.func (.func sg) #[] sl] 172)) (w.heap.size+1) 172 #[.func (.func sg) #[] sl]:=by
  have:=BlkIs.new (w.alloc (.cells #[.map (some r)] 87)) 172 #[.func (.func sg) #[] sl]
  rwa [World.size_alloc] at this
 have c0:=b0.boxed
 have hKEY:=keysB_gives (some r)
 obtain⟨W0,hW0⟩:∃W0,W0=(w.alloc (.cells #[.map (some r)] 87)).alloc (.cells #[.func (.func sg) #[] sl] 172):=⟨_,rfl⟩
 have hs0:W0.heap.size=w.heap.size+2:=by rw[hW0];simp
 rw[<-hW0] at hB0 b0 b1 c0
 have hBA:Below W0.heap.size W0 (W0.alloc (.cells #[.map (some r)] 87)):=(Below.refl _ _).alloc (zG _) _
 have bA:BlkIs (W0.alloc (.cells #[.map (some r)] 87)) W0.heap.size 87 #[.map (some r)]:=BlkIs.new _ _ _
 have hml:=hmi.lt
 have HC:=collectB_gives _ _ r many clock es f bA ((hmi.below hB0 hml).below hBA (by omega)) he hst hlt hm
 rw[hW0] at HC
 simp only[World.size_alloc] at HC
 clear bA
 have hND:=@deleteNone_gives
 have hSN:=fun W fv=>AnyF.slices_SortFunc_none (P:=Tryz.prog) (ρ:=layF_ren) { layF with } none 0 fv W
 change ∀W fv,Calls Tryz.prog 154 _ _ _ at hSN
 go_enter Tryz.func113,Tryz.ntmps113
 go_wp2_with (first
  | (go_at_call 86;refine(hKEY _).mono ?_;rintro e w1 ⟨rfl,rfl⟩)
  | (go_at_call 130;refine HC.mono ?_;rintro e w2 ⟨v,ss,rfl,hperm,hrow,hnil,hB2⟩))
 have hmem:∀k,k∈ss↔(f k).isSome=true:=fun k=>by
  rw[hperm.mem_iff,List.mem_map]
  constructor
  ·rintro⟨a,ha,rfl⟩
   exact(keysV_mem.1 ha).2
  ·intro h
   obtain⟨v,hv⟩:=Option.isSome_iff_exists.1 h
   obtain⟨h3,h4⟩:=hlt k v hv
   have e:(k.toNat:Int)=k:=by omega
   exact⟨k.toNat,keysV_mem.2 ⟨by omega,by rw[e];exact h⟩,e⟩
 have hnd:ss.Nodup:=hperm.nodup_iff.2 (List.pairwise_map.2 ((keysV_lt f many).imp fun h e=>by omega))
 have hlen:ss.length<=many:=by
  have h1:=hperm.length_eq
  rw[qD] at h1
  have:=keysV_len f many
  omega
 have hB2':Below w.heap.size w w2:=by
  have h1:Below w.heap.size (W0.alloc (.cells #[.map (some r)] 87)) w2:=by rw[hW0];exact hB2.mono (by omega)
  exact(hB0.trans (hBA.mono (by omega))).trans h1
 by_cases hss:ss=[]
 ·rw[hnil.2 hss]
  go_wp2_with (first
   | (go_at_call 152;refine(hND _ _ _).mono ?_;rintro e w3 ⟨rfl,rfl⟩)
   | (go_at_call 154;refine(hSN _ _).mono ?_;rintro e w3 ⟨rfl,rfl⟩))
  go_ret
  refine⟨none,0,[],rfl,⟨List.nodup_nil,fun k=>⟨fun h=>absurd h (by simp),fun h => ?_⟩,List.Pairwise.nil⟩,fun j h=>absurd h (by simp),hB2'⟩
  have:=(hmem k).2 h.1
  rw[hss] at this
  exact absurd this (by simp)
 ·obtain⟨gb,cap,cur,rfl,hbase,hgb,r1,r2,r3,r4⟩:∃gb cap cur,v = .slice (some ⟨gb,0,none⟩) ss.length cap/\w.heap.size+2<gb/\BlkIs w2 gb 3 cur/\ss.length<=cap/\cap<=maxLen/\cur.size=cap*1/\cur.toList.take (ss.length*1)=ss.map encZ:=by
   rcases hrow.2 with⟨rfl,hz⟩|⟨gb,cap,cur,rfl,hbase,hgb,r1,r2,r3,r4⟩
   ·exact absurd (hnil.1 rfl) hss
   ·exact⟨gb,cap,cur,rfl,by omega,hgb,r1,r2,r3,r4⟩
  have hcells:∀j (h:j<ss.length),cur[j]? = some (.int .i64 ss[j]):=fun j hj=>by
   rw[Nat.mul_one] at r4
   have h1:(cur.toList.take ss.length)[j]? = (ss.map encZ)[j]?:=by rw[r4]
   rw[List.getElem?_take_of_lt hj,List.getElem?_map,zI hj,qE] at h1
   exact h1
  have q0:BlkIs w2 w.heap.size 87 #[.map (some r)]:=by
   have h0:=(b0.below hBA (by omega))
   rw[hW0] at h0
   exact h0.below hB2 (by omega)
  have q1:BlkIs w2 (w.heap.size+1) 172 #[.func (.func sg) #[] sl]:=by
   have h0:=(b1.below hBA (by omega))
   rw[hW0] at h0
   exact h0.below hB2 (by omega)
  have hm2:MapIs w2 r es clock:=hmi.below hB2' hml
  have HD:=delete_gives w2 156 #[.pointer (some ⟨w.heap.size+1,0,none⟩),.pointer (some ⟨w.heap.size,0,none⟩)] (enters_of Tryz.func156 (by kernel_rfl) rfl) (fun k => !p k) gb cap ss cur hgb hcells r1 (by omega) (fun W hG k hk=>by
   obtain⟨v,hv⟩:=Option.isSome_iff_exists.1 ((hmem k).1 hk)
   have n0:¬ w.heap.size=gb:=by omega
   have n1:¬ w.heap.size+1=gb:=by omega
   have n2:¬ r=gb:=by omega
   exact notB_gives W (w.heap.size+1) w.heap.size r clock es f sg sl esg (hG.blk q1 n1) (hG.blk q0 n0) ((hG.block r hm2.lt n2).trans hm2) he k v hv (p k) (hsuch W (hB2'.trans (hG.toBelow hB2'.size (fun k e=>by omega))) k v hv))
  have ef:(ss.filter fun k => !(!p k))=ss.filter p:=by congr 1;funext k;simp
  rw[ef] at HD
  have hfl:(ss.filter p).length<=ss.length:=List.length_filter_le _ _
  go_wp2_with (go_at_call 152;refine HD.mono ?_;rintro e w3 ⟨cs3,rfl,hb3,hc3,hG3⟩)
  have hB3:Below w.heap.size w w3:=hB2'.trans (hG3.toBelow hB2'.size (fun k e=>by omega))
  have HS:=sortF_gives w3 gb cap (ss.filter p) cs3 hb3 hc3 (by omega) cf hO bg bl ebg (fun W hG x hx y hy=>by
   obtain⟨hx1,hx2⟩:=List.mem_filter.1 hx
   obtain⟨hy1,hy2⟩:=List.mem_filter.1 hy
   exact hby W (hB3.trans (hG.toBelow hB3.size (fun k e=>by omega))) x y ((hmem x).1 hx1) ((hmem y).1 hy1) hx2 hy2)
  go_wp2_with (go_at_call 154;refine HS.mono ?_;rintro e w4 ⟨rfl,ks,cs4,hp4,ho4,hb4,hc4,hG4⟩)
  go_ret
  refine⟨some ⟨gb,0,none⟩,cap,ks,by rw[hp4.length_eq];rfl,⟨hp4.nodup_iff.2 (hnd.filter _),fun k=>by rw[hp4.mem_iff,List.mem_filter,hmem],ho4.imp fun h=>by omega⟩,fun j hj=>⟨gb,rfl,by omega,by rw[hb4.cell];exact hc4 j hj⟩,hB3.trans (hG4.toBelow hB3.size (fun k e=>by omega))⟩
end Go.Proofs.YtnlimngkagmjpaaGreat
namespace Go.Proofs.YtnlimngkagmjpaaGreat
open Go Go.RowKit Lou Go.Shelf Go.Sort
attribute [local go_sem] Oper.semAt_some
theorem swoZ:SWO (ltOf cmpZ):=by
 have e:∀x y,ltOf cmpZ x y=decide (x<y):=fun x y=>by unfold ltOf;simp only[cmpZ_lt]
 refine⟨fun x => ?_,fun x y z h1 h2 => ?_,fun x y z h1 h2 => ?_⟩<;>simp only[e,decide_eq_true_eq,decide_eq_false_iff_not] at *<;>omega
theorem keysSo_all {f:Int->Option Value}{many:Nat}{ks:List Int}(h:KeysSo f (fun _=>true) cmpZ ks)(hlt:KeysB f many):ks=(keysV f many).map fun k:Nat=>(k:Int):=by
 obtain⟨h1,h2,h3⟩:=h
 have hp:ks.Perm ((keysV f many).map fun k:Nat=>(k:Int)):=by
  refine(List.perm_ext_iff_of_nodup h1 (List.pairwise_map.2 ((keysV_lt f many).imp fun h e=>by omega))).2 fun k => ?_
  rw[h2,List.mem_map]
  constructor
  ·rintro⟨h,_⟩
   obtain⟨v,hv⟩:=Option.isSome_iff_exists.1 h
   obtain⟨h4,h5⟩:=hlt k v hv
   have e:(k.toNat:Int)=k:=by omega
   exact⟨k.toNat,keysV_mem.2 ⟨by omega,by rw[e];exact h⟩,e⟩
  ·rintro⟨a,ha,rfl⟩
   exact⟨(keysV_mem.1 ha).2,rfl⟩
 have e1:=(mergeSort_of_perm_i hp).trans (keysV_sort f many)
 have e2:ks.mergeSort (fun x y=>decide (x<=y))=ks:=List.mergeSort_of_pairwise (h3.imp fun h=>by
  rw[cmpZ_lt] at h
  simp
  omega)
 rw[e2] at e1
 exact e1
theorem yes_gives (W:World)(v:Value):Calls Tryz.prog 114 #[v] W fun e w'=>e = .returned (.bool true)/\W=w':=by
 go_enter Tryz.func114,Tryz.ntmps114
 go_wp2
 go_ret
 exact⟨rfl,rfl⟩
theorem byInt_gives (W:World)(x y:Int):Calls Tryz.prog 115 #[.int .i64 x,.int .i64 y] W fun e w'=>e = .returned (.int .i64 (cmpZ x y))/\∃q os,w'=grow (W.drewN q) os:=by
 go_enter Tryz.func115,Tryz.ntmps115
 go_wp2_with (go_at_call 110;refine(cmpInt_gives _ _ _).mono ?_;rintro e w' ⟨rfl,rfl⟩)
 go_ret
 exact⟨rfl,0,#[],by rw[grow_empty];rfl⟩
theorem sortedBK_gives (w:World)(r many clock:Nat)(es:Array MapEntry)(f:Int->Option Value)(hmi:MapIs w r es clock)(he:EnV es f)(hst:MapKept.Stamped es clock)(hlt:KeysB f many)(hm:many<=40000) :
  Calls Tryz.prog 113 #[.map (some r),.func (.func 114) #[] #[],.func (.func 115) #[] #[]] w fun e w'=>∃(A:Option Addr) (c:Nat),e = .returned (.slice A (keysV f many).length c)/\Below w.heap.size w w' /\
   ∀(j:Nat) (hj:j<(keysV f many).length),∃gb,A=some ⟨gb,0,none⟩/\w.heap.size<=gb/\w'.cell? ⟨gb,j,none⟩=some (.int .i64 (((keysV f many)[j]:Nat):Int)):=by
 refine(sortedB_gives w r many clock es f hmi he hst hlt hm 114 #[] (enters_of Tryz.func114 (by kernel_rfl) rfl) (fun _=>true) (fun W _ k v _=>yes_gives W v) 115 #[] (enters_of Tryz.func115 (by kernel_rfl) rfl) cmpZ swoZ (fun W _ x y _ _ _ _=>byInt_gives W x y)).mono ?_
 rintro e w' ⟨A,c,ks,rfl,hso,hri,hB⟩
 obtain rfl:=keysSo_all hso hlt
 refine⟨A,c,by rw[qD],hB,fun j hj => ?_⟩
 obtain⟨g,h1,h2,h3⟩:=hri j (by rw[qD];exact hj)
 exact⟨g,h1,h2,by rw[h3,List.getElem_map]⟩
theorem TyB.ownFrom {B:Nat}(A:Option Addr):OwnFrom B (fun (_:Unit) W=>TyB W A):=fun _ X Y row hs hg hr g o e=>by
 obtain⟨cs,hb⟩:=hs g o e
 refine⟨cs,(hg.block g hb.lt fun e => ?_).trans hb⟩
 obtain⟨_,ob,h1,h2⟩:=hr g e.symm
 have h3:X.heap[g]? = some (.cells cs 5 (0,0)):=hb
 rw[h1] at h3
 injection h3 with h3
 rw[h3] at h2
 cases h2
def DrRd (K:List Nat)(Y:Int->Option (List UInt8))(pre:List (Nat×(Option Addr×Nat)))(x:Nat×(Option Addr×Nat))(W:World):Prop :=
 K[pre.length]? = some x.1/\pre.map (·.1)=K.take pre.length/\∃y,Y (x.1:Int)=some y/\y.length=512/\InB W W.heap.size x.2.1 x.2.2 y/\TyB W x.2.1
theorem KeepU.step {U0 U:Nat->Prop}{W1 W2 W3:World}(h:KeepU U0 W1 W2)(hL:LaterU W1.heap.size U0 U)(k:KeepU U W2 W3):KeepU U0 W1 W3 :=
 ⟨zP h.1 k.1,fun i o hi hn=>k.2 i o (h.2 i o hi hn) fun e=>(hL i e).elim hn (fun h=>by have:=(zH.1 hi).1;omega)⟩
def SmU (W:World)(k:Nat):Prop:=(∃em cm,W.heap[k]? = some (.map em cm))∨∃T cs,BlkIs W k T cs/\cs.size<=64
theorem SmU.below {W W':World}{k:Nat}(h:SmU W k)(hB:Below W.heap.size W W'):SmU W' k:=by
 rcases h with⟨em,cm,h⟩|⟨T,cs,h,hs⟩
 ·exact .inl ⟨em,cm,(hB.block k (zH.1 h).1).trans h⟩
 ·exact .inr ⟨T,cs,h.below hB h.lt,hs⟩
theorem SmU.notB {W:World}{n c:Nat}{A:Option Addr}{y:List UInt8}(h:InB W n A c y)(hl:64<y.length){g o:Nat}(e:A=some ⟨g,o,none⟩):¬ SmU W g:=fun hs=>by
 obtain⟨g',o',e',_,hc⟩:=h.lies (by omega)
 rw[e] at e'
 injection e' with e'
 injection e' with e1 e2
 subst e1 e2
 have h64:=hc 64 hl
 rcases hs with⟨em,cm,hm⟩|⟨T,cs,hb,hsz⟩
 ·simp[World.cell?,hm] at h64
 ·rw[hb.cell,Array.getElem?_eq_none (by omega)] at h64
  cases h64
theorem dirty1_in (n:Nat)(hn:6<=n)(l q r many clock:Nat)(es:Array MapEntry)(f:Int->Option Value)(Y:Int->Option (List UInt8))(J Jx:List (Nat×(Option Addr×Nat))->(Nat->Prop)->World->Prop)(U0:Nat->Prop)(W:World)(hMq:¬ U0 q)(hMr:¬ U0 r)(hMb:∀k,U0 k->SmU W k)(hJA:StB J)(hJl:∀s U X,J s U X->∀k,U k->k<X.heap.size)
  (hY:∀pre x U W1,J pre U W1->DrRd (keysV f many) Y pre x W1->YieldAt Fence.wide (n - 1) Tryz.prog l (pgEnc x) W1 fun e W' =>
   (e = .returned (.bool true)/\∃U',LaterU W1.heap.size U U'/\J (pre++[x]) U' W'/\KeepU U W1 W')∨(e = .returned (.bool false)/\∃U',Jx (pre++[x]) U' W'))
  (hq:BlkIs W q 87 #[.map (some r)]) (hm:MapIs W r es clock) (he:EnV es f) (hst:MapKept.Stamped es clock) (hP:PgIs W f Y) (hlt:KeysB f many) (hmany:many<=40000) (h0:J [] U0 W) :
  CallsIn Fence.wide n Tryz.prog 112 #[.func (.yield l) #[] #[],.pointer (some ⟨q,0,none⟩)] W fun e W'=>(∃v,e = .returned v) /\
   ((∃ys U',ys.map (·.1)=keysV f many/\J ys U' W')∨(∃pre U',pre.length<=(keysV f many).length/\Jx pre U' W')):=by
 have h1:1<=n:=by omega
 have hcB:=hq.boxed
 have HS:=sortedBK_gives W r many clock es f hm he hst hlt hmany
 have hKm:∀k∈keysV f many,(f (k:Int)).isSome=true:=fun k hk=>(keysV_mem.1 hk).2
 have hU0:=hJl _ _ _ h0
 obtain⟨K,hK⟩:∃K,K=keysV f many:=⟨_,rfl⟩
 have hKl:K.length<=40000:=by rw[hK];exact zP (keysV_len f many) hmany
 rw[<-hK] at HS hKm
 rw[<-hK] at hY ⊢
 clear hK hlt hst
 refine callsIn_of_wp Tryz.func112 rfl trivial ?_ rfl
 simp only[Tryz.ntmps112,zS,zN,qB,qH,qI,zU,zV,zZ,zX,zQ,zW]
 gi_wp2
 refine wpIn_scope_wide ?_
 gi_wp2
 refine wpIn_label ?_
 gi_wp2_with (refine⟨trivial,?_⟩;gi_at_call 113;refine(callsIn_wide.2 HS).mono ?_;rintro e W1 ⟨A,c,rfl,hB1,hcell⟩)
 have hJ1:J [] U0 W1:=hJA _ _ _ _ h0 hB1
 have q1:=hq.below hB1 hq.lt
 have m1:=hm.below hB1 hm.lt
 have hP1:=hP.grow hB1
 have hMb1:∀k,U0 k->SmU W1 k:=fun k hk=>(hMb k hk).below hB1
 have hgn:∀gb,W.heap.size<=gb->¬ U0 gb:=fun gb hgb e=>by have:=hU0 gb e;omega
 clear HS hcB hB1 hq hm hP hMb hU0 h0
 gi_loopw [8] (fun i wr=>∃(pre:List (Nat×(Option Addr×Nat))) (U:Nat->Prop),i = .int .i64 (pre.length:Int)/\pre.length<=K.length/\pre.map (·.1)=K.take pre.length/\J pre U wr/\LaterU W1.heap.size U0 U/\KeepU U0 W1 wr)
  (fun i _=>K.length - (intOf i).toNat)
 case atStart=>exact⟨[],U0,rfl,Nat.zero_le _,rfl,hJ1,LaterU.refl _ _,KeepU.refl _ _⟩
 case round =>
  obtain⟨pre,U,rfl,hpl,hpm,hJs,hLU,hko⟩:=hrel
  by_cases hlt:pre.length<K.length
  ·obtain⟨gb,rfl,hgb,hgc⟩:=hcell pre.length hlt
   have hgc2:=hko.cell (p:=⟨gb,pre.length,none⟩) hgc (hgn gb hgb)
   have hcBr:=(hko.blk q1 hMq).boxed
   have hmr:MapIs wr r es clock:=hko.2 _ _ m1 hMr
   have hk0:K[pre.length]? = some K[pre.length]:=zI hlt
   have hkS:=hKm K[pre.length] (qJ hlt)
   obtain⟨k,hk⟩:∃k,k=K[pre.length]:=⟨_,rfl⟩
   rw[<-hk] at hgc2 hk0 hkS
   rcases hP1 (k:Int) with⟨h2,_⟩|⟨A0,c0,y,h2,h3,h4,h5⟩
   ·rw[h2] at hkS
    cases hkS
   ·have h5r:InB wr wr.heap.size A0 c0 y:=by
     refine⟨h5.le,h5.max,h5.nil,fun h0 => ?_⟩
     obtain⟨g,o,e,hg,hc⟩:=h5.lies h0
     have hMg:¬ U0 g:=fun hmu=>SmU.notB h5 (by omega) e (hMb1 g hmu)
     exact⟨g,o,e,zO hg hko.1,fun j hj=>hko.cell (hc j hj) hMg⟩
    have hC:=cloneP_gives wr A0 c0 y h5r (by omega)
    rw[h4] at hC
    have hpm':∀z,(pre++[(k,z)]).map (·.1)=K.take (pre++[(k,z)]).length:=fun z=>by
     rw[List.map_append,hpm,zY,List.length_singleton,List.take_add_one,hk0]
     rfl
    have hwk:IntKind.i64.wrap ((pre.length:Int)+1)=(pre.length:Int)+1:=wrap_i64_id' _ (by omega) (by omega)
    have H2:=Lib.hid h2
    have H3:=Lib.hid h3
    have H4:=Lib.hid h4
    have HPM:=Lib.hid hpm
    have HPM':=Lib.hid hpm'
    have HK:=Lib.hid hk
    have HK0:=Lib.hid hk0
    clear h2 h3 h4 hpm hpm' hk hk0 hcell hKm hP1 h5
    gi_wp2_with (first
     | (refine wpV_exec rfl (x_lookupFY he hmr H2.out rfl rfl rfl) ?_)
     | (refine⟨trivial,?_⟩;gi_at_call 67;refine(callsIn_wide.2 hC).mono ?_;rintro e W6 ⟨A6,c6,rfl,hin6,_,hty6,hB6⟩;obtain⟨fn,tmps,assign,body,hyy,hR⟩:=hY pre (k,(A6,c6)) U W6 (hJA _ _ _ _ hJs hB6) ⟨HK0.out,HPM.out,y,H3.out,H4.out,hin6,hty6⟩;unfold pgEnc at hyy;dsimp only at hyy))
    refine hR.mono ?_
    rintro e W4 (⟨rfl,U4,hL4,hJ4,hk4⟩|⟨rfl,U4,hJx4⟩)
    ·have s6:=hB6.size
     have k6:KeepU U wr W4:=(KeepU.grow U hB6).trans hk4
     have L4:LaterU W1.heap.size U0 U4:=hLU.trans hL4 (zP hko.1 s6)
     have k4:=hko.step hLU k6
     have hle4:(pre++[(k,(A6,c6))]).length<=K.length:=by simp;omega
     clear k6 hL4 hk4
     gi_wp2
     go_roundw
     case rel=>exact⟨_,U4,by simp,hle4,HPM'.out _,hJ4,L4,k4⟩
     case measure=>simp[intOf];omega
    ·have hle4:(pre++[(k,(A6,c6))]).length<=K.length:=by simp;omega
     gi_wp2
     simp only[Exit.noGoto]
     go_end0
     exact⟨⟨_,rfl⟩,.inr ⟨_,U4,hle4,hJx4⟩⟩
  ·have hpk:pre.map (·.1)=K:=by rw[hpm,qA (by omega)]
   have HPK:=Lib.hid hpk
   clear hpk hpm
   gi_wp2
   simp only[Exit.noGoto]
   go_end0
   exact⟨⟨_,rfl⟩,.inl ⟨pre,U,HPK.out,hJs⟩⟩
theorem dirty1_seq (n:Nat)(hn:6<=n)(q r many clock:Nat)(es:Array MapEntry)(f:Int->Option Value)(Y:Int->Option (List UInt8))(w:World)
  (hq:BlkIs w q 87 #[.map (some r)]) (hm:MapIs w r es clock) (he:EnV es f) (hst:MapKept.Stamped es clock) (hP:PgIs w f Y) (hlt:KeysB f many) (hmany:many<=40000) :
  SeqU Fence.wide n Tryz.prog 112 #[.pointer (some ⟨q,0,none⟩)] pgEnc (fun U=>¬ U q/\¬ U r/\∀k,U k->SmU w k) (DrRd (keysV f many) Y) (fun ys=>ys.map (·.1)=keysV f many) (fun pre=>pre.length<=(keysV f many).length) w:=fun l J Jx U0 W hW hU hJ hJl hY h0 =>
 dirty1_in n hn l q r many clock es f Y J Jx U0 W hU.1 hU.2.1 (fun k hk=>(hU.2.2 k hk).below hW) hJ hJl hY (hq.below hW hq.lt) (hm.below hW hm.lt) he hst (hP.grow hW) hlt hmany h0
end Go.Proofs.YtnlimngkagmjpaaGreat
namespace Go.Proofs.YtnlimngkagmjpaaGreat
open Go Go.RowKit Lou Go.Shelf
attribute [local go_sem] Oper.semAt_some
def cleanTo (pd:Int->Bool)(V:RowsV):RowsV:=fun k=>(V k).map fun v=>if pd k then { v with d:=false } else v
def cleanV (V:RowsV):RowsV:=fun k=>(V k).map fun v => { v with d:=false }
theorem cleanTo_start (V:RowsV):cleanTo (fun _=>false) V=V:=by
 funext k
 unfold cleanTo
 cases V k<;>rfl
theorem cleanTo_next {pd:Int->Bool}{V:RowsV}{k:Int}{v:RowV}(h:V k=some v):cleanTo (pdPush pd k) V=updV (cleanTo pd V) k (some { v with d:=false }):=by
 funext j
 unfold cleanTo updV
 by_cases e:j=k
 ·subst e
  rw[if_pos rfl,h,Option.map_some,pdPush_self,if_pos rfl]
 ·rw[if_neg e,pdPush_ne e]
theorem cleanTo_fin {pd:Int->Bool}{V:RowsV}(h:∀k x,ptrV V k=some x->pd k=true):cleanTo pd V=cleanV V:=by
 funext k
 unfold cleanTo cleanV
 cases hv:V k with
 | none=>rfl
 | some v=>rw[Option.map_some,Option.map_some,h k _ (ptrV_some hv),if_pos rfl]
theorem cleanTo_not {pd:Int->Bool}{V:RowsV}{k:Int}{v:RowV}(h:V k=some v)(hp:pd k=false):cleanTo pd V k=some v:=by unfold cleanTo;rw[h,Option.map_some,hp];rfl
theorem caMu_clean {a r:Nat}{V:RowsV}:∀k,caMu a r (cleanV V) k->caMu a r V k:=fun k hk=>by
 rcases hk with hk|hk|⟨j,u,hu,rfl⟩
 ·exact .inl hk
 ·exact .inr (.inl hk)
 ·unfold cleanV at hu
  cases hv:V j with
  | none=>rw[hv] at hu;cases hu
  | some v =>
   rw[hv,Option.map_some] at hu
   injection hu with hu
   subst hu
   exact .inr (.inr ⟨j,v,hv,rfl⟩)
structure CleanAt (W9:World)(h r clock:Nat)(es:Array MapEntry)(a f P:Nat)(room now hh mm:Int)(V:RowsV)(seen:Array Nat)(pd:Int->Bool)(W:World):Prop where
 it:IterAt W h r clock seen
 sn:SeenIs es seen pd
 ca:CaIs W a f r P room now hh mm (cleanTo pd V)
 mp:MapIs W r es clock
 gb:GrowBut (caMu a r V) W9 W
 sz:h<W.heap.size
theorem CleanAt.next {W9 w:World}{h r clock:Nat}{es:Array MapEntry}{a f P:Nat}{room now hh mm:Int}{V:RowsV}{seen:Array Nat}{pd:Int->Bool}(hc:CleanAt W9 h r clock es a f P room now hh mm V seen pd w){w4:World}{b:Nat}{k:Int}{v:RowV}(hv:V k=some v)(hp:pd k=false)(hvb:v.b<h)(hrh:r<h)
  (hit:IterAt w4 h r clock (seen.push b)) (hB:Below h w w4) (hB2:Below w.heap.size w w4∨True) (hsn:SeenIs es (seen.push b) (pdPush pd k)) (hca:CaIs w4 a f r P room now hh mm (cleanTo pd V)) (hgb:GrowBut (caMu a r V) W9 w4) :
  CleanAt W9 h r clock es a f P room now hh mm V (seen.push b) (pdPush pd k) (w4.setCell ⟨v.b,2,none⟩ (.bool false))/\(w4.setCell ⟨v.b,2,none⟩ (.bool false)).rangeLeft r h=w4.rangeLeft r h:=by
 have h0:=cleanTo_not hv hp
 obtain⟨h1,hG⟩:=hca.setRow (v1:={ v with d:=false }) h0 rfl 2 (.bool false) (by simp[rowC]) (.inl ⟨rfl,rfl,rfl⟩) (hca.rows k v h0).at0 (hca.hu h0 _ rfl)
 have hrb:=hca.rb h0
 have hl:r<w4.heap.size:=zO (zO hrh (Nat.le_of_lt hc.sz)) hB.size
 have hl2:h<w4.heap.size:=zO hc.sz hB.size
 have e1:=hG.block h hl2 (by omega)
 have e2:=hG.block r hl hrb
 refine⟨⟨hit.keep e1,hsn,by rw[cleanTo_next hv];exact h1,e2.trans ((hB.block r hrh).trans hc.mp),hgb.trans (hG.more (fun k' e _=>by rw[e];exact .inr (.inr ⟨k,v,hv,rfl⟩))),zO hl2 hG.size⟩,rangeLeft_keep e2 e1⟩
def pwO (x:Nat×(Option Addr×Nat)):Int×Option Addr×Nat:=((x.1:Int),x.2.1,x.2.2)
section
set_option maxRecDepth 100000
variable {F:Fence}{n:Nat}{w:World}{ops:Array Oper}{rest:List Oper}{o:Oper}{a:Act}{Q:Exit->Act->World->Prop}
theorem wpIn_appG2 (hg:o.guard=none){S T:TypeId}{sz by_:Nat}{z:Value}(hT:ElT S T sz by_ z)(s x:Operand)(ho:o.op = .call { callee:=.builtin .append,args:=#[s,x],argTypes:=#[S,S] })
  (base:Nat) (v:Value) (k:Nat) (cs:List Value) (hs:a.eval s=v) (hown:w.ownsRow base T sz v k cs) (B g c m:Nat) (cs2:List Value) (hx:a.eval x = .slice (some ⟨g,0,none⟩) m c) (hin:InG w B sz (some ⟨g,0,none⟩) m c cs2) (hm0:0<m)
  (hm:k+m<=maxLen) (hbytes:(k+m)*by_<=140737488355328) (hbase:base<=w.heap.size)
  (h:∀v' w',w'.ownsRow base T sz v' (k+m) (cs++cs2)->w.grownBy w' v.ownBlock->(v'.ownBlock=v.ownBlock∨v'.ownBlock=some w.heap.size)->wpListIn F n Tryz.prog ops Q rest (a.put o.dst v') w'):wpListIn F n Tryz.prog ops Q (o::rest) a w:=by
 obtain⟨i0,hi,hz0,hz1,hz2⟩:=info_parts hT.inf
 refine wpListIn_plain hg fun K hK' => ?_
 obtain⟨v',w',hrun,r1,r2,_,r4⟩:=run_append_own_at (P:=Tryz.prog) w base S o.type T i0 z sz by_ hT.und hi hz0 hz1 hz2 hT.zs hT.pos v k cs hown ⟨g,0,none⟩ m c cs2 hin.len (fun j u hu=>by
  obtain⟨g',o',e,_,hr⟩:=hin.lies hm0
  injection e with e
  injection e with e1 e2
  subst e1 e2
  rw[Addr.add_mid]
  exact hr j u hu) hin.one hm hbytes hbase
 unfold Oper.wpIn
 refine⟨?_,?_⟩
 ·simp[Oper.about,ho,resolve,Target.leads,Sem.run_pure]
 ·rw[Oper.semAt_plain F _ _ (by rw[ho];intro c hc';cases hc')]
  simp[execOp,ho,resolve,invoke,builtin,hs,hx,hrun,Result.andThen]
  exact hK' _ _ (h v' w' r1 r2 r4)
end
structure CmtAt (w:World)(B4:Nat)(Y:Int->Option (List UInt8))(pre:List (Nat×(Option Addr×Nat)))(U:Nat->Prop)(W:World):Prop where
 has:∃Aw cw,BlkIs W w.heap.size 127 #[.slice Aw pre.length cw]/\W.ownsRow B4 129 2 (.slice Aw pre.length cw) pre.length (pwsC (pre.map pwO))/\(∀k,U k↔k=w.heap.size∨(Value.slice Aw pre.length cw).ownBlock=some k)
 bys:∀x∈pre,∃y,Y (x.1:Int)=some y/\y.length=512/\InB W W.heap.size x.2.1 x.2.2 y/\TyB W x.2.1
 up:Below w.heap.size w W
 b4:w.heap.size<B4/\B4<=W.heap.size
theorem CmtAt.st (w:World)(B4:Nat)(Y:Int->Option (List UInt8)):StU B4 (fun pre U W=>CmtAt w B4 Y pre U W):=fun pre U X Z row ⟨⟨Aw,cw,h1,h2,h3⟩,h4,h5,h6⟩ hg hr=>by
 refine⟨⟨Aw,cw,h1.kept hg (fun r e=>(hr r e).2),ownG_kept h2 hg (fun r e=>(hr r e).2),h3⟩,fun x hx => ?_,h5.trans (grown_below hg h5.size (fun r e=>by have:=(hr r e).1;omega)),h6.1,zP h6.2 hg.size⟩
 obtain⟨y,y1,y2,y3,y4⟩:=h4 x hx
 exact⟨y,y1,y2,InB.ownFrom (B:=B4) _ _ _ () X Z row y3 hg hr,TyB.ownFrom (B:=B4) _ () X Z row y4 hg hr⟩
theorem CmtAt.lts {w:World}{B4:Nat}{Y:Int->Option (List UInt8)}{pre:List (Nat×(Option Addr×Nat))}{U:Nat->Prop}{W:World}(h:CmtAt w B4 Y pre U W):∀k,U k->k<W.heap.size:=fun k hk=>by
 obtain⟨Aw,cw,h1,h2,h3⟩:=h.has
 rcases(h3 k).1 hk with rfl|e
 ·exact h1.lt
 ·exact ownG_lt h2 k e
theorem CmtAt.next {w:World}{B4:Nat}{Y:Int->Option (List UInt8)}{pre:List (Nat×(Option Addr×Nat))}{U:Nat->Prop}{V Va w5:World}{x:Nat×(Option Addr×Nat)}{Aw:Option Addr}{cw:Nat}(h:CmtAt w B4 Y pre U V)(hb:BlkIs V w.heap.size 127 #[.slice Aw pre.length cw])(hown:V.ownsRow B4 129 2 (.slice Aw pre.length cw) pre.length (pwsC (pre.map pwO)))(hU:∀k,U k↔k=w.heap.size∨(Value.slice Aw pre.length cw).ownBlock=some k)
  (hx:∃y,Y (x.1:Int)=some y/\y.length=512/\InB V V.heap.size x.2.1 x.2.2 y/\TyB V x.2.1) (hBa:Below V.heap.size V Va) {v5:Value} (own5:w5.ownsRow B4 129 2 v5 (pre.length+1) (pwsC (pre.map pwO)++pwC (pwO x))) (hg5:Va.grownBy w5 (Value.slice Aw pre.length cw).ownBlock) (hv5:v5.ownBlock=(Value.slice Aw pre.length cw).ownBlock∨v5.ownBlock=some Va.heap.size) :
  ∃U',LaterU V.heap.size U U'/\KeepU U V (w5.setCell ⟨w.heap.size,0,none⟩ v5)/\CmtAt w B4 Y (pre++[x]) U' (w5.setCell ⟨w.heap.size,0,none⟩ v5):=by
 have e1:pwsC (pre.map pwO)++pwC (pwO x)=pwsC ((pre++[x]).map pwO):=by rw[List.map_append,List.map_singleton,pwsC_snoc]
 have e2:(pre++[x]).length=pre.length+1:=by simp
 rw[e1] at own5
 obtain⟨A5,c5,rfl,_⟩:=ownG_in own5 (pwsC_one _)
 have hge:=ownG_ge hown
 have hge5:=ownG_ge own5
 have hs:=hBa.size
 have h4:=h.b4
 have hbl:=hb.lt
 have hUl:=h.lts
 have k5:KeepU U V w5:=(KeepU.grow U hBa).trans (KeepU.grown U hg5 (fun r e=>(hU r).2 (.inr e)))
 have kc:KeepU U w5 (w5.setCell ⟨w.heap.size,0,none⟩ (.slice A5 (pre.length+1) c5)):=KeepU.setCell _ _ _ ((hU _).2 (.inl rfl))
 have bx:BlkIs w5 w.heap.size 127 #[.slice Aw pre.length cw]:=(hb.below hBa hb.lt).grown hg5 (fun e=>by have:=hge _ e.symm;omega)
 have hnb:∀{W:World} {A:Option Addr} {c:Nat} {y:List UInt8},InB V V.heap.size A c y->y.length=512->TyB V A->KeepU U V W->InB W W.heap.size A c y/\TyB W A:=fun {W A c y} hi hl ht hk=>by
  have hMu:∀g cs,BlkIs V g 5 cs->¬ U g:=fun g cs hgb e=>by
   rcases(hU g).1 e with rfl|e
   ·exact BlkIs.ne_type hb hgb (by decide) rfl
   ·obtain⟨cur,hcur⟩:=ownG_ty hown g e
    exact BlkIs.ne_type hcur hgb (by decide) rfl
  refine⟨⟨hi.le,hi.max,hi.nil,fun h0 => ?_⟩,fun g o e => ?_⟩
  ·obtain⟨g,o,e,hg,hc⟩:=hi.lies h0
   obtain⟨cs,hcs⟩:=ht g o e
   exact⟨g,o,e,zO hg hk.1,fun j hj=>hk.cell (p:=⟨g,o+j,none⟩) (hc j hj) (hMu g cs hcs)⟩
  ·obtain⟨cs,hcs⟩:=ht g o e
   exact⟨cs,hk.blk hcs (hMu g cs hcs)⟩
 have kall:=k5.trans kc
 refine⟨fun k=>k=w.heap.size∨(Value.slice A5 (pre.length+1) c5).ownBlock=some k,fun k hk => ?_,kall,⟨⟨A5,c5,by rw[e2];exact bx.set 0 _,?_,fun k=>by rw[e2]⟩,fun u hu => ?_,?_,h4.1,zP h4.2 kall.1⟩⟩
 ·rcases hk with rfl|hk
  ·exact .inl ((hU _).2 (.inl rfl))
  ·rcases hv5 with e|e
   ·rw[e] at hk;exact .inl ((hU _).2 (.inr hk))
   ·rw[e] at hk;injection hk with hk;exact .inr (by omega)
 ·rw[e2]
  exact ownG_later own5 (fun r hr=>Below.heap_setCell w5 ⟨w.heap.size,0,none⟩ _ r (fun e=>by have h7:=hge5 r hr;have h8:r=w.heap.size:=e;omega))
 ·rcases List.mem_append.1 hu with hu|hu
  ·obtain⟨y,y1,y2,y3,y4⟩:=h.bys u hu
   obtain⟨z1,z2⟩:=hnb y3 y2 y4 kall
   exact⟨y,y1,y2,z1,z2⟩
  ·rw[List.mem_singleton] at hu
   subst hu
   obtain⟨y,y1,y2,y3,y4⟩:=hx
   obtain⟨z1,z2⟩:=hnb y3 y2 y4 kall
   exact⟨y,y1,y2,z1,z2⟩
 ·have h5:=h.up.size
  exact h.up.trans (((hBa.mono h5).trans (grown_below hg5 (by omega) (fun r e=>by have:=hge r e;omega))).setCell (zG _) _)
end Go.Proofs.YtnlimngkagmjpaaGreat
