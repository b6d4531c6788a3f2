/- Texts that the proof of CacheHolds leans on, part 3. -/
import Derived.Stop.BytesEq
import Derived.Test.YtmllnpjldmdaeaaGreatCacheHoldsB2
set_option maxRecDepth 100000
set_option maxHeartbeats 8000000

namespace Go.Proofs.YtmllnpjldmdaeaaGreat
open Go Go.RowKit Lou
def GivesBE (w0:World)(l:List UInt8)(n:Int)(e:Ending)(w':World):Prop :=
  ∃A c,e = .returned (.tuple #[.slice A l.length c,.int .i64 n])/\InB w' w'.heap.size A c l/\Below w0.heap.size w0 w'
def hEnc (s e:Nat)(z c:Int):List UInt8:=if headOk z c then headW s e z.toNat c.toNat else []
def hErr (z c:Int):Int:=if headOk z c then 0 else 2
theorem hEnc_ok {s e:Nat}{z c:Nat}(hz:z<=2000)(hc:c<=2000):hEnc s e z c=headW s e z c/\hErr z c=0:=by
  have:headOk z c=true:=by rw[headOk_iff];omega
  simp[hEnc,hErr,this]
theorem InB.mt (w:World)(B:Nat):InB w B none 0 []:=⟨by simp,by omega,fun _=>rfl,fun h=>by simp at h⟩
theorem BlkIs.inBT {w:World}{g:Nat}{T:TypeId}{l:List UInt8}(h:BlkIs w g T (l.map b8).toArray)(hm:l.length<=9223372036854775807):InB w w.heap.size (some ⟨g,0,none⟩) l.length l :=
  ⟨Nat.le_refl _,hm,(fun e=>by cases e),fun _=>⟨g,0,rfl,h.lt,fun j hj=>by
    rw[h.cell]
    simp[hj,b8]⟩⟩
theorem encodeHead_gives (s e:Nat)(z c:Int)(w:World) :
    Calls Tryz.prog 116 #[.agg #[.int .u64 (s:Int),.int .u64 (e:Int),.int .i64 z,.int .i64 c]] w (GivesBE w (hEnc s e z c) (hErr z c)):=by
  have hBw:Below w.heap.size w (w.alloc (.cells #[.int .u64 (s:Int),.int .u64 (e:Int),.int .i64 z,.int .i64 c] 111)):=(Below.refl _ w).alloc (Nat.le_refl _) _
  have hbh:=BlkIs.new w 111 #[.int .u64 (s:Int),.int .u64 (e:Int),.int .i64 z,.int .i64 c]
  cases hk:headOk z c with
  | false =>
    have H:=fits_gives s e z c (w.alloc (.cells #[.int .u64 (s:Int),.int .u64 (e:Int),.int .i64 z,.int .i64 c] 111))
    rw[hk] at H
    have h1:hEnc s e z c=[]:=by simp[hEnc,hk]
    have h2:hErr z c=2:=by simp[hErr,hk]
    rw[h1,h2]
    clear h1 h2 hk
    go_enter Tryz.func116,Tryz.ntmps116
    go_wp2_with (first
      | (go_at_call 149;refine H.mono ?_;rintro x w2 ⟨rfl,hB2⟩)
      | (refine wp_loadW rfl 111 (.tmp 1) rfl w.heap.size rfl rowHead hbh (by rfl) ?_))
    refine bodyPost_ret (results_tmp2 rfl _ _ _) rfl ?_
    exact⟨none,0,rfl,InB.mt _ _,hBw.trans (hB2.mono hBw.size)⟩
  | true =>
    obtain⟨⟨hz0,hz1⟩,hc0,hc1⟩:=(headOk_iff z c).1 hk
    obtain⟨zn,rfl⟩:∃zn:Nat,z=zn:=⟨z.toNat,by omega⟩
    obtain⟨cn,rfl⟩:∃cn:Nat,c=cn:=⟨c.toNat,by omega⟩
    have H:=fits_gives s e zn cn (w.alloc (.cells #[.int .u64 (s:Int),.int .u64 (e:Int),.int .i64 zn,.int .i64 cn] 111))
    rw[hk] at H
    have h1:hEnc s e zn cn=headW s e zn cn:=by simp[hEnc,hk]
    have h2:hErr zn cn=0:=by simp[hErr,hk]
    rw[h1,h2]
    clear h1 h2 hk
    have hlen:=headW_length s e zn cn
    have HH:=fun W=>head_gives s e zn cn (by omega) (by omega) W
    generalize headW s e zn cn=L at *
    have HL:=Lib.hid hlen
    have hRow:RowTy Tryz.prog 220 (L.map b8).toArray.size:=by
      have:(L.map b8).toArray.size=64:=by simp[hlen]
      rw[this]
      exact rowSector
    clear hlen
    go_enter Tryz.func116,Tryz.ntmps116
    go_wp2_with (first
      | (go_at_call 149;refine H.mono ?_;rintro x w2 ⟨rfl,hB2⟩;have hbh2:=hbh.below hB2 hbh.lt;have hB02:=hBw.trans (hB2.mono hBw.size);clear H hbh)
      | (go_at_call 150;refine(HH _).mono ?_;rintro x w3 ⟨rfl,hB3⟩;have hB03:=hB02.trans (hB3.mono hB02.size))
      | (refine wp_loadW rfl 111 (.tmp 1) rfl w.heap.size rfl rowHead (by assumption) (by rfl) ?_)
      | (refine wp_storeW rfl 220 (.tmp 4) (.tmp 9) rfl w3.heap.size rfl rfl rowSector (BlkIs.new w3 220 #[.int .u8 0,.int .u8 0,.int .u8 0,.int .u8 0,.int .u8 0,.int .u8 0,.int .u8 0,.int .u8 0,.int .u8 0,.int .u8 0,.int .u8 0,.int .u8 0,.int .u8 0,.int .u8 0,.int .u8 0,.int .u8 0,.int .u8 0,.int .u8 0,.int .u8 0,.int .u8 0,.int .u8 0,.int .u8 0,.int .u8 0,.int .u8 0,.int .u8 0,.int .u8 0,.int .u8 0,.int .u8 0,.int .u8 0,.int .u8 0,.int .u8 0,.int .u8 0,.int .u8 0,.int .u8 0,.int .u8 0,.int .u8 0,.int .u8 0,.int .u8 0,.int .u8 0,.int .u8 0,.int .u8 0,.int .u8 0,.int .u8 0,.int .u8 0,.int .u8 0,.int .u8 0,.int .u8 0,.int .u8 0,.int .u8 0,.int .u8 0,.int .u8 0,.int .u8 0,.int .u8 0,.int .u8 0,.int .u8 0,.int .u8 0,.int .u8 0,.int .u8 0,.int .u8 0,.int .u8 0,.int .u8 0,.int .u8 0,.int .u8 0,.int .u8 0]) (by rfl) (by have:=HL.out;simp;omega) (b8_one _) ?_))
    have hb4:=(BlkIs.new w3 220 #[.int .u8 0,.int .u8 0,.int .u8 0,.int .u8 0,.int .u8 0,.int .u8 0,.int .u8 0,.int .u8 0,.int .u8 0,.int .u8 0,.int .u8 0,.int .u8 0,.int .u8 0,.int .u8 0,.int .u8 0,.int .u8 0,.int .u8 0,.int .u8 0,.int .u8 0,.int .u8 0,.int .u8 0,.int .u8 0,.int .u8 0,.int .u8 0,.int .u8 0,.int .u8 0,.int .u8 0,.int .u8 0,.int .u8 0,.int .u8 0,.int .u8 0,.int .u8 0,.int .u8 0,.int .u8 0,.int .u8 0,.int .u8 0,.int .u8 0,.int .u8 0,.int .u8 0,.int .u8 0,.int .u8 0,.int .u8 0,.int .u8 0,.int .u8 0,.int .u8 0,.int .u8 0,.int .u8 0,.int .u8 0,.int .u8 0,.int .u8 0,.int .u8 0,.int .u8 0,.int .u8 0,.int .u8 0,.int .u8 0,.int .u8 0,.int .u8 0,.int .u8 0,.int .u8 0,.int .u8 0,.int .u8 0,.int .u8 0,.int .u8 0,.int .u8 0]).setRow (L.map b8).toArray
    have hB4:Below w.heap.size w ((w3.alloc (.cells #[.int .u8 0,.int .u8 0,.int .u8 0,.int .u8 0,.int .u8 0,.int .u8 0,.int .u8 0,.int .u8 0,.int .u8 0,.int .u8 0,.int .u8 0,.int .u8 0,.int .u8 0,.int .u8 0,.int .u8 0,.int .u8 0,.int .u8 0,.int .u8 0,.int .u8 0,.int .u8 0,.int .u8 0,.int .u8 0,.int .u8 0,.int .u8 0,.int .u8 0,.int .u8 0,.int .u8 0,.int .u8 0,.int .u8 0,.int .u8 0,.int .u8 0,.int .u8 0,.int .u8 0,.int .u8 0,.int .u8 0,.int .u8 0,.int .u8 0,.int .u8 0,.int .u8 0,.int .u8 0,.int .u8 0,.int .u8 0,.int .u8 0,.int .u8 0,.int .u8 0,.int .u8 0,.int .u8 0,.int .u8 0,.int .u8 0,.int .u8 0,.int .u8 0,.int .u8 0,.int .u8 0,.int .u8 0,.int .u8 0,.int .u8 0,.int .u8 0,.int .u8 0,.int .u8 0,.int .u8 0,.int .u8 0,.int .u8 0,.int .u8 0,.int .u8 0] 220)).setRow w3.heap.size (L.map b8).toArray):=below_setRow (hB03.alloc hB03.size _) hB03.size _
    have hin4:=hb4.inBT (by rw[HL.out];omega)
    rw[HL.out] at hin4
    refine bodyPost_ret (results_tmp2 rfl _ _ _) rfl ?_
    exact⟨_,64,by rw[HL.out];rfl,hin4,hB4⟩
theorem InB.grown {w w':World}{B:Nat}{A:Option Addr}{c:Nat}{l:List UInt8}{row:Option Nat}(h:InB w B A c l)(hB:B<=w.heap.size)(hg:w.grownBy w' row)(hr:∀r,row=some r->B<=r):InB w' B A c l :=
  h.keep fun p hp=>World.cell?_of_block (hg.block p.block (by omega) (fun e=>by have:=hr _ e.symm;omega))
theorem refEncodeHead_bad (s e:Nat)(z c:Int)(w:World)(hk:headOk z c=false) :
    Calls Tryz.prog 37 #[.agg #[.int .u64 (s:Int),.int .u64 (e:Int),.int .i64 z,.int .i64 c]] w (GivesBE w (hEnc s e z c) (hErr z c)):=by
  have hBw:Below w.heap.size w (w.alloc (.cells #[.int .u64 (s:Int),.int .u64 (e:Int),.int .i64 z,.int .i64 c] 111)):=(Below.refl _ w).alloc (Nat.le_refl _) _
  have h1:hEnc s e z c=[]:=by simp[hEnc,hk]
  have h2:hErr z c=2:=by simp[hErr,hk]
  rw[h1,h2]
  have h3:¬ ((0<=z/\z<=2000)/\(0<=c/\c<=2000)):=by rw[<-headOk_iff,hk];simp
  clear h1 h2 hk
  by_cases a1:z<0
  · go_enter Tryz.func37,Tryz.ntmps37
    go_wp2
    exact bodyPost_ret (results_tmp2 rfl _ _ _) rfl ⟨none,0,rfl,InB.mt _ _,hBw⟩
  · by_cases a2:2000<z
    · go_enter Tryz.func37,Tryz.ntmps37
      go_wp2
      exact bodyPost_ret (results_tmp2 rfl _ _ _) rfl ⟨none,0,rfl,InB.mt _ _,hBw⟩
    · by_cases a3:c<0
      · go_enter Tryz.func37,Tryz.ntmps37
        go_wp2
        exact bodyPost_ret (results_tmp2 rfl _ _ _) rfl ⟨none,0,rfl,InB.mt _ _,hBw⟩
      · have a4:2000<c:=by omega
        go_enter Tryz.func37,Tryz.ntmps37
        go_wp2
        exact bodyPost_ret (results_tmp2 rfl _ _ _) rfl ⟨none,0,rfl,InB.mt _ _,hBw⟩
theorem refEncodeHead_ok (s e z c:Nat)(w:World)(hs:s<2 ^ 64)(he:e<2 ^ 64)(hz:z<=2000)(hc:c<=2000) :
    Calls Tryz.prog 37 #[.agg #[.int .u64 (s:Int),.int .u64 (e:Int),.int .i64 z,.int .i64 c]] w (GivesBE w (headW s e z c) 0):=by
  have hBw:Below w.heap.size w (w.alloc (.cells #[.int .u64 (s:Int),.int .u64 (e:Int),.int .i64 (z:Int),.int .i64 (c:Int)] 111)):=(Below.refl _ w).alloc (Nat.le_refl _) _
  have hbh:=BlkIs.new w 111 #[.int .u64 (s:Int),.int .u64 (e:Int),.int .i64 (z:Int),.int .i64 (c:Int)]
  have F8:∀n:Nat,n<2 ^ 64->∀W,Calls Tryz.prog 70 #[.int .u64 (n:Int),.int .i64 8] W (GivesB W (fixL 8 n)):=fun n h W=>refFixed_gives 8 n (by omega) h W
  have F4:∀n:Nat,n<2 ^ 64->∀W,Calls Tryz.prog 70 #[.int .u64 (n:Int),.int .i64 4] W (GivesB W (fixL 4 n)):=fun n h W=>refFixed_gives 4 n (by omega) h W
  have FS:=F8 s hs
  have FE:=F8 e he
  have FZ:=F4 z (by omega)
  have FC:=F4 c (by omega)
  clear F8 F4 hs he
  have z0:(0:Int)<=(z:Int):=by omega
  have c0:(0:Int)<=(c:Int):=by omega
  have z1:(z:Int)<=2000:=by omega
  have c1:(c:Int)<=2000:=by omega
  go_enter Tryz.func37,Tryz.ntmps37
  go_wp2_with fail
  generalize w.alloc (.cells #[.int .u64 (s:Int),.int .u64 (e:Int),.int .i64 (z:Int),.int .i64 (c:Int)] 111)=w1 at *
  have hg1:=hbh.lt
  have hc0:w1.cell? ⟨w.heap.size,0,none⟩=some (.int .u64 (s:Int)):=by rw[hbh.cell];rfl
  have hc1:w1.cell? ⟨w.heap.size,1,none⟩=some (.int .u64 (e:Int)):=by rw[hbh.cell];rfl
  go_region_held3 (fun W=>Below w1.heap.size w1 W/\W.cell? ⟨w.heap.size,0,none⟩=some (.int .u64 (s:Int))/\W.cell? ⟨w.heap.size,1,none⟩=some (.int .u64 (e:Int)))
    (first|exact⟨(Below.refl _ _).drew,hc0,hc1⟩|exact keepB2 (by assumption) (by assumption) hg1)
    (first
      | (go_at_call 70;first
        | (with_reducible refine(FS _).mono ?_);rintro x W2 ⟨v2,rfl,own2,hB2⟩;have hB2':Below w1.heap.size w1.drew W2:=hB2
        | (with_reducible refine(FE _).mono ?_);rintro x W3 ⟨v3,rfl,own3,hB3⟩;have own2':=own2.later hB3;obtain⟨A3,c3,rfl,hin3⟩:=own3.inB;have hB3':Below w1.heap.size W2 W3:=hB3.mono hB2'.size)
      | (revert own2';intro own2';refine step_appB (by rfl) (.tmp 25) (.tmp 28) (by rfl) w1.heap.size v2 (fixL 8 s) (by rfl) own2' _ A3 c3 (fixL 8 e) (by rfl) hin3 (by simp[fixL_length]) (by have:=hB2'.size;have:=hB3'.size;simp at *;omega) ?_;intro v4 W4 own4 hg4 hat4;have hB4':Below w1.heap.size W3 W4:=grown_below hg4 (by have:=hB2'.size;have:=hB3'.size;simp at *;omega) own2'.ownGe))
  rename_i hS4
  have hB14:=hS4.1
  have hc2:W4.cell? ⟨w.heap.size,2,none⟩=some (.int .i64 (z:Int)):=(hB14.cell (p:=⟨w.heap.size,2,none⟩) hg1).trans (by rw[hbh.cell];rfl)
  have hc3:W4.cell? ⟨w.heap.size,3,none⟩=some (.int .i64 (c:Int)):=(hB14.cell (p:=⟨w.heap.size,3,none⟩) hg1).trans (by rw[hbh.cell];rfl)
  clear hS4 hB2' hB3' hB4' hB2 hB3 own2 own2' own3 hin3 hg4 hat4 hc0 hc1
  go_wp2_with fail
  have s14:=hB14.size
  have hzw:IntKind.u64.wrap (z:Int)=(z:Int):=by
    show (z:Int) % 18446744073709551616=_
    omega
  have hcw:IntKind.u64.wrap (c:Int)=(c:Int):=by
    show (c:Int) % 18446744073709551616=_
    omega
  have hl8:∀n,(fixL 8 n).length=8:=fixL_length 8
  have hl4:∀n,(fixL 4 n).length=4:=fixL_length 4
  have L8:=Lib.hid hl8
  have L4:=Lib.hid hl4
  clear hl8 hl4
  go_region_held3 (fun W=>Below w1.heap.size w1 W/\W.cell? ⟨w.heap.size,2,none⟩=some (.int .i64 (z:Int))/\W.cell? ⟨w.heap.size,3,none⟩=some (.int .i64 (c:Int)))
    (first|exact⟨hB14.drew,hc2,hc3⟩|exact keepB2 (by assumption) (by assumption) hg1)
    (first
      | (go_at_call 70;first
        | ((with_reducible refine(FZ _).mono ?_);rintro x W5 ⟨v5,rfl,own5,hB5⟩;have own4':=OwnB.later (w:=W4.drew) own4 hB5;obtain⟨A5,c5,rfl,hin5⟩:=own5.inB;have hB5':Below w1.heap.size W4.drew W5:=hB5.mono s14;have s15:=Nat.le_trans s14 hB5.size)
        | ((with_reducible refine(FC _).mono ?_);rintro x W7 ⟨v7,rfl,own7,hB7⟩;have own6':=own6.later hB7;obtain⟨A7,c7,rfl,hin7⟩:=own7.inB;have hB7':Below w1.heap.size W6 W7:=hB7.mono s16;have s17:=Nat.le_trans s16 hB7.size))
      | (revert own4';intro own4';refine step_appB (by rfl) (.tmp 30) (.tmp 34) (by rfl) w1.heap.size v4 (fixL 8 s++fixL 8 e) (by rfl) own4' _ A5 c5 (fixL 4 z) (by rfl) hin5 (by simp only[List.length_append,L8.out,L4.out];omega) s15 ?_;clear own4';intro v6 W6 own6 hg6 hat6;have hB6':Below w1.heap.size W5 W6:=grown_below hg6 s15 own4.ownGe;have s16:=Nat.le_trans s15 hB6'.size)
      | (revert own6';intro own6';refine step_appB (by rfl) (.tmp 35) (.tmp 39) (by rfl) w1.heap.size v6 (fixL 8 s++fixL 8 e++fixL 4 z) (by rfl) own6' _ A7 c7 (fixL 4 c) (by rfl) hin7 (by simp only[List.length_append,L8.out,L4.out];omega) s17 ?_;clear own6';intro v8 W8 own8 hg8 hat8;have hB8':Below w1.heap.size W7 W8:=grown_below hg8 s17 own6.ownGe;have s18:=Nat.le_trans s17 hB8'.size))
  rename_i hS8
  have hB08:Below w.heap.size w W8:=hBw.trans (hS8.1.mono hBw.size)
  have hBs:=hBw.size
  have hb:fixL 8 s++fixL 8 e++fixL 4 z++fixL 4 c=headB s e z c:=by rw[headB_eq];simp only[List.append_assoc]
  have hl24:=headB_length s e z c
  have hWd:headW s e z c=twiceB (headB s e z c):=rfl
  rw[hb] at own8
  clear hS8 hB14 hc2 hc3 hzw hcw own4 hg6 hat6 own6 hB5' own5 hin5 own7 hin7 hB7 hB7' hB6' hg8 hat8 hB8' hb FS FE FZ FC
  generalize headB s e z c=b at *
  have HL:=Lib.hid hl24
  have HW:=Lib.hid hWd
  clear hWd
  have hsl:=sumL_lt b
  have FX:∀W,Calls Tryz.prog 70 #[.int .u64 (sumL b:Int),.int .i64 4] W (GivesB W (fixL 4 (sumL b))):=fun W=>refFixed_gives 4 (sumL b) (by omega) (by omega) W
  obtain⟨S,hS⟩:∃S,S=sumL b:=⟨_,rfl⟩
  have hon:b++fixL 4 S=onceB b:=by rw[hS];rfl
  rw[<-hS] at hsl FX
  have HON:=Lib.hid hon
  have hsw:IntKind.u64.wrap (S:Int)=(S:Int):=by
    show (S:Int) % 18446744073709551616=_
    omega
  have hol:(b++fixL 4 S).length=28:=by rw[hon,onceB_length,hl24]
  have HO:=Lib.hid hol
  obtain⟨A8,c8,rfl,hin8⟩:=own8.inB
  have HS:=refSum_gives W8 _ A8 c8 b hin8
  rw[<-hS] at HS
  clear hl24 hS hon hol hsl
  go_wp2_with fail
  refine HS.mono ?_
  rintro x w' ⟨rfl,rfl⟩
  go_wp2_with fail
  refine(FX _).mono ?_
  rintro x W9 ⟨v9,rfl,own9,hB9⟩
  have own8':=own8.later hB9
  obtain⟨A9,c9,rfl,hin9⟩:=own9.inB
  have s19:=Nat.le_trans s18 hB9.size
  have hB09:Below w.heap.size w W9:=hB08.trans (hB9.mono hB08.size)
  go_wp2_with (first
    | (at_builtin;refine wp_appB rfl (.tmp 41) (.tmp 45) rfl w1.heap.size (.slice A8 b.length c8) b rfl own8' _ A9 c9 (fixL 4 S) rfl hin9 (by rw[HL.out,L4.out];omega) s19 ?_;intro v10 W10 own10 hg10;have hB10:Below w.heap.size w W10:=hB09.trans (grown_below hg10 hB09.size (fun r hr=>Nat.le_trans hBs (own8'.ownGe r hr)));rw[HON.out] at own10;obtain⟨A10,c10,rfl,hin10⟩:=own10.inB;have e0:OwnB (W10.alloc (.cells #[] 5)) W10.heap.size (.slice (some ⟨W10.heap.size,0,none⟩) 0 0) []:=World.ownsRow_lit W10 #[] 0 (Nat.le_refl _) (by unfold maxLen;omega) rfl;have hin10':=hin10.below ((Below.refl _ W10).alloc (Nat.le_refl _) (.cells #[] 5));have hB10':Below w.heap.size w (W10.alloc (.cells #[] 5)):=hB10.alloc hB10.size _)
    | (revert e0;intro e0;at_builtin;refine wp_appB rfl (.tmp 47) (.tmp 48) rfl W10.heap.size (.slice (some ⟨W10.heap.size,0,none⟩) 0 0) [] rfl e0 _ A10 c10 (onceB b) rfl hin10' (by rw[onceB_length,HL.out];simp) (by simp) ?_;intro v11 W11 own11 hg11;have hB11:Below w.heap.size w W11:=hB10'.trans (grown_below hg11 hB10'.size (fun r hr=>Nat.le_trans hB10.size (e0.ownGe r hr)));have hin11:=hin10'.grown (by simp) hg11 e0.ownGe;have s11:W10.heap.size<=W11.heap.size:=Nat.le_trans (by simp) hg11.size;rw[List.nil_append] at own11;clear e0)
    | (revert own11;intro own11;at_builtin;refine wp_appB rfl (.tmp 49) (.tmp 50) rfl W10.heap.size v11 (onceB b) rfl own11 _ A10 c10 (onceB b) rfl hin11 (by rw[onceB_length,HL.out];omega) s11 ?_;intro v12 W12 own12 hg12;have hB12:Below w.heap.size w W12:=hB11.trans (grown_below hg12 hB11.size (fun r hr=>Nat.le_trans hB10.size (own11.ownGe r hr)));have s12:W10.heap.size<=W12.heap.size:=Nat.le_trans s11 hg12.size;clear own11)
    | (revert own12;intro own12;refine wp_appZ rfl (.tmp 51) (.const (.int .i64 8)) rfl W10.heap.size v12 (onceB b++onceB b) rfl own12 8 rfl (by omega) (by simp only[List.length_append];rw[onceB_length,HL.out];omega) s12 ?_;intro v13 W13 own13 hg13 hat13;have hB13:Below w.heap.size w W13:=hB12.trans (grown_below hg13 hB12.size (fun r hr=>Nat.le_trans hB10.size (own12.ownGe r hr)))))
  obtain⟨A13,c13,rfl,hin13⟩:=own13.inB
  refine bodyPost_ret (results_tmp2 rfl _ _ _) rfl ?_
  show GivesBE w (headW s e z c) 0 _ _
  rw[HW.out]
  exact⟨A13,c13,rfl,hin13,hB13⟩
theorem refEncodeHead_gives (s e:Nat)(z c:Int)(w:World)(hs:s<2 ^ 64)(he:e<2 ^ 64) :
    Calls Tryz.prog 37 #[.agg #[.int .u64 (s:Int),.int .u64 (e:Int),.int .i64 z,.int .i64 c]] w (GivesBE w (hEnc s e z c) (hErr z c)):=by
  cases hk:headOk z c with
  | false=>exact refEncodeHead_bad s e z c w hk
  | true =>
    obtain⟨⟨hz0,hz1⟩,hc0,hc1⟩:=(headOk_iff z c).1 hk
    obtain⟨zn,rfl⟩:∃zn:Nat,z=zn:=⟨z.toNat,by omega⟩
    obtain⟨cn,rfl⟩:∃cn:Nat,c=cn:=⟨c.toNat,by omega⟩
    obtain⟨h1,h2⟩:=hEnc_ok (s:=s) (e:=e) (z:=zn) (c:=cn) (by omega) (by omega)
    rw[h1,h2]
    exact refEncodeHead_ok s e zn cn w hs he (by omega) (by omega)
theorem laid_gives (w:World)(A:Option Addr)(k:Nat)(y:List UInt8)(ls:List (List UInt8))(u:Value)(hin:InB w w.heap.size A k y)(hu:Lists ls u w)(hm:ls.length<=1000)(hp:ls.flatten.length=25)(hy:y.length<=100000) :
    Calls Tryz.prog 167 #[.slice A y.length k,u] w fun x w'=>x = .returned (.agg ((sectB ls.flatten y).map b8).toArray)/\Below w.heap.size w w':=by
  have hB1:Below w.heap.size w (w.alloc (.cells #[.int .u8 0,.int .u8 0,.int .u8 0,.int .u8 0,.int .u8 0,.int .u8 0,.int .u8 0,.int .u8 0,.int .u8 0,.int .u8 0,.int .u8 0,.int .u8 0,.int .u8 0,.int .u8 0,.int .u8 0,.int .u8 0,.int .u8 0,.int .u8 0,.int .u8 0,.int .u8 0,.int .u8 0,.int .u8 0,.int .u8 0,.int .u8 0,.int .u8 0,.int .u8 0,.int .u8 0,.int .u8 0,.int .u8 0,.int .u8 0,.int .u8 0,.int .u8 0,.int .u8 0,.int .u8 0,.int .u8 0,.int .u8 0,.int .u8 0,.int .u8 0,.int .u8 0,.int .u8 0,.int .u8 0,.int .u8 0,.int .u8 0,.int .u8 0,.int .u8 0,.int .u8 0,.int .u8 0,.int .u8 0,.int .u8 0,.int .u8 0,.int .u8 0,.int .u8 0,.int .u8 0,.int .u8 0,.int .u8 0,.int .u8 0,.int .u8 0,.int .u8 0,.int .u8 0,.int .u8 0,.int .u8 0,.int .u8 0,.int .u8 0,.int .u8 0] 220)):=(Below.refl _ w).alloc (Nat.le_refl _) _
  have hb1:BlkIs (w.alloc (.cells #[.int .u8 0,.int .u8 0,.int .u8 0,.int .u8 0,.int .u8 0,.int .u8 0,.int .u8 0,.int .u8 0,.int .u8 0,.int .u8 0,.int .u8 0,.int .u8 0,.int .u8 0,.int .u8 0,.int .u8 0,.int .u8 0,.int .u8 0,.int .u8 0,.int .u8 0,.int .u8 0,.int .u8 0,.int .u8 0,.int .u8 0,.int .u8 0,.int .u8 0,.int .u8 0,.int .u8 0,.int .u8 0,.int .u8 0,.int .u8 0,.int .u8 0,.int .u8 0,.int .u8 0,.int .u8 0,.int .u8 0,.int .u8 0,.int .u8 0,.int .u8 0,.int .u8 0,.int .u8 0,.int .u8 0,.int .u8 0,.int .u8 0,.int .u8 0,.int .u8 0,.int .u8 0,.int .u8 0,.int .u8 0,.int .u8 0,.int .u8 0,.int .u8 0,.int .u8 0,.int .u8 0,.int .u8 0,.int .u8 0,.int .u8 0,.int .u8 0,.int .u8 0,.int .u8 0,.int .u8 0,.int .u8 0,.int .u8 0,.int .u8 0,.int .u8 0] 220)) w.heap.size 220 ((List.replicate 64 (0:UInt8)).map b8).toArray:=BlkIs.new w 220 #[.int .u8 0,.int .u8 0,.int .u8 0,.int .u8 0,.int .u8 0,.int .u8 0,.int .u8 0,.int .u8 0,.int .u8 0,.int .u8 0,.int .u8 0,.int .u8 0,.int .u8 0,.int .u8 0,.int .u8 0,.int .u8 0,.int .u8 0,.int .u8 0,.int .u8 0,.int .u8 0,.int .u8 0,.int .u8 0,.int .u8 0,.int .u8 0,.int .u8 0,.int .u8 0,.int .u8 0,.int .u8 0,.int .u8 0,.int .u8 0,.int .u8 0,.int .u8 0,.int .u8 0,.int .u8 0,.int .u8 0,.int .u8 0,.int .u8 0,.int .u8 0,.int .u8 0,.int .u8 0,.int .u8 0,.int .u8 0,.int .u8 0,.int .u8 0,.int .u8 0,.int .u8 0,.int .u8 0,.int .u8 0,.int .u8 0,.int .u8 0,.int .u8 0,.int .u8 0,.int .u8 0,.int .u8 0,.int .u8 0,.int .u8 0,.int .u8 0,.int .u8 0,.int .u8 0,.int .u8 0,.int .u8 0,.int .u8 0,.int .u8 0,.int .u8 0]
  have hC:=concatL_gives (lists_stable ls u w _ hu hB1) hm (by rw[hp];omega)
  have hin1:=(hin.below hB1).more hB1.size
  generalize ls.flatten=p at *
  have HP:=Lib.hid hp
  clear hp hu hm hin
  go_enter Tryz.func167,Tryz.ntmps167
  go_wp2_with fail
  refine hC.mono ?_
  rintro x W2 ⟨v2,rfl,own2,hB⟩
  obtain⟨A2,c2,rfl,hin2⟩:=own2.inB
  have hB2:=hB1.trans (hB.mono hB1.size)
  have hb2:=hb1.below hB hb1.lt
  have hy2:=(hin1.below hB).more hB.size
  clear hB hB1 hb1 hin1 hC own2
  go_wp2_with fail
  have S2:=sum2_gives W2.drew A2 A c2 k p y hin2.drew hy2.drew
  have s2:=hB2.size
  obtain⟨S,hS⟩:∃S,sumL (p++y)=S:=⟨_,rfl⟩
  rw[hS] at S2
  have HS:=Lib.hid hS
  clear hS
  obtain⟨d,hd⟩:∃d,p++fixL 4 S=d:=⟨_,rfl⟩
  have HD:=Lib.hid hd
  clear hd
  go_region_held3 (fun _=>True) (trivial) (first
    | (go_at_call 180;refine S2.mono ?_;rintro x W3 ⟨rfl,hB3⟩;have hb3:=hb2.drew.below hB3 hb2.lt;have hp3:=(hin2.drew.below hB3).more hB3.size)
    | (go_at_call 169;refine(four_gives _ _).mono ?_;rintro x W4 ⟨v4,rfl,own4,hB4⟩;have hb4:=hb3.below hB4 hb3.lt;have hp4:=(hp3.below hB4).more hB4.size;obtain⟨A4,c4,rfl,hin4⟩:=own4.inB;have C5:=concat2_gives W4 A2 A4 c2 c4 p (fixL 4 S) hp4 hin4 (by rw[HP.out,fixL_length];omega);rw[HD.out] at C5)
    | (go_at_call 139;refine C5.mono ?_;rintro x W5 ⟨v5,rfl,own5,hB5⟩;have hb5:=hb4.below hB5 hb4.lt;obtain⟨A5,c5,rfl,hin5⟩:=own5.inB)
    | (revert hb5;intro hb5;refine step_copyB (by rfl) (.tmp 8) (.tmp 16) (by rfl) w.heap.size 0 (List.replicate 64 0) d A5 c5 _ 64 64 (by rfl) (by rfl) hb5 hin5 (by simp) ?_))
  have hsp:spliceB (List.replicate 64 0) 0 64 d=sectB p y:=by
    have:=HP.out
    rw[<-HD.out]
    simp only[spliceB,sectB,HS.out,List.take_zero,List.nil_append,Nat.zero_add,List.drop_replicate,List.length_append,fixL_length]
    rw[List.take_of_length_le (by simp[fixL_length];omega),Nat.min_eq_left (by omega),this]
  rw[hsp]
  have hb6:=hb5.setRow ((sectB p y).map b8).toArray
  have hB5':Below w.heap.size w W5:=hB2.drew.trans ((hB3.trans ((hB4.trans (hB5.mono hB4.size)).mono hB3.size)).mono s2)
  have hB6:Below w.heap.size w (W5.setRow w.heap.size ((sectB p y).map b8).toArray):=below_setRow hB5' (Nat.le_refl _) _
  generalize W5.setRow w.heap.size ((sectB p y).map b8).toArray=W6 at *
  clear hb5 hB5 hin5 own5 hsp C5 hB5' hb4 hB4 hp4 own4 hin4 hb3 hB3 hp3
  have h64:((sectB p y).map b8).toArray.size=64:=by
    have:=HP.out
    simp[sectB_length];omega
  have hRow:RowTy Tryz.prog 220 ((sectB p y).map b8).toArray.size:=by rw[h64];exact rowSector
  clear h64
  go_wp2_with (first
    | (refine wp_loadW rfl 220 (.tmp 4) rfl w.heap.size rfl hRow hb6 rfl ?_)
    | (refine wp_storeW rfl 220 (.tmp 4) (.tmp 18) rfl w.heap.size rfl rfl hRow hb6 rfl rfl (b8_one _) ?_))
  have hself:W6.setRow w.heap.size ((sectB p y).map b8).toArray=W6:=setRow_self W6 _ _ _ _ hb6
  rw[hself]
  exact bodyPost_ret_by (results_cellW 4 rfl rfl hRow hb6 rfl) rfl ⟨rfl,hB6⟩
def frCells (e:Nat)(i p:Int)(f:Bool)(z:Int)(n:Nat)(A:Option Addr)(len k:Nat):Array Value:=#[.int .u64 (e:Int),.int .i64 i,.int .i64 p,.bool f,.int .i64 z,.int .u32 (n:Int),.slice A len k]
def frOk (len:Nat)(i p:Int)(f:Bool)(z:Int):Bool:=decide (len=512) && isIn 0 2000 [i] && isIn 0 2000 [p,z] && (f || z == 0)
theorem frOk_iff (len:Nat)(i p:Int)(f:Bool)(z:Int):frOk len i p f z=true↔len=512/\(0<=i/\i<=2000)/\(0<=p/\p<=2000)/\(0<=z/\z<=2000)/\(f=true∨z=0):=by
  simp[frOk,isIn_one,isIn_two,and_assoc]
theorem rowFrame:RowTy Tryz.prog 155 7:=⟨⟨_,Tryz.underlying155,rfl⟩,by kernel_rfl⟩
theorem InN.two (W:World)(x y:Int):InN (W.alloc (.cells #[.int .i64 x,.int .i64 y] 3)) (some ⟨W.heap.size,0,none⟩) [x,y]:=⟨fun _=>⟨_,_,rfl,fun j hj=>by
  rw[(BlkIs.new W 3 #[.int .i64 x,.int .i64 y]).cell]
  rcases(show j=0∨j=1 from by simp at hj;omega) with rfl|rfl<;>rfl⟩⟩
theorem withinTwo_gives (W:World)(lo hi x y:Int) :
    Calls Tryz.prog 164 #[.int .i64 lo,.int .i64 hi,.slice (some ⟨W.heap.size,0,none⟩) 2 2] (W.alloc (.cells #[.int .i64 x,.int .i64 y] 3)) fun e w'=>e = .returned (.bool (isIn lo hi [x,y]))/\Below W.heap.size W w' :=
  (within_gives (W.alloc (.cells #[.int .i64 x,.int .i64 y] 3)) (some ⟨W.heap.size,0,none⟩) 2 [x,y] (InN.two W x y) (fun g o e=>by injection e with e;injection e with e1;subst e1;simp) (by simp) lo hi).mono fun e w' ⟨he,hB⟩ =>
    ⟨he,((Below.refl _ W).alloc (Nat.le_refl _) _).trans (hB.mono (by simp))⟩
theorem right_gives (e:Nat)(i p:Int)(f:Bool)(z:Int)(n:Nat)(A:Option Addr)(len k:Nat)(w:World) :
    Calls Tryz.prog 137 #[.agg (frCells e i p f z n A len k)] w fun x w'=>x = .returned (.bool (frOk len i p f z))/\Below w.heap.size w w':=by
  have hb0:=BlkIs.new w 155 (frCells e i p f z n A len k)
  have hB0:Below w.heap.size w (w.alloc (.cells (frCells e i p f z n A len k) 155)):=(Below.refl _ w).alloc (Nat.le_refl _) _
  have H1:=withinOne_gives (w.alloc (.cells (frCells e i p f z n A len k) 155)) 0 2000 i
  rw[World.size_alloc] at H1
  obtain⟨v,hv⟩:∃v,v=frOk len i p f z:=⟨_,rfl⟩
  rw[<-hv]
  unfold frOk at hv
  have hV:=Lib.hid hv
  clear hv
  unfold frCells at *
  by_cases hl:len=512
  · have hq:((len:Int) == 512)=true:=by simp;omega
    generalize hq1:isIn 0 2000 [i]=b1 at *
    cases b1 with
    | false =>
      have ev:v=false:=by rw[hV.out];simp
      subst ev
      clear hV hl
      go_enter Tryz.func137,Tryz.ntmps137
      go_wp2_with (go_at_call 164;refine H1.mono ?_;rintro x w1 ⟨rfl,hB⟩)
      go_ret
      exact⟨rfl,hB0.trans (hB.mono (by simp))⟩
    | true =>
      have ev:v=(isIn 0 2000 [p,z] && (f || z == 0)):=by rw[hV.out];simp[hl]
      clear hV hl
      generalize hq2:isIn 0 2000 [p,z]=b2 at *
      have H2:=fun W=>withinTwo_gives W 0 2000 p z
      rw[hq2] at H2
      clear hq1 hq2
      have EV:=Lib.hid ev
      clear ev
      cases b2 with
      | false =>
        have ev:v=false:=by rw[EV.out];simp
        subst ev
        clear EV
        go_enter Tryz.func137,Tryz.ntmps137
        go_wp2_with fail
        refine H1.mono ?_
        rintro x w1 ⟨rfl,hB⟩
        have hb1:=hb0.below hB (by simp)
        have hB1:=hB0.trans (hB.mono (by simp))
        have hc2:w1.cell? ⟨w.heap.size,2,none⟩=some (.int .i64 p):=by rw[hb1.cell];rfl
        have hc4:w1.cell? ⟨w.heap.size,4,none⟩=some (.int .i64 z):=by rw[hb1.cell];rfl
        clear hB hb0 hb1 hB0 H1
        go_wp2_with (go_at_call 164;refine(H2 _).mono ?_;rintro x w2 ⟨rfl,hB⟩)
        go_ret
        exact⟨rfl,hB1.trans (hB.mono hB1.size)⟩
      | true =>
        have ev:v=(f || z == 0):=by rw[EV.out];simp
        clear EV
        have hz:f=false->∃q,(z == 0)=q/\v=q:=fun h=>⟨_,rfl,by rw[ev,h];rfl⟩
        cases f with
        | true =>
          replace ev:v=true:=by rw[ev];rfl
          subst ev
          clear hz
          go_enter Tryz.func137,Tryz.ntmps137
          go_wp2_with fail
          refine H1.mono ?_
          rintro x w1 ⟨rfl,hB⟩
          have hb1:=hb0.below hB (by simp)
          have hB1:=hB0.trans (hB.mono (by simp))
          have hc2:w1.cell? ⟨w.heap.size,2,none⟩=some (.int .i64 p):=by rw[hb1.cell];rfl
          have hc4:w1.cell? ⟨w.heap.size,4,none⟩=some (.int .i64 z):=by rw[hb1.cell];rfl
          clear hB hb0 hB0 H1
          go_wp2_with fail
          refine(H2 _).mono ?_
          rintro x w2 ⟨rfl,hB⟩
          have hb2:=hb1.below hB hb1.lt
          have hB2:=hB1.trans (hB.mono hB1.size)
          have hc3:w2.cell? ⟨w.heap.size,3,none⟩=some (.bool true):=by rw[hb2.cell];rfl
          clear hB hb1 hB1 hc2 hc4
          go_wp2
          go_ret
          exact⟨rfl,hB2⟩
        | false =>
          obtain⟨q,hq3,rfl⟩:=hz rfl
          clear ev hz
          go_enter Tryz.func137,Tryz.ntmps137
          go_wp2_with fail
          refine H1.mono ?_
          rintro x w1 ⟨rfl,hB⟩
          have hb1:=hb0.below hB (by simp)
          have hB1:=hB0.trans (hB.mono (by simp))
          have hc2:w1.cell? ⟨w.heap.size,2,none⟩=some (.int .i64 p):=by rw[hb1.cell];rfl
          have hc4:w1.cell? ⟨w.heap.size,4,none⟩=some (.int .i64 z):=by rw[hb1.cell];rfl
          clear hB hb0 hB0 H1
          go_wp2_with fail
          refine(H2 _).mono ?_
          rintro x w2 ⟨rfl,hB⟩
          have hb2:=hb1.below hB hb1.lt
          have hB2:=hB1.trans (hB.mono hB1.size)
          have hc3:w2.cell? ⟨w.heap.size,3,none⟩=some (.bool false):=by rw[hb2.cell];rfl
          have hc4:w2.cell? ⟨w.heap.size,4,none⟩=some (.int .i64 z):=by rw[hb2.cell];rfl
          clear hB hb1 hB1 hc2
          go_wp2
          go_ret
          exact⟨rfl,hB2⟩
  · have hq:((len:Int) == 512)=false:=by simp;omega
    have ev:v=false:=by rw[hV.out];simp[hl]
    subst ev
    clear hV hl
    go_enter Tryz.func137,Tryz.ntmps137
    go_wp2
    go_ret
    exact⟨rfl,hB0⟩
theorem flag1_gives (w:World)(c:UInt8):Calls Tryz.prog 193 #[.int .u8 (c.toNat:Int)] w fun x w'=>x = .returned (.func (.func 194) #[] #[.pointer (some ⟨w.heap.size,0,none⟩)])/\w'=w.alloc (.cells #[.int .u8 (c.toNat:Int)] 5):=by
  go_enter Tryz.func193,Tryz.ntmps193
  go_wp2
  go_ret
  exact⟨rfl,rfl⟩
theorem flag11_gives (w:World)(g:Nat)(c:UInt8)(hb:BlkIs w g 5 #[.int .u8 (c.toNat:Int)]):Calls Tryz.prog 194 #[.pointer (some ⟨g,0,none⟩)] w (GivesB w [c]):=by
  have hc:=hb.boxed
  go_enter Tryz.func194,Tryz.ntmps194
  go_wp2
  go_ret
  refine⟨_,rfl,?_,(Below.refl _ _).alloc (Nat.le_refl _) _⟩
  exact World.ownsRow_lit w #[.int .u8 (c.toNat:Int)] 1 (Nat.le_refl _) (by unfold maxLen;omega) rfl
def FlagsAt (w:World)(v:Value):Prop:=∃r g0 g1 clock,v = .map (some r)/\MapIs w r #[⟨.bool false,.func (.func 194) #[] #[.pointer (some ⟨g0,0,none⟩)],0⟩,⟨.bool true,.func (.func 194) #[] #[.pointer (some ⟨g1,0,none⟩)],1⟩] clock /\
  BlkIs w g0 5 #[.int .u8 0]/\BlkIs w g1 5 #[.int .u8 1]
theorem FlagsAt.below {w w':World}{v:Value}(h:FlagsAt w v)(hB:Below w.heap.size w w'):FlagsAt w' v:=by
  obtain⟨r,g0,g1,clock,hv,h1,h2,h3⟩:=h
  exact⟨r,g0,g1,clock,hv,h1.below hB h1.lt,h2.below hB h2.lt,h3.below hB h3.lt⟩
theorem key_bool (b:Bool):MapKept.IsKey .bool (.bool b):=trivial
theorem flags_gives (w:World):Calls Tryz.prog 170 #[] w fun x w'=>∃v,x = .returned v/\FlagsAt w' v/\Below w.heap.size w w':=by
  have F0:∀W,Calls Tryz.prog 193 #[.int .u8 0] W fun x w'=>x = .returned (.func (.func 194) #[] #[.pointer (some ⟨W.heap.size,0,none⟩)])/\w'=W.alloc (.cells #[.int .u8 0] 5):=fun W=>flag1_gives W 0
  have F1:∀W,Calls Tryz.prog 193 #[.int .u8 1] W fun x w'=>x = .returned (.func (.func 194) #[] #[.pointer (some ⟨W.heap.size,0,none⟩)])/\w'=W.alloc (.cells #[.int .u8 1] 5):=fun W=>flag1_gives W 1
  have hu:=Tryz.underlying257
  have hk:=Tryz.underlying4
  go_enter Tryz.func170,Tryz.ntmps170
  go_wp2_with (first
    | (refine wp_makeMap rfl rfl ?_;intro hm1;have hB1:Below w.heap.size w (w.alloc (.map #[] 0)):=(Below.refl _ w).alloc (Nat.le_refl _) _)
    | (go_at_call 193;(with_reducible refine(F0 _).mono ?_);rintro x w2 ⟨rfl,rfl⟩;have hm2:=hm1.below ((Below.refl _ _).alloc (Nat.le_refl _) (.cells #[.int .u8 0] 5)) hm1.lt;have hg2:=BlkIs.new (w.alloc (.map #[] 0)) 5 #[.int .u8 0];have hB2:=hB1.alloc hB1.size (.cells #[.int .u8 0] 5))
    | (go_at_call 193;(with_reducible refine(F1 _).mono ?_);rintro x w4 ⟨rfl,rfl⟩;have hm4:=hm3.below ((Below.refl _ _).alloc (Nat.le_refl _) (.cells #[.int .u8 1] 5)) hm3.lt;have hg4:=hg3.alloc (.cells #[.int .u8 1] 5);have hq4:=BlkIs.new w3 5 #[.int .u8 1];have hB4:=hB3.alloc hB3.size (.cells #[.int .u8 1] 5))
    | (revert hm2;intro hm2;refine wp_put_new (by rfl) (.tmp 2) (.const (.bool false)) (.tmp 4) (.inl (by rfl)) hu hk (key_bool false) (by rfl) (by rfl) (by rfl) hm2 (by rfl) ?_;intro w3 hm3 hr3;have hg3:=hg2.grownMap hm2 hr3;have hB3:Below w.heap.size w w3:=hB2.trans (grown_below hr3 hB2.size (fun r hr=>by injection hr with hr;omega));clear hm1 hm2 hg2)
    | (revert hm4;intro hm4;refine wp_put_new (by rfl) (.tmp 2) (.const (.bool true)) (.tmp 6) (.inl (by rfl)) hu hk (key_bool true) (by rfl) (by rfl) (by rfl) hm4 (by rfl) ?_;intro w5 hm5 hr5;have hg5:=hg4.grownMap hm4 hr5;have hq5:=hq4.grownMap hm4 hr5;have hB5:Below w.heap.size w w5:=hB4.trans (grown_below hr5 hB4.size (fun r hr=>by injection hr with hr;omega))))
  go_ret
  rw[World.size_alloc] at hg5
  exact⟨_,rfl,⟨_,_,_,_,rfl,hm5,hg5,hq5⟩,hB5⟩
namespace Reg
variable {P:Program}{ops:Array Oper}
inductive Src where
  | slot (t:Tmp)
  | given (v:Value)
structure Stage where
  i:Option Nat
  s:Src
  p:Value->World->Prop
  b:Value->Option Nat
  st:∀v w w',p v w->(∀k,b v=some k->w'.heap[k]? = w.heap[k]?)->p v w'
  lt:∀v w k,p v w->b v=some k->k<w.heap.size
abbrev Ghost:=Nat->Option Nat
def upd (g:Ghost)(k:Nat)(b:Option Nat):Ghost:=fun j=>if j=k then b else g j
def Lt (g:Ghost)(w:World):Prop:=∀k b,g k=some b->b<w.heap.size
def edge (ops:Array Oper)(i j:Nat):Bool:=match ops[i]? with|some o=>o.after.toList.any fun e=>Region.binds .any e && e.on == j|none=>false
end Reg
namespace Reg
variable {P:Program}{ops:Array Oper}
section rules
variable {a0:Act}{FS:Ghost->Tmp->Value->World->Prop}{B:Nat}{w00:World}{cs:List (List Stage)}{i:Nat}{o:Oper}
def behind (ops:Array Oper)(i:Nat):Option Nat->Bool
  | none=>true
  | some j=>edge ops i j
end rules
end Reg
namespace Reg
variable {L:List (Nat×Fact)}{ops:Array Oper}{w0:World}{o:Oper}{P:Program}
theorem l_loadV (x:Operand)(p:Addr)(T:TypeId)(v:Value)(ho:o.op = .load T x)(hx:Has ops (FSof L) o x (.pointer (some p)))(hload:∀w,Grow w0 w->(loadVar T p).run P w = .ok v w)(hd:FD L o.dst = .val v):RunOk P ops (FSof L) w0 o :=
  l_run1W x (.val v) _ hx (fun ρ w hg h=>⟨v,w,by simp only[execOp,ho,h,Instr.loadAt,Instr.sureAddr,Sem.run_bind,Sem.run_pure,Result.andThen_ok,hload w hg],Grow.refl _,rfl⟩) hd
theorem l_s2a (x:Operand)(g q n c:Nat)(hn:64<=n)(ho:o.op = .sliceToArrayPointer 220 x)(hx:Has ops (FSof L) o x (.slice (some ⟨g,q,none⟩) n c))(hd:FD L o.dst = .val (.pointer (some ⟨g,q,none⟩))):RunOk Tryz.prog ops (FSof L) w0 o:=by
  refine run1 x hx (fun ρ w h => ?_) fun _=>fsd hd rfl
  have hn2:¬ n<64:=by omega
  simp[execOp,ho,h,go_sem,Instr.arrayAt,run_underlying Tryz.underlying220,Result.andThen,hn2]
theorem l_eqArr (x y:Operand)(T:TypeId)(xs ys:List UInt8)(hx1:xs.length=64)(hy1:ys.length=64)(ho:o.op = .binOp .eql 220 x y T)(hx:Has ops (FSof L) o x (.agg (xs.map b8).toArray))(hy:Has ops (FSof L) o y (.agg (ys.map b8).toArray))(hd:FD L o.dst = .val (.bool (xs == ys))):RunOk Tryz.prog ops (FSof L) w0 o:=by
  refine run2 x y hx hy (fun ρ w h1 h2 => ?_) fun _=>fsd hd rfl
  have hr:(binOp .eql 220 (.agg (xs.map b8).toArray) (.agg (ys.map b8).toArray)).run Tryz.prog w = .ok (.bool (xs == ys)) w :=
    run_eql_bytes w 220 5 64 Tryz.underlying220 Tryz.underlying5 (fun w=>by simp[go_sem]) xs ys hx1 hy1
  have hm:Tryz.prog.eqGuardType Tryz.prog.depth 220=false:=by kernel_rfl
  simp only[execOp,ho,h1,h2,Sem.run_bind,run_eqGuard_agg w .eql 220 x y _ _ hm,Result.andThen_ok,hr,Sem.run_pure]
end Reg
namespace Reg
inductive GFact where
  | val (v:Value)
  | any
  | gp (p:Ghost->Value->World->Prop) (h1:∀g v w w',p g v w->Grow w w'->p g v w') (h2:∀g k gb v w w',Lt g w->w.grownBy w' (g k)->(gb=g k∨∀b,gb=some b->w.heap.size<=b)->p g v w->p (upd g k gb) v w')
def resX (l:List UInt8)(g:Ghost)(v:Value)(w:World):Prop:=∃A c,v = .slice A l.length c/\InB w w.heap.size A c l/\∀ad,A=some ad->ad.block<w.heap.size/\∀k,g k≠some ad.block
theorem resX_grow (l:List UInt8):∀g v w w',resX l g v w->Grow w w'->resX l g v w':=by
  rintro g v w w' ⟨A,c,rfl,h,ha⟩ hg
  exact⟨A,c,rfl,(h.below hg).more hg.size,fun ad e=>⟨Nat.lt_of_lt_of_le (ha ad e).1 hg.size,(ha ad e).2⟩⟩
theorem resX_stage (l:List UInt8):∀g k gb v w w',Lt g w->w.grownBy w' (g k)->(gb=g k∨∀b,gb=some b->w.heap.size<=b)->resX l g v w->resX l (upd g k gb) v w':=by
  rintro g k gb v w w' hlt hg hb ⟨A,c,rfl,h,ha⟩
  refine⟨A,c,rfl,⟨h.le,h.max,h.nil,fun h0 => ?_⟩,fun ad e=>⟨Nat.lt_of_lt_of_le (ha ad e).1 hg.size,fun j => ?_⟩⟩
  · obtain⟨b,o,hA,hb',hc⟩:=h.lies h0
    refine⟨b,o,hA,Nat.lt_of_lt_of_le hb' hg.size,fun j hj => ?_⟩
    rw[<-hc j hj]
    exact World.cell?_of_block (hg.block b hb' (fun e=>(ha _ hA).2 k e.symm))
  · unfold upd
    split
    · rcases hb with rfl|hb
      · exact(ha ad e).2 k
      · intro e2
        have h3:=hb _ e2
        have:=(ha ad e).1
        omega
    · exact(ha ad e).2 j
abbrev GFact.res (l:List UInt8):GFact:=.gp (resX l) (resX_grow l) (resX_stage l)
section rules
variable {ops:Array Oper}{a0:Act}{GL:List (Nat×GFact)}{B:Nat}{w00:World}{cs:List (List Stage)}{i:Nat}{o:Oper}{P:Program}
end rules
end Reg
namespace Reg
variable {P:Program}{ops:Array Oper}
def tailOk (ops:Array Oper)(m:Nat):Bool:=(List.range ops.size).all fun i=>decide (i<m) || (List.range i).all fun j=>edge ops i j
theorem tail_edge {m i j:Nat}(h:tailOk ops m=true)(hi:i<ops.size)(hm:m<=i)(hj:j<i):edge ops i j=true:=by
  unfold tailOk at h
  rw[List.all_eq_true] at h
  have:=h i (by simpa using hi)
  simp only[Bool.or_eq_true,decide_eq_true_eq,List.all_eq_true] at this
  rcases this with h|h
  · omega
  · exact h j (by simpa using hj)
theorem listed_of_edge {i j:Nat}{o:Oper}{listed:Array Bool}(he:edge ops i j=true)(ho:ops[i]? = some o)(hed:∀e∈o.after.toList,Region.binds .any e=true->listed.getD e.on false=true):listed.getD j false=true:=by
  simp only[edge,ho,List.any_eq_true,Bool.and_eq_true,beq_iff_eq] at he
  obtain⟨e,hm,hb,rfl⟩:=he
  exact hed e hm hb
def StepQ (P:Program)(ops:Array Oper)(Q:Exit->Act->World->Prop)(Inv:Array Bool->Act->World->Prop)(i:Nat)(o:Oper):Prop :=
  ∀(listed:Array Bool) (a:Act) (w:World) (K:Act->World->Prop),listed.size=ops.size->listed.getD i true=false->(∀e∈o.after.toList,Region.binds .any e=true->listed.getD e.on false=true) ->
    Inv listed a w->(∀a' w',Inv (listed.setIfInBounds i true) a' w'->K a' w') ->
    (if Region.wanted o (yielded ops a.tmps) then o.wp P a w K Q∨(o.asks P a w/\LetsOut Q) else K (a.put o.dst undef) w)
theorem region_invQ (hm:P.follows .mixedOrders=true)(hcov:backs ops=true){id:Nat}{a0:Act}{w0:World}{Q:Exit->Act->World->Prop}(Inv:Array Bool->Act->World->Prop)
    (h0:Inv (Array.replicate ops.size false) a0 w0.drew) (hstep:∀i o,ops[i]? = some o->StepQ P ops Q Inv i o)
    (hend:∀listed a w,listed.size=ops.size->(∀i,i<ops.size->listed.getD i true=true)->Inv listed a w->Q .normal a w) :
    (Code.region id ops true).wp P Q a0 w0:=by
  refine wp_region_any hm ?_
  have key:∀(fuel:Nat) (listed:Array Bool) (a:Act) (w:World),listed.size=ops.size->left listed<=fuel->Inv listed a w->wpAny P .any ops Q fuel listed a w:=by
    intro fuel
    have hdone:∀(listed:Array Bool) (a:Act) (w:World),listed.size=ops.size->Inv listed a w->Region.ready .any ops listed=[]->Q .normal a w:=by
      intro listed a w hs hJ hr
      refine hend listed a w hs ?_ hJ
      intro i
      induction i using Nat.strongRecOn with
      | _ i ih =>
        intro hi
        cases hl:listed.getD i true with
        | true=>rfl
        | false =>
          exfalso
          have:i∈Region.ready .any ops listed:=by
            unfold Region.ready
            simp only[List.mem_filter,List.mem_range,Bool.and_eq_true,Bool.not_eq_true']
            refine⟨hi,hl,?_⟩
            have ho:ops[i]? = some ops[i]:=Array.getElem?_eq_getElem hi
            simp only[ho,Option.map_some,Option.getD_some]
            rw[Array.all_eq_true_iff_forall_mem]
            intro e he
            have hc:=backs_spec hcov ho e (Array.mem_toList_iff.2 he)
            cases hb:Region.binds .any e with
            | false=>simp
            | true =>
              have hlt:=hc hb
              have h1:=ih e.on hlt (by omega)
              have h2:e.on<listed.size:=by omega
              simp only[Array.getD,h2,dif_pos] at h1 ⊢
              simpa using h1
          rw[hr] at this
          cases this
    induction fuel with
    | zero =>
      intro listed a w hs hf hJ
      have hr:Region.ready .any ops listed=[]:=by
        rcases hr:Region.ready .any ops listed with _|⟨i,r⟩
        · rfl
        · exfalso
          obtain⟨o,ho,hl,_⟩:=ready_mem (ops:=ops) (listed:=listed) (i:=i) (by rw[hr];simp)
          have hi:i<listed.size:=by rw[hs];exact(Array.getElem?_eq_some_iff.1 ho).1
          have hmem:listed[i]∈listed.toList.filter (! ·):=by
            rw[List.mem_filter]
            refine⟨by simp,?_⟩
            have hl':listed[i]=false:=by simpa[Array.getD,hi] using hl
            simp[hl']
          have:0<left listed:=List.length_pos_of_mem hmem
          omega
      exact⟨hr,hdone listed a w hs hJ hr⟩
    | succ fuel ih =>
      intro listed a w hs hf hJ
      refine⟨hdone listed a w hs hJ,fun i hi => ?_⟩
      obtain⟨o,ho,hl,hedges⟩:=ready_mem hi
      have hisz:i<listed.size:=by rw[hs];exact(Array.getElem?_eq_some_iff.1 ho).1
      have hnext:∀a' w',Inv (listed.setIfInBounds i true) a' w'->wpAny P .any ops Q fuel (listed.setIfInBounds i true) a' w':=by
        intro a' w' hv
        refine ih _ _ _ (by simpa using hs) ?_ hv
        have hl':listed[i]=false:=by simpa[Array.getD,hisz] using hl
        have:left (listed.setIfInBounds i true)<left listed:=by
          unfold left
          rw[Array.toList_setIfInBounds]
          have e1:listed.toList=listed.toList.take i++false::listed.toList.drop (i+1):=by
            have h3:listed.toList[i]'(by simpa using hisz)=false:=by simpa using hl'
            conv=>lhs;rw[<-List.take_append_drop i listed.toList,List.drop_eq_getElem_cons (by simpa using hisz),h3]
          rw[List.set_eq_take_append_cons_drop,if_pos (by simpa using hisz)]
          conv=>rhs;rw[e1]
          simp
        omega
      have:=hstep i o ho listed a w (fun a' w'=>wpAny P .any ops Q fuel (listed.setIfInBounds i true) a' w') hs hl hedges hJ hnext
      unfold wpOp
      simp only[ho]
      exact this
  refine key ops.size _ a0 _ (by simp) ?_ h0
  unfold left
  simp
def Rest (P:Program)(ops:Array Oper)(Q:Exit->Act->World->Prop)(i:Nat)(a:Act)(w:World):Prop:=wpList P ops Q (ops.toList.drop i) a w
theorem region_tail (hm:P.follows .mixedOrders=true)(hcov:backs ops=true){id:Nat}{a0:Act}{w0:World}{Q:Exit->Act->World->Prop}(n:Nat)(hn:a0.tmps.size=n)(hdst:dstsIn ops n=true)(m:Nat)(hmt:m<=ops.size)(ht:tailOk ops m=true)(hgd:((ops.toList.drop m).all fun o=>o.guard.isNone)=true)(D:List Nat)(hD:dstsAre (ops.extract 0 m) D=true)
    (FS:Tmp->Value->World->Prop) (hstab:∀t v w w',FS t v w->Grow w w'->FS t v w') (hah:(ops.toList.take m).all (fun o=>(o.looksAt ops).all (ahead ops o))=true)
    (hstart:∀t,(∀o∈ops.toList.take m,o.dst≠some t)->FS t (a0.eval (.tmp t)) w0) (hok:AllOk P ops FS w0 (ops.toList.take m))
    (hend:∀a w,a.tmps.size=n->a.defers=a0.defers->Grow w0 w->(∀t,FS t (a.eval (.tmp t)) w)->(∀t,D.contains t=false->a.eval (.tmp t)=a0.eval (.tmp t))->Rest P ops Q m a w) :
    (Code.region id ops true).wp P Q a0 w0:=by
  have hdst':∀o∈ops.toList,∀d,o.dst=some d->d<n:=by
    intro o ho d hd
    unfold dstsIn at hdst
    rw[List.all_eq_true] at hdst
    have:=hdst o ho
    simpa[hd] using this
  have hD':∀(i:Nat) (o:Oper),i<m->ops[i]? = some o->∀d,o.dst=some d->D.contains d=true:=by
    intro i o him ho d hd
    unfold dstsAre at hD
    rw[List.all_eq_true] at hD
    have hmem:o∈(ops.extract 0 m).toList:=by
      simp only[Array.toList_extract,List.extract_eq_take_drop,List.drop_zero,Nat.sub_zero]
      have:(ops.toList.take m)[i]? = some o:=by
        rw[List.getElem?_take,if_pos him]
        simpa using ho
      exact List.mem_of_getElem? this
    have:=hD o hmem
    simpa[hd] using this
  let J1:Array Bool->Act->World->Prop:=fun listed a w=>a.tmps.size=n/\a.defers=a0.defers/\Grow w0 w/\(∀t,(∀(j:Nat) (p:Oper),j<m->ops[j]? = some p->p.dst=some t->listed.getD j true=true)->FS t (a.eval (.tmp t)) w)/\(∀t,D.contains t=false->a.eval (.tmp t)=a0.eval (.tmp t))
  let Inv:Array Bool->Act->World->Prop:=fun listed a w=>((∀j,m<=j->j<ops.size->listed.getD j true=false)/\J1 listed a w)∨∃i,m<i/\i<=ops.size/\(∀j,j<i->listed.getD j true=true)/\(∀j,i<=j->j<ops.size->listed.getD j true=false)/\Rest P ops Q i a w
  have hrest:∀listed a w,(∀j,j<m->listed.getD j true=true)->J1 listed a w->Rest P ops Q m a w:=by
    rintro listed a w hall ⟨h1,h2,h3,h4,h5⟩
    exact hend a w h1 h2 h3 (fun t=>h4 t fun j p hj _ _=>hall j hj) h5
  refine region_invQ hm hcov Inv ?_ ?_ ?_
  · left
    refine⟨fun j _ hj=>by simp[Array.getD,hj],hn,rfl,Grow.drew w0,?_,fun _ _=>rfl⟩
    intro t ht
    refine hstab t _ w0 _ (hstart t ?_) (Grow.drew w0)
    intro o ho hd
    obtain⟨i,hi,rfl⟩:=List.getElem_of_mem ho
    have hi':i<m/\i<ops.size:=by simp at hi;omega
    have:=ht i ops[i] hi'.1 (Array.getElem?_eq_getElem hi'.2) (by simpa using hd)
    simp[Array.getD,hi'.2] at this
  · intro i o ho listed a w K hs hl hedges hInv hK
    have hisz0:i<ops.size:=(Array.getElem?_eq_some_iff.1 ho).1
    have hisz:i<listed.size:=by omega
    have hom:o∈ops.toList:=List.mem_of_getElem? (by simpa using ho)
    have hff:∀j,j<ops.size->(listed.getD j true=true↔listed.getD j false=true):=by
      intro j hj
      have:j<listed.size:=by omega
      simp[Array.getD,this]
    have hset:∀j,j<ops.size->j≠i->(listed.setIfInBounds i true).getD j true=listed.getD j true:=by
      intro j _ hji
      simp[Array.getD_eq_getD_getElem?,Ne.symm hji]
    have hseti:(listed.setIfInBounds i true).getD i true=true:=by
      simp[Array.getD_eq_getD_getElem?,hisz]
    by_cases him:i<m
    · rcases hInv with⟨hno,h1,h2,h3,h4,h5⟩|⟨q,hq,_,hall,_⟩
      · have hlook:∀t,(o.looksAt ops).contains t=true->FS t (a.eval (.tmp t)) w:=by
          intro t htl
          refine h4 t ?_
          intro j p hj hp hd
          have hmem:o∈ops.toList.take m:=by
            have:(ops.toList.take m)[i]? = some o:=by
              rw[List.getElem?_take,if_pos him]
              simpa using ho
            exact List.mem_of_getElem? this
          rw[List.all_eq_true] at hah
          have h6:=hah o hmem
          rw[List.all_eq_true] at h6
          obtain⟨e,he,hb,rfl⟩:=ahead_spec (h6 t (by simpa using htl)) hp hd
          rw[hff _ (Array.getElem?_eq_some_iff.1 hp).1]
          exact hedges e he hb
        have hmem:o∈ops.toList.take m:=by
          have:(ops.toList.take m)[i]? = some o:=by
            rw[List.getElem?_take,if_pos him]
            simpa using ho
          exact List.mem_of_getElem? this
        refine AllOk.get hok o hmem a w K Q h3 hlook ?_
        intro v w' hg hv
        refine hK _ w' (.inl ⟨?_,?_,?_,h3.trans hg,?_,?_⟩)
        · intro j hmj hj
          rw[hset j hj (by omega)]
          exact hno j hmj hj
        · cases hd:o.dst with
          | none=>simpa[Act.put] using h1
          | some d=>simpa[Act.put] using h1
        · cases hd:o.dst with
          | none=>simpa[Act.put] using h2
          | some d=>simpa[Act.put] using h2
        · intro t htk
          by_cases hdt:o.dst=some t
          · rw[hdt] at hv ⊢
            rw[eval_put_same (by rw[h1];exact hdst' o hom t hdt)]
            exact hv
          · have:=hstab t _ w w' (h4 t fun j p hj hp hd=>by
              have h7:=htk j p hj hp hd
              have hji:j≠i:=by
                intro e
                subst e
                rw[ho] at hp
                injection hp with hp
                subst hp
                exact hdt hd
              rw[hset j (Array.getElem?_eq_some_iff.1 hp).1 hji] at h7
              exact h7) hg
            cases hd:o.dst with
            | none=>simpa[Act.put] using this
            | some d =>
              rw[eval_put_other (by intro e;subst e;exact hdt hd)]
              exact this
        · intro t htD
          cases hd:o.dst with
          | none=>simpa[Act.put] using h5 t htD
          | some d =>
            rw[eval_put_other (by intro e;subst e;rw[hD' i o him ho t hd] at htD;cases htD)]
            exact h5 t htD
      · exfalso
        rw[hall i (by omega)] at hl
        cases hl
    · have hm':m<=i:=by omega
      have hbefore:∀j,j<i->listed.getD j true=true:=by
        intro j hj
        rw[hff j (by omega)]
        exact listed_of_edge (tail_edge ht hisz0 hm' hj) ho hedges
      have hR:Rest P ops Q i a w/\(∀j,i<=j->j<ops.size->listed.getD j true=false):=by
        rcases hInv with⟨hno,hJ⟩|⟨q,hq,hqs,hall,hnone,hR⟩
        · have:i=m:=by
            rcases Nat.lt_or_ge m i with h|h
            · have h8:=hbefore m h
              rw[hno m (Nat.le_refl _) (by omega)] at h8
              cases h8
            · omega
          subst this
          exact⟨hrest listed a w hbefore hJ,hno⟩
        · have:i=q:=by
            rcases Nat.lt_trichotomy i q with h|h|h
            · rw[hall i h] at hl;cases hl
            · exact h
            · have h8:=hbefore q h
              rw[hnone q (Nat.le_refl _) (by omega)] at h8
              cases h8
          subst this
          exact⟨hR,hnone⟩
      obtain⟨hR,hnone⟩:=hR
      have hdrop:ops.toList.drop i=o::ops.toList.drop (i+1):=by
        have hi2:i<ops.toList.length:=by simpa using hisz0
        rw[List.drop_eq_getElem_cons hi2]
        congr 1
        have:ops.toList[i]? = some o:=by simpa using ho
        rw[List.getElem?_eq_getElem hi2] at this
        injection this
      unfold Rest at hR
      rw[hdrop] at hR
      have hgn:o.guard=none:=by
        rw[List.all_eq_true] at hgd
        have hmem:o∈ops.toList.drop m:=by
          have:(ops.toList.drop m)[i - m]? = some o:=by
            rw[List.getElem?_drop,show m+(i - m)=i from by omega]
            simpa using ho
          exact List.mem_of_getElem? this
        have:=hgd o hmem
        cases hg:o.guard with
        | none=>rfl
        | some x=>rw[hg] at this;cases this
      have hw:Region.wanted o (yielded ops a.tmps)=true:=by simp[Region.wanted,hgn]
      simp only[wpList,hw,if_true] at hR
      rw[if_pos hw]
      refine Or.imp ?_ (fun x=>x) hR
      refine Oper.wp_mono ?_
      intro a' w' h9
      refine hK a' w' (.inr ⟨i+1,by omega,by omega,?_,?_,h9⟩)
      · intro j hj
        by_cases e:j=i
        · subst e
          exact hseti
        · rw[hset j (by omega) e]
          exact hbefore j (by omega)
      · intro j hj hjs
        rw[hset j hjs (by omega)]
        exact hnone j (by omega) hjs
  · rintro listed a w hs hall (⟨hno,hJ⟩|⟨q,hq,hqs,hallq,hnone,hR⟩)
    · have hR:=hrest listed a w (fun j hj=>hall j (by omega)) hJ
      rcases Nat.lt_or_ge m ops.size with h|h
      · have:=hall m h
        rw[hno m (Nat.le_refl _) h] at this
        cases this
      · unfold Rest at hR
        rw[List.drop_of_length_le (by simpa using h)] at hR
        exact hR
    · rcases Nat.lt_or_ge q ops.size with h|h
      · have:=hall q h
        rw[hnone q (Nat.le_refl _) h] at this
        cases this
      · unfold Rest at hR
        rw[List.drop_of_length_le (by simpa using h)] at hR
        exact hR
theorem region_tail_facts (hm:P.follows .mixedOrders=true)(hcov:backs ops=true){id:Nat}{a0:Act}{w0:World}{Q:Exit->Act->World->Prop}(n:Nat)(hn:a0.tmps.size=n)(hdst:dstsIn ops n=true)(m:Nat)(hmt:m<=ops.size)(ht:tailOk ops m=true)(hgd:((ops.toList.drop m).all fun o=>o.guard.isNone)=true)(D:List Nat)(hD:dstsAre (ops.extract 0 m) D=true)
    (V W:List (Nat×Fact)) (hV:StartOk a0 w0 V) (hW:(W.all fun p=>written (ops.extract 0 m) p.1)=true) (hah:(ops.toList.take m).all (fun o=>(o.looksAt ops).all (ahead ops o))=true) (hok:AllOk P ops (FSof (V++W)) w0 (ops.toList.take m))
    (hend:∀a w,a.tmps.size=n->a.defers=a0.defers->Grow w0 w->(∀t,FSof (V++W) t (a.eval (.tmp t)) w)->(∀t,D.contains t=false->a.eval (.tmp t)=a0.eval (.tmp t))->Rest P ops Q m a w) :
    (Code.region id ops true).wp P Q a0 w0:=by
  refine region_tail hm hcov n hn hdst m hmt ht hgd D hD (FSof (V++W)) (FSof.stable _) hah ?_ hok hend
  intro t h
  refine start_fact (ops:=ops.extract 0 m) V W hV hW t ?_
  intro o ho
  refine h o ?_
  simpa[Array.toList_extract,List.extract_eq_take_drop] using ho
end Reg
namespace Reg
variable {L:List (Nat×Fact)}{ops:Array Oper}{w0:World}{o:Oper}
theorem l_build6 (t1 t2 t3 t4 t5 t6:Tmp)(l1 l2 l3 l4 l5 l6:List UInt8)(ho:o.op = .buildSlice 259 6 #[(0,.tmp t1),(1,.tmp t2),(2,.tmp t3),(3,.tmp t4),(4,.tmp t5),(5,.tmp t6)])
    (c1:(o.looksAt ops).contains t1=true) (c2:(o.looksAt ops).contains t2=true) (c3:(o.looksAt ops).contains t3=true) (c4:(o.looksAt ops).contains t4=true) (c5:(o.looksAt ops).contains t5=true) (c6:(o.looksAt ops).contains t6=true)
    (f1:factOf L t1 = .res l1) (f2:factOf L t2 = .res l2) (f3:factOf L t3 = .res l3) (f4:factOf L t4 = .res l4) (f5:factOf L t5 = .res l5) (f6:factOf L t6 = .res l6) (hd:FD L o.dst = .pred (Lists [l1,l2,l3,l4,l5,l6]) (lists_stable _)):RunOk Tryz.prog ops (FSof L) w0 o:=by
  intro a w K Q hG hl hK
  have g1:(factOf L t1).holds (a.eval (.tmp t1)) w:=hl t1 c1
  have g2:(factOf L t2).holds (a.eval (.tmp t2)) w:=hl t2 c2
  have g3:(factOf L t3).holds (a.eval (.tmp t3)) w:=hl t3 c3
  have g4:(factOf L t4).holds (a.eval (.tmp t4)) w:=hl t4 c4
  have g5:(factOf L t5).holds (a.eval (.tmp t5)) w:=hl t5 c5
  have g6:(factOf L t6).holds (a.eval (.tmp t6)) w:=hl t6 c6
  rw[f1] at g1
  obtain⟨A1,k1,e1,h1⟩:=g1
  rw[f2] at g2
  obtain⟨A2,k2,e2,h2⟩:=g2
  rw[f3] at g3
  obtain⟨A3,k3,e3,h3⟩:=g3
  rw[f4] at g4
  obtain⟨A4,k4,e4,h4⟩:=g4
  rw[f5] at g5
  obtain⟨A5,k5,e5,h5⟩:=g5
  rw[f6] at g6
  obtain⟨A6,k6,e6,h6⟩:=g6
  have hN:=Lists.new (w:=w) [((A1,k1),l1),((A2,k2),l2),((A3,k3),l3),((A4,k4),l4),((A5,k5),l5),((A6,k6),l6)] (by
    intro x hx
    simp only[List.mem_cons,List.not_mem_nil,or_false] at hx
    rcases hx with rfl|rfl|rfl|rfl|rfl|rfl
    · exact h1
    · exact h2
    · exact h3
    · exact h4
    · exact h5
    · exact h6)
  have key:∀ρ:Operand->Value,ρ (.tmp t1) = .slice A1 l1.length k1->ρ (.tmp t2) = .slice A2 l2.length k2->ρ (.tmp t3) = .slice A3 l3.length k3->ρ (.tmp t4) = .slice A4 l4.length k4->ρ (.tmp t5) = .slice A5 l5.length k5->ρ (.tmp t6) = .slice A6 l6.length k6 ->
      (execOp ρ o).run Tryz.prog w = .ok (.value (.slice (some ⟨w.heap.size,0,none⟩) 6 6)) (w.alloc (.cells #[.slice A1 l1.length k1,.slice A2 l2.length k2,.slice A3 l3.length k3,.slice A4 l4.length k4,.slice A5 l5.length k5,.slice A6 l6.length k6] 44)) :=
    fun ρ h1 h2 h3 h4 h5 h6=>by simp[execOp,ho,h1,h2,h3,h4,h5,h6,go_sem,Result.andThen]
  unfold Oper.wp
  rw[key _ e1 e2 e3 e4 e5 e6]
  exact hK _ _ (Grow.alloc _ _) (fsd hd hN)
theorem l_callVP {P:Program}(f:FuncId)(x:Operand)(t:Tmp)(v1:Value)(p:Value->World->Prop)(hp:∀v w w',p v w->Grow w w'->p v w')(ts:Array TypeId)(ho:o.op = .call { callee:=.value (.func f),args:=#[x,.tmp t],argTypes:=ts })(hent:∀args w,(callFunc f args).run P w = .ok (.enter f args) w)
    (g:Fact) (hx:Has ops (FSof L) o x v1) (hc:(o.looksAt ops).contains t=true) (hF:factOf L t = .pred p hp)
    (hC:∀w u,Grow w0 w->p u w->Calls P f #[v1,u] w fun e w'=>∃v,e = .returned v/\Grow w w'/\g.holds v w') (hd:FD L o.dst=g):RunOk P ops (FSof L) w0 o:=by
  intro a w K Q hG hl hK
  have h':(factOf L t).holds (a.eval (.tmp t)) w:=hl t hc
  rw[hF] at h'
  have e1:=hx a w hl
  have hr:(execOp a.eval o).run P w = .ok (.enter f #[v1,a.eval (.tmp t)]) w:=by
    have ef:a.eval (.func f) = .func (.func f) #[] #[]:=rfl
    have h:=hent #[v1,a.eval (.tmp t)] w
    simp[execOp,ho,resolve,e1,ef,Deferred.ofValue,invoke,h]
  unfold Oper.wp
  rw[hr,Oper.upon_enter]
  refine(hC w _ hG h').mono ?_
  rintro e w' ⟨v,rfl,hg,hf⟩
  exact hK v w' hg (fsd hd hf)
theorem l_runP (t:Tmp)(y:Operand)(p:Value->World->Prop)(hp:∀v w w',p v w->Grow w w'->p v w')(v2:Value)(g:Fact)(hc:(o.looksAt ops).contains t=true)(hF:factOf L t = .pred p hp)(hy:Has ops (FSof L) o y v2){P:Program}
    (hrun:∀(ρ:Operand->Value) (w:World),Grow w0 w->p (ρ (.tmp t)) w->ρ y=v2->∃r w',(execOp ρ o).run P w = .ok (.value r) w'/\Grow w w'/\g.holds r w') (hd:FD L o.dst=g):RunOk P ops (FSof L) w0 o:=by
  intro a w K Q hG hl hK
  have h':(factOf L t).holds (a.eval (.tmp t)) w:=hl t hc
  rw[hF] at h'
  obtain⟨r,w',h1,h2,h3⟩:=hrun a.eval w hG h' (hy a w hl)
  unfold Oper.wp
  rw[h1]
  exact hK r w' h2 (fsd hd h3)
def FlagFn (f:Bool)(v:Value)(w:World):Prop:=∃g,v = .func (.func 194) #[] #[.pointer (some ⟨g,0,none⟩)]/\BlkIs w g 5 #[.int .u8 (((if f then 1 else 0:UInt8)).toNat:Int)]
theorem flagFn_stable (f:Bool):∀v w w',FlagFn f v w->Grow w w'->FlagFn f v w':=by
  rintro v w w' ⟨g,rfl,h⟩ hg
  exact⟨g,rfl,h.below hg h.lt⟩
theorem flagsAt_stable:∀v w w',FlagsAt w v->Grow w w'->FlagsAt w' v:=fun _ _ _ h hg=>h.below hg
theorem run_flag (f:Bool){ρ:Operand->Value}{w:World}{t:Tmp}{y:Operand}(ho:o.op = .lookup 257 (.tmp t) y false)(h:FlagsAt w (ρ (.tmp t)))(hy:ρ y = .bool f):∃r,(execOp ρ o).run Tryz.prog w = .ok (.value r) w/\FlagFn f r w:=by
  obtain⟨r,g0,g1,clock,hv,h1,h2,h3⟩:=h
  cases f with
  | false =>
    have:=run_get (P:=Tryz.prog) Tryz.underlying257 Tryz.underlying4 (key_bool false) h1 (i:=0) rfl
    exact⟨_,by simp[execOp,ho,hv,hy,this,Result.andThen],g0,rfl,h2⟩
  | true =>
    have:=run_get (P:=Tryz.prog) Tryz.underlying257 Tryz.underlying4 (key_bool true) h1 (i:=1) rfl
    exact⟨_,by simp[execOp,ho,hv,hy,this,Result.andThen],g1,rfl,h3⟩
theorem l_callFlag (f:Bool)(t:Tmp)(ts:Array TypeId)(ho:o.op = .call { callee:=.value (.tmp t),args:=#[],argTypes:=ts })(hc:(o.looksAt ops).contains t=true)(hF:factOf L t = .pred (FlagFn f) (flagFn_stable f))(hd:FD L o.dst = .res [if f then 1 else 0]):RunOk Tryz.prog ops (FSof L) w0 o:=by
  intro a w K Q hG hl hK
  have h':(factOf L t).holds (a.eval (.tmp t)) w:=hl t hc
  rw[hF] at h'
  obtain⟨g,hv,hb⟩:=h'
  have hr:(execOp a.eval o).run Tryz.prog w = .ok (.enter 194 #[.pointer (some ⟨g,0,none⟩)]) w:=by
    have h:=enters_of Tryz.func194 (by kernel_rfl) rfl #[.pointer (some ⟨g,0,none⟩)] w
    simp[execOp,ho,resolve,hv,Deferred.ofValue,invoke,h]
  unfold Oper.wp
  rw[hr,Oper.upon_enter]
  refine(gives_res (flag11_gives w g _ hb)).mono ?_
  rintro e w' ⟨v,rfl,hg,hf⟩
  exact hK v w' hg (fsd hd hf)
end Reg
theorem front_gives (e i p z n:Nat)(f:Bool)(A:Option Addr)(k:Nat)(y:List UInt8)(w:World)(hi:i<=2000)(hp:p<=2000)(hz:z<=2000)(hin:InB w w.heap.size A k y)(hy:y.length=512) :
    Calls Tryz.prog 138 #[.agg (frCells e i p f z n A y.length k)] w fun x w'=>x = .returned (.agg ((sectB (partB e i p f z n) y).map b8).toArray)/\Below w.heap.size w w':=by
  have hi32:=conv_3_45 i (by omega)
  have hp32:=conv_3_45 p (by omega)
  have hz32:=conv_3_45 z (by omega)
  have hbf:=(BlkIs.new w 155 (frCells e i p f z n A y.length k)).alloc (.cells #[.int .u8 0,.int .u8 0,.int .u8 0,.int .u8 0,.int .u8 0,.int .u8 0,.int .u8 0,.int .u8 0,.int .u8 0,.int .u8 0,.int .u8 0,.int .u8 0,.int .u8 0,.int .u8 0,.int .u8 0,.int .u8 0,.int .u8 0,.int .u8 0,.int .u8 0,.int .u8 0,.int .u8 0,.int .u8 0,.int .u8 0,.int .u8 0,.int .u8 0,.int .u8 0,.int .u8 0,.int .u8 0,.int .u8 0,.int .u8 0,.int .u8 0,.int .u8 0,.int .u8 0,.int .u8 0,.int .u8 0,.int .u8 0,.int .u8 0,.int .u8 0,.int .u8 0,.int .u8 0,.int .u8 0,.int .u8 0,.int .u8 0,.int .u8 0,.int .u8 0,.int .u8 0,.int .u8 0,.int .u8 0,.int .u8 0,.int .u8 0,.int .u8 0,.int .u8 0,.int .u8 0,.int .u8 0,.int .u8 0,.int .u8 0,.int .u8 0,.int .u8 0,.int .u8 0,.int .u8 0,.int .u8 0,.int .u8 0,.int .u8 0,.int .u8 0] 220)
  have hbs:=BlkIs.new (w.alloc (.cells (frCells e i p f z n A y.length k) 155)) 220 #[.int .u8 0,.int .u8 0,.int .u8 0,.int .u8 0,.int .u8 0,.int .u8 0,.int .u8 0,.int .u8 0,.int .u8 0,.int .u8 0,.int .u8 0,.int .u8 0,.int .u8 0,.int .u8 0,.int .u8 0,.int .u8 0,.int .u8 0,.int .u8 0,.int .u8 0,.int .u8 0,.int .u8 0,.int .u8 0,.int .u8 0,.int .u8 0,.int .u8 0,.int .u8 0,.int .u8 0,.int .u8 0,.int .u8 0,.int .u8 0,.int .u8 0,.int .u8 0,.int .u8 0,.int .u8 0,.int .u8 0,.int .u8 0,.int .u8 0,.int .u8 0,.int .u8 0,.int .u8 0,.int .u8 0,.int .u8 0,.int .u8 0,.int .u8 0,.int .u8 0,.int .u8 0,.int .u8 0,.int .u8 0,.int .u8 0,.int .u8 0,.int .u8 0,.int .u8 0,.int .u8 0,.int .u8 0,.int .u8 0,.int .u8 0,.int .u8 0,.int .u8 0,.int .u8 0,.int .u8 0,.int .u8 0,.int .u8 0,.int .u8 0,.int .u8 0]
  rw[World.size_alloc] at hbs
  have hBw:Below w.heap.size w ((w.alloc (.cells (frCells e i p f z n A y.length k) 155)).alloc (.cells #[.int .u8 0,.int .u8 0,.int .u8 0,.int .u8 0,.int .u8 0,.int .u8 0,.int .u8 0,.int .u8 0,.int .u8 0,.int .u8 0,.int .u8 0,.int .u8 0,.int .u8 0,.int .u8 0,.int .u8 0,.int .u8 0,.int .u8 0,.int .u8 0,.int .u8 0,.int .u8 0,.int .u8 0,.int .u8 0,.int .u8 0,.int .u8 0,.int .u8 0,.int .u8 0,.int .u8 0,.int .u8 0,.int .u8 0,.int .u8 0,.int .u8 0,.int .u8 0,.int .u8 0,.int .u8 0,.int .u8 0,.int .u8 0,.int .u8 0,.int .u8 0,.int .u8 0,.int .u8 0,.int .u8 0,.int .u8 0,.int .u8 0,.int .u8 0,.int .u8 0,.int .u8 0,.int .u8 0,.int .u8 0,.int .u8 0,.int .u8 0,.int .u8 0,.int .u8 0,.int .u8 0,.int .u8 0,.int .u8 0,.int .u8 0,.int .u8 0,.int .u8 0,.int .u8 0,.int .u8 0,.int .u8 0,.int .u8 0,.int .u8 0,.int .u8 0] 220)):=((Below.refl _ w).alloc (Nat.le_refl _) _).alloc (by simp) _
  unfold frCells at *
  have HYL:=Lib.hid hy
  clear hy
  go_enter Tryz.func138,Tryz.ntmps138
  go_wp2_with fail
  generalize (w.alloc (.cells #[.int .u64 (e:Int),.int .i64 (i:Int),.int .i64 (p:Int),.bool f,.int .i64 (z:Int),.int .u32 (n:Int),.slice A y.length k] 155)).alloc (.cells #[.int .u8 0,.int .u8 0,.int .u8 0,.int .u8 0,.int .u8 0,.int .u8 0,.int .u8 0,.int .u8 0,.int .u8 0,.int .u8 0,.int .u8 0,.int .u8 0,.int .u8 0,.int .u8 0,.int .u8 0,.int .u8 0,.int .u8 0,.int .u8 0,.int .u8 0,.int .u8 0,.int .u8 0,.int .u8 0,.int .u8 0,.int .u8 0,.int .u8 0,.int .u8 0,.int .u8 0,.int .u8 0,.int .u8 0,.int .u8 0,.int .u8 0,.int .u8 0,.int .u8 0,.int .u8 0,.int .u8 0,.int .u8 0,.int .u8 0,.int .u8 0,.int .u8 0,.int .u8 0,.int .u8 0,.int .u8 0,.int .u8 0,.int .u8 0,.int .u8 0,.int .u8 0,.int .u8 0,.int .u8 0,.int .u8 0,.int .u8 0,.int .u8 0,.int .u8 0,.int .u8 0,.int .u8 0,.int .u8 0,.int .u8 0,.int .u8 0,.int .u8 0,.int .u8 0,.int .u8 0,.int .u8 0,.int .u8 0,.int .u8 0,.int .u8 0] 220)=W1 at *
  have hc0:∀w',Grow W1 w'->w'.cell? ⟨w.heap.size,0,none⟩=some (.int .u64 e):=fun w' hg=>(hg.cell (p:=⟨w.heap.size,0,none⟩) hbf.lt).trans (by rw[hbf.cell];rfl)
  have hc1:∀w',Grow W1 w'->w'.cell? ⟨w.heap.size,1,none⟩=some (.int .i64 i):=fun w' hg=>(hg.cell (p:=⟨w.heap.size,1,none⟩) hbf.lt).trans (by rw[hbf.cell];rfl)
  have hc2:∀w',Grow W1 w'->w'.cell? ⟨w.heap.size,2,none⟩=some (.int .i64 p):=fun w' hg=>(hg.cell (p:=⟨w.heap.size,2,none⟩) hbf.lt).trans (by rw[hbf.cell];rfl)
  have hc3:∀w',Grow W1 w'->w'.cell? ⟨w.heap.size,3,none⟩=some (.bool f):=fun w' hg=>(hg.cell (p:=⟨w.heap.size,3,none⟩) hbf.lt).trans (by rw[hbf.cell];rfl)
  have hc4:∀w',Grow W1 w'->w'.cell? ⟨w.heap.size,4,none⟩=some (.int .i64 z):=fun w' hg=>(hg.cell (p:=⟨w.heap.size,4,none⟩) hbf.lt).trans (by rw[hbf.cell];rfl)
  have hc5:∀w',Grow W1 w'->w'.cell? ⟨w.heap.size,5,none⟩=some (.int .u32 n):=fun w' hg=>(hg.cell (p:=⟨w.heap.size,5,none⟩) hbf.lt).trans (by rw[hbf.cell];rfl)
  have hc6:∀w',Grow W1 w'->w'.cell? ⟨w.heap.size,6,none⟩=some (.slice A y.length k):=fun w' hg=>(hg.cell (p:=⟨w.heap.size,6,none⟩) hbf.lt).trans (by rw[hbf.cell];rfl)
  have hin1:=(hin.below hBw).more hBw.size
  have hlaid:∀w' u,Grow W1 w'->Lists [fixL 8 e,fixL 4 i,fixL 4 p,[if f then 1 else 0],fixL 4 z,fixL 4 n] u w'->Calls Tryz.prog 167 #[.slice A y.length k,u] w' fun x w2=>x = .returned (.agg ((sectB [fixL 8 e,fixL 4 i,fixL 4 p,[if f then 1 else 0],fixL 4 z,fixL 4 n].flatten y).map b8).toArray)/\Below w'.heap.size w' w2:=fun w' u hg hu =>
    laid_gives w' A k y _ u ((hin1.below hg).more hg.size) hu (by simp) (partB_length e i p f z n) (by rw[HYL.out];omega)
  open Reg in
  refine region_tail_facts (by kernel_rfl) (by kernel_rfl) 30 rfl (by kernel_rfl) 27 (by decide) (by kernel_rfl) (by kernel_rfl) [3,4,5,6,7,8,9,10,11,12,13,14,15,16,17,18,19,20,21,22,23,24,25,26,27,28,29] (by kernel_rfl)
    [(1,.val (.pointer (some ⟨w.heap.size,0,none⟩)))]
    [(3,.val (.pointer (some ⟨w.heap.size,6,none⟩))),(4,.val (.slice A y.length k)),(5,.val (.pointer (some ⟨w.heap.size,0,none⟩))),(6,.val (.int .u64 (e:Int))),(7,.res (fixL 8 e)),(8,.val (.pointer (some ⟨w.heap.size,1,none⟩))),(9,.val (.int .i64 (i:Int))),(10,.val (.int .u32 (i:Int))),(11,.res (fixL 4 i)),(12,.val (.pointer (some ⟨w.heap.size,2,none⟩))),(13,.val (.int .i64 (p:Int))),(14,.val (.int .u32 (p:Int))),(15,.res (fixL 4 p)),(16,.pred ((fun v w=>FlagsAt w v)) (flagsAt_stable)),(17,.val (.pointer (some ⟨w.heap.size,3,none⟩))),(18,.val (.bool f)),(19,.pred (FlagFn f) (flagFn_stable f)),(20,.res ([if f then 1 else 0])),(21,.val (.pointer (some ⟨w.heap.size,4,none⟩))),(22,.val (.int .i64 (z:Int))),(23,.val (.int .u32 (z:Int))),(24,.res (fixL 4 z)),(25,.val (.pointer (some ⟨w.heap.size,5,none⟩))),(26,.val (.int .u32 (n:Int))),(27,.res (fixL 4 n)),(28,.pred (Lists [fixL 8 e,fixL 4 i,fixL 4 p,[if f then 1 else 0],fixL 4 z,fixL 4 n]) (lists_stable _)),(29,.val (.agg ((sectB [fixL 8 e,fixL 4 i,fixL 4 p,[if f then 1 else 0],fixL 4 z,fixL 4 n].flatten y).map b8).toArray))]
    ⟨rfl,trivial⟩ (by kernel_rfl) (by kernel_rfl)
    (allOk_cons (ok_none rfl (l_run1 (.tmp 1) (.pointer (some ⟨w.heap.size,0,none⟩)) (.pointer (some ⟨w.heap.size,6,none⟩)) (hs 1 _ (by kernel_rfl) (by kernel_rfl)) (fun ρ w h=>by simp[execOp,h,go_sem,Result.andThen]) (by kernel_rfl)))
    <| allOk_cons (ok_none rfl (l_load (.tmp 3) (⟨w.heap.size,6,none⟩) _ (.slice A y.length k) (by intro w;simp[go_sem]) rfl (hs 3 (.pointer (some ⟨w.heap.size,6,none⟩)) (by kernel_rfl) (by kernel_rfl)) (fun w hg=>hc6 w hg) (by kernel_rfl)))
    <| allOk_cons (ok_none rfl (l_run1 (.tmp 1) (.pointer (some ⟨w.heap.size,0,none⟩)) (.pointer (some ⟨w.heap.size,0,none⟩)) (hs 1 _ (by kernel_rfl) (by kernel_rfl)) (fun ρ w h=>by simp[execOp,h,go_sem,Result.andThen]) (by kernel_rfl)))
    <| allOk_cons (ok_none rfl (l_load (.tmp 5) (⟨w.heap.size,0,none⟩) _ (.int .u64 (e:Int)) (by intro w;simp[go_sem]) rfl (hs 5 (.pointer (some ⟨w.heap.size,0,none⟩)) (by kernel_rfl) (by kernel_rfl)) (fun w hg=>hc0 w hg) (by kernel_rfl)))
    <| allOk_cons (ok_none rfl (l_call 168 _ _ rfl (enters_of Tryz.func168 (by kernel_rfl) rfl) #[.int .u64 (e:Int)] (.res (fixL 8 e)) (args1 (hs 6 (.int .u64 (e:Int)) (by kernel_rfl) (by kernel_rfl))) (fun w hg=>gives_res (eight_gives e w)) (by kernel_rfl)))
    <| allOk_cons (ok_none rfl (l_run1 (.tmp 1) (.pointer (some ⟨w.heap.size,0,none⟩)) (.pointer (some ⟨w.heap.size,1,none⟩)) (hs 1 _ (by kernel_rfl) (by kernel_rfl)) (fun ρ w h=>by simp[execOp,h,go_sem,Result.andThen]) (by kernel_rfl)))
    <| allOk_cons (ok_none rfl (l_load (.tmp 8) (⟨w.heap.size,1,none⟩) _ (.int .i64 (i:Int)) (by intro w;simp[go_sem]) rfl (hs 8 (.pointer (some ⟨w.heap.size,1,none⟩)) (by kernel_rfl) (by kernel_rfl)) (fun w hg=>hc1 w hg) (by kernel_rfl)))
    <| allOk_cons (ok_none rfl (l_convS (.tmp 9) _ _ (.int .i64 (i:Int)) (.int .u32 (i:Int)) rfl (hs 9 (.int .i64 (i:Int)) (by kernel_rfl) (by kernel_rfl)) (fun w hg=>hi32 w) (by kernel_rfl)))
    <| allOk_cons (ok_none rfl (l_call 169 _ _ rfl (enters_of Tryz.func169 (by kernel_rfl) rfl) #[.int .u32 (i:Int)] (.res (fixL 4 i)) (args1 (hs 10 (.int .u32 (i:Int)) (by kernel_rfl) (by kernel_rfl))) (fun w hg=>gives_res (four_gives i w)) (by kernel_rfl)))
    <| allOk_cons (ok_none rfl (l_run1 (.tmp 1) (.pointer (some ⟨w.heap.size,0,none⟩)) (.pointer (some ⟨w.heap.size,2,none⟩)) (hs 1 _ (by kernel_rfl) (by kernel_rfl)) (fun ρ w h=>by simp[execOp,h,go_sem,Result.andThen]) (by kernel_rfl)))
    <| allOk_cons (ok_none rfl (l_load (.tmp 12) (⟨w.heap.size,2,none⟩) _ (.int .i64 (p:Int)) (by intro w;simp[go_sem]) rfl (hs 12 (.pointer (some ⟨w.heap.size,2,none⟩)) (by kernel_rfl) (by kernel_rfl)) (fun w hg=>hc2 w hg) (by kernel_rfl)))
    <| allOk_cons (ok_none rfl (l_convS (.tmp 13) _ _ (.int .i64 (p:Int)) (.int .u32 (p:Int)) rfl (hs 13 (.int .i64 (p:Int)) (by kernel_rfl) (by kernel_rfl)) (fun w hg=>hp32 w) (by kernel_rfl)))
    <| allOk_cons (ok_none rfl (l_call 169 _ _ rfl (enters_of Tryz.func169 (by kernel_rfl) rfl) #[.int .u32 (p:Int)] (.res (fixL 4 p)) (args1 (hs 14 (.int .u32 (p:Int)) (by kernel_rfl) (by kernel_rfl))) (fun w hg=>gives_res (four_gives p w)) (by kernel_rfl)))
    <| allOk_cons (ok_none rfl (l_call 170 _ _ rfl (enters_of Tryz.func170 (by kernel_rfl) rfl) #[] (.pred ((fun v w=>FlagsAt w v)) (flagsAt_stable)) (fun _ _ _=>by simp) (fun w hg=>(flags_gives w).mono (fun _ _ ⟨v,he,h1,h2⟩=>⟨v,he,h2,h1⟩)) (by kernel_rfl)))
    <| allOk_cons (ok_none rfl (l_run1 (.tmp 1) (.pointer (some ⟨w.heap.size,0,none⟩)) (.pointer (some ⟨w.heap.size,3,none⟩)) (hs 1 _ (by kernel_rfl) (by kernel_rfl)) (fun ρ w h=>by simp[execOp,h,go_sem,Result.andThen]) (by kernel_rfl)))
    <| allOk_cons (ok_none rfl (l_load (.tmp 17) (⟨w.heap.size,3,none⟩) _ (.bool f) (by intro w;simp[go_sem]) rfl (hs 17 (.pointer (some ⟨w.heap.size,3,none⟩)) (by kernel_rfl) (by kernel_rfl)) (fun w hg=>hc3 w hg) (by kernel_rfl)))
    <| allOk_cons (ok_none rfl (l_runP 16 (.tmp 18) _ flagsAt_stable (.bool f) (.pred (FlagFn f) (flagFn_stable f)) (by kernel_rfl) (by kernel_rfl) (hs 18 _ (by kernel_rfl) (by kernel_rfl)) (fun ρ w hg h1 h2=>let ⟨r,q1,q2⟩:=run_flag f rfl h1 h2;⟨r,w,q1,Grow.refl _,q2⟩) (by kernel_rfl)))
    <| allOk_cons (ok_none rfl (l_callFlag f 19 _ rfl (by kernel_rfl) (by kernel_rfl) (by kernel_rfl)))
    <| allOk_cons (ok_none rfl (l_run1 (.tmp 1) (.pointer (some ⟨w.heap.size,0,none⟩)) (.pointer (some ⟨w.heap.size,4,none⟩)) (hs 1 _ (by kernel_rfl) (by kernel_rfl)) (fun ρ w h=>by simp[execOp,h,go_sem,Result.andThen]) (by kernel_rfl)))
    <| allOk_cons (ok_none rfl (l_load (.tmp 21) (⟨w.heap.size,4,none⟩) _ (.int .i64 (z:Int)) (by intro w;simp[go_sem]) rfl (hs 21 (.pointer (some ⟨w.heap.size,4,none⟩)) (by kernel_rfl) (by kernel_rfl)) (fun w hg=>hc4 w hg) (by kernel_rfl)))
    <| allOk_cons (ok_none rfl (l_convS (.tmp 22) _ _ (.int .i64 (z:Int)) (.int .u32 (z:Int)) rfl (hs 22 (.int .i64 (z:Int)) (by kernel_rfl) (by kernel_rfl)) (fun w hg=>hz32 w) (by kernel_rfl)))
    <| allOk_cons (ok_none rfl (l_call 169 _ _ rfl (enters_of Tryz.func169 (by kernel_rfl) rfl) #[.int .u32 (z:Int)] (.res (fixL 4 z)) (args1 (hs 23 (.int .u32 (z:Int)) (by kernel_rfl) (by kernel_rfl))) (fun w hg=>gives_res (four_gives z w)) (by kernel_rfl)))
    <| allOk_cons (ok_none rfl (l_run1 (.tmp 1) (.pointer (some ⟨w.heap.size,0,none⟩)) (.pointer (some ⟨w.heap.size,5,none⟩)) (hs 1 _ (by kernel_rfl) (by kernel_rfl)) (fun ρ w h=>by simp[execOp,h,go_sem,Result.andThen]) (by kernel_rfl)))
    <| allOk_cons (ok_none rfl (l_load (.tmp 25) (⟨w.heap.size,5,none⟩) _ (.int .u32 (n:Int)) (by intro w;simp[go_sem]) rfl (hs 25 (.pointer (some ⟨w.heap.size,5,none⟩)) (by kernel_rfl) (by kernel_rfl)) (fun w hg=>hc5 w hg) (by kernel_rfl)))
    <| allOk_cons (ok_none rfl (l_call 169 _ _ rfl (enters_of Tryz.func169 (by kernel_rfl) rfl) #[.int .u32 (n:Int)] (.res (fixL 4 n)) (args1 (hs 26 (.int .u32 (n:Int)) (by kernel_rfl) (by kernel_rfl))) (fun w hg=>gives_res (four_gives n w)) (by kernel_rfl)))
    <| allOk_cons (ok_none rfl (l_build6 7 11 15 20 24 27 (fixL 8 e) (fixL 4 i) (fixL 4 p) [if f then 1 else 0] (fixL 4 z) (fixL 4 n) rfl (by kernel_rfl) (by kernel_rfl) (by kernel_rfl) (by kernel_rfl) (by kernel_rfl) (by kernel_rfl) (by kernel_rfl) (by kernel_rfl) (by kernel_rfl) (by kernel_rfl) (by kernel_rfl) (by kernel_rfl) (by kernel_rfl)))
    <| allOk_cons (ok_none rfl (l_callVP 167 (.tmp 4) 28 (.slice A y.length k) (Lists [fixL 8 e,fixL 4 i,fixL 4 p,[if f then 1 else 0],fixL 4 z,fixL 4 n]) (lists_stable _) _ rfl (enters_of Tryz.func167 (by kernel_rfl) rfl) (.val (.agg ((sectB [fixL 8 e,fixL 4 i,fixL 4 p,[if f then 1 else 0],fixL 4 z,fixL 4 n].flatten y).map b8).toArray)) (hs 4 _ (by kernel_rfl) (by kernel_rfl)) (by kernel_rfl) (by kernel_rfl) (fun w u hg hu=>gives_grow (hlaid w u hg hu)) (by kernel_rfl)))
    <| allOk_nil) ?_
  intro a W3 hsz hdef hGW3 hF hU
  have e29:a.eval (.tmp 29) = .agg ((sectB [fixL 8 e,fixL 4 i,fixL 4 p,[if f then 1 else 0],fixL 4 z,fixL 4 n].flatten y).map b8).toArray:=hF 29
  have ha:=Reg.acts_eq [3,4,5,6,7,8,9,10,11,12,13,14,15,16,17,18,19,20,21,22,23,24,25,26,27,28,29] hsz hdef hU
  clear hF hU hdef
  simp only[List.foldl_cons,List.foldl_nil,e29] at ha
  clear e29 hsz
  generalize a.eval (.tmp 3)=v3 at *
  generalize a.eval (.tmp 4)=v4 at *
  generalize a.eval (.tmp 5)=v5 at *
  generalize a.eval (.tmp 6)=v6 at *
  generalize a.eval (.tmp 7)=v7 at *
  generalize a.eval (.tmp 8)=v8 at *
  generalize a.eval (.tmp 9)=v9 at *
  generalize a.eval (.tmp 10)=v10 at *
  generalize a.eval (.tmp 11)=v11 at *
  generalize a.eval (.tmp 12)=v12 at *
  generalize a.eval (.tmp 13)=v13 at *
  generalize a.eval (.tmp 14)=v14 at *
  generalize a.eval (.tmp 15)=v15 at *
  generalize a.eval (.tmp 16)=v16 at *
  generalize a.eval (.tmp 17)=v17 at *
  generalize a.eval (.tmp 18)=v18 at *
  generalize a.eval (.tmp 19)=v19 at *
  generalize a.eval (.tmp 20)=v20 at *
  generalize a.eval (.tmp 21)=v21 at *
  generalize a.eval (.tmp 22)=v22 at *
  generalize a.eval (.tmp 23)=v23 at *
  generalize a.eval (.tmp 24)=v24 at *
  generalize a.eval (.tmp 25)=v25 at *
  generalize a.eval (.tmp 26)=v26 at *
  generalize a.eval (.tmp 27)=v27 at *
  generalize a.eval (.tmp 28)=v28 at *
  simp only[Act.put,List.setIfInBounds_toArray,List.set_cons_succ,List.set_cons_zero] at ha
  subst ha
  simp only[Reg.Rest,List.drop_succ_cons,List.drop_zero]
  have hs3:=hbs.below hGW3 hbs.lt
  have hB3:Below w.heap.size w W3:=hBw.trans (hGW3.mono hBw.size)
  have hpb:[fixL 8 e,fixL 4 i,fixL 4 p,[if f then 1 else 0],fixL 4 z,fixL 4 n].flatten=partB e i p f z n:=rfl
  have hl25:=partB_length e i p f z n
  rw[hpb]
  clear hlaid hc0 hc1 hc2 hc3 hc4 hc5 hc6 hbf hbs hin1 hpb hi32 hp32 hz32
  generalize hPq:partB e i p f z n=P at *
  have HPq:=Lib.hid hPq
  clear hPq
  have h64:((sectB P y).map b8).toArray.size=64:=by
    simp[sectB_length];omega
  have hRow:RowTy Tryz.prog 220 ((sectB P y).map b8).toArray.size:=by rw[h64];exact rowSector
  refine wp_storeW rfl 220 (.tmp 2) (.tmp 29) rfl (w.heap.size+1) rfl rfl rowSector hs3 (by simp) (by rw[h64];simp) (b8_one _) ?_
  have hb4:=hs3.setRow ((sectB P y).map b8).toArray
  have hB4:Below w.heap.size w (W3.setRow (w.heap.size+1) ((sectB P y).map b8).toArray):=below_setRow hB3 (by omega) _
  generalize W3.setRow (w.heap.size+1) ((sectB P y).map b8).toArray=W4 at *
  clear h64 hs3 hl25
  simp only[wpList,Act.put,Exit.then]
  refine ‹∀(a:Act) (w:World),Code.wp Tryz.prog Code.ret _ a w->_› _ W4 ?_
  refine wp_ret (bodyPost_ret_by (results_cellW 2 rfl rfl hRow hb4 rfl) rfl ⟨?_,hB4⟩)
  rw[HPq.out]
def fEnc (e:Nat)(i p:Int)(f:Bool)(z:Int)(n:Nat)(y:List UInt8):List UInt8:=if frOk y.length i p f z then frameB (partB e i.toNat p.toNat f z.toNat n) y else []
def fErr (i p:Int)(f:Bool)(z:Int)(y:List UInt8):Int:=if frOk y.length i p f z then 0 else 2
theorem fEnc_ok {e i p:Nat}{f:Bool}{z n:Nat}{y:List UInt8}(h:frOk y.length i p f z=true):fEnc e i p f z n y=frameB (partB e i p f z n) y/\fErr i p f z y=0:=by simp[fEnc,fErr,h]
theorem encode_gives (e:Nat)(i p:Int)(f:Bool)(z:Int)(n:Nat)(A:Option Addr)(k:Nat)(y:List UInt8)(w:World)(hin:InB w w.heap.size A k y) :
    Calls Tryz.prog 99 #[.agg (frCells e i p f z n A y.length k)] w (GivesBE w (fEnc e i p f z n y) (fErr i p f z y)):=by
  have hbh:=BlkIs.new w 155 (frCells e i p f z n A y.length k)
  have hBw:Below w.heap.size w (w.alloc (.cells (frCells e i p f z n A y.length k) 155)):=(Below.refl _ w).alloc (Nat.le_refl _) _
  have H:=right_gives e i p f z n A y.length k (w.alloc (.cells (frCells e i p f z n A y.length k) 155))
  cases hk:frOk y.length i p f z with
  | false =>
    have h1:fEnc e i p f z n y=[]:=by simp[fEnc,hk]
    have h2:fErr i p f z y=2:=by simp[fErr,hk]
    rw[h1,h2]
    rw[hk] at H
    clear h1 h2 hk
    unfold frCells at *
    go_enter Tryz.func99,Tryz.ntmps99
    go_wp2_with (first
      | (go_at_call 137;refine H.mono ?_;rintro x w2 ⟨rfl,hB2⟩)
      | (refine wp_loadW rfl 155 (.tmp 1) rfl w.heap.size rfl rowFrame hbh (by rfl) ?_))
    exact bodyPost_ret (results_tmp2 rfl _ _ _) rfl ⟨none,0,rfl,InB.mt _ _,hBw.trans (hB2.mono hBw.size)⟩
  | true =>
    obtain⟨hy,⟨hi0,hi1⟩,⟨hp0,hp1⟩,⟨hz0,hz1⟩,_⟩:=(frOk_iff _ _ _ _ _).1 hk
    obtain⟨i,rfl⟩:∃q:Nat,i=q:=⟨i.toNat,by omega⟩
    obtain⟨p,rfl⟩:∃q:Nat,p=q:=⟨p.toNat,by omega⟩
    obtain⟨z,rfl⟩:∃q:Nat,z=q:=⟨z.toNat,by omega⟩
    rw[hk] at H
    obtain⟨h1,h2⟩:=fEnc_ok (e:=e) (n:=n) hk
    rw[h1,h2]
    have hin1:=(hin.below hBw).more hBw.size
    have HF:=fun W (h:InB W W.heap.size A k y)=>front_gives e i p z n f A k y W (by omega) (by omega) (by omega) h hy
    have hl25:=partB_length e i p f z n
    have hfr:frameB (partB e i p f z n) y=sectB (partB e i p f z n) y++y:=rfl
    have hsl:(sectB (partB e i p f z n) y).length=64:=by rw[sectB_length,hl25]
    rw[hfr]
    generalize sectB (partB e i p f z n) y=s at *
    have HSL:=Lib.hid hsl
    have HYL:=Lib.hid hy
    have hRow:RowTy Tryz.prog 220 (s.map b8).toArray.size:=by
      have:(s.map b8).toArray.size=64:=by simp[hsl]
      rw[this]
      exact rowSector
    clear h1 h2 hk hin hfr hl25 hsl hy
    unfold frCells at *
    go_enter Tryz.func99,Tryz.ntmps99
    go_wp2_with (first
      | (go_at_call 137;refine H.mono ?_;rintro x w2 ⟨rfl,hB2⟩;have hbh2:=hbh.below hB2 hbh.lt;have hB02:=hBw.trans (hB2.mono hBw.size);have hin2:=(hin1.below hB2).more hB2.size;clear H hbh hin1)
      | (go_at_call 138;refine(HF _ hin2).mono ?_;rintro x w3 ⟨rfl,hB3⟩;have hbh3:=hbh2.below hB3 hbh2.lt;have hB03:=hB02.trans (hB3.mono hB02.size);have hin3:=(hin2.below hB3).more hB3.size;clear HF hbh2 hin2)
      | (refine wp_loadW rfl 155 (.tmp 1) rfl w.heap.size rfl rowFrame (by assumption) (by rfl) ?_)
      | (refine wp_storeW rfl 220 (.tmp 4) (.tmp 9) rfl w3.heap.size rfl rfl rowSector (BlkIs.new w3 220 #[.int .u8 0,.int .u8 0,.int .u8 0,.int .u8 0,.int .u8 0,.int .u8 0,.int .u8 0,.int .u8 0,.int .u8 0,.int .u8 0,.int .u8 0,.int .u8 0,.int .u8 0,.int .u8 0,.int .u8 0,.int .u8 0,.int .u8 0,.int .u8 0,.int .u8 0,.int .u8 0,.int .u8 0,.int .u8 0,.int .u8 0,.int .u8 0,.int .u8 0,.int .u8 0,.int .u8 0,.int .u8 0,.int .u8 0,.int .u8 0,.int .u8 0,.int .u8 0,.int .u8 0,.int .u8 0,.int .u8 0,.int .u8 0,.int .u8 0,.int .u8 0,.int .u8 0,.int .u8 0,.int .u8 0,.int .u8 0,.int .u8 0,.int .u8 0,.int .u8 0,.int .u8 0,.int .u8 0,.int .u8 0,.int .u8 0,.int .u8 0,.int .u8 0,.int .u8 0,.int .u8 0,.int .u8 0,.int .u8 0,.int .u8 0,.int .u8 0,.int .u8 0,.int .u8 0,.int .u8 0,.int .u8 0,.int .u8 0,.int .u8 0,.int .u8 0]) (by rfl) (by have:=HSL.out;simp;omega) (b8_one _) ?_))
    have hb4:=(BlkIs.new w3 220 #[.int .u8 0,.int .u8 0,.int .u8 0,.int .u8 0,.int .u8 0,.int .u8 0,.int .u8 0,.int .u8 0,.int .u8 0,.int .u8 0,.int .u8 0,.int .u8 0,.int .u8 0,.int .u8 0,.int .u8 0,.int .u8 0,.int .u8 0,.int .u8 0,.int .u8 0,.int .u8 0,.int .u8 0,.int .u8 0,.int .u8 0,.int .u8 0,.int .u8 0,.int .u8 0,.int .u8 0,.int .u8 0,.int .u8 0,.int .u8 0,.int .u8 0,.int .u8 0,.int .u8 0,.int .u8 0,.int .u8 0,.int .u8 0,.int .u8 0,.int .u8 0,.int .u8 0,.int .u8 0,.int .u8 0,.int .u8 0,.int .u8 0,.int .u8 0,.int .u8 0,.int .u8 0,.int .u8 0,.int .u8 0,.int .u8 0,.int .u8 0,.int .u8 0,.int .u8 0,.int .u8 0,.int .u8 0,.int .u8 0,.int .u8 0,.int .u8 0,.int .u8 0,.int .u8 0,.int .u8 0,.int .u8 0,.int .u8 0,.int .u8 0,.int .u8 0]).setRow (s.map b8).toArray
    have hB34:Below w3.heap.size w3 ((w3.alloc (.cells #[.int .u8 0,.int .u8 0,.int .u8 0,.int .u8 0,.int .u8 0,.int .u8 0,.int .u8 0,.int .u8 0,.int .u8 0,.int .u8 0,.int .u8 0,.int .u8 0,.int .u8 0,.int .u8 0,.int .u8 0,.int .u8 0,.int .u8 0,.int .u8 0,.int .u8 0,.int .u8 0,.int .u8 0,.int .u8 0,.int .u8 0,.int .u8 0,.int .u8 0,.int .u8 0,.int .u8 0,.int .u8 0,.int .u8 0,.int .u8 0,.int .u8 0,.int .u8 0,.int .u8 0,.int .u8 0,.int .u8 0,.int .u8 0,.int .u8 0,.int .u8 0,.int .u8 0,.int .u8 0,.int .u8 0,.int .u8 0,.int .u8 0,.int .u8 0,.int .u8 0,.int .u8 0,.int .u8 0,.int .u8 0,.int .u8 0,.int .u8 0,.int .u8 0,.int .u8 0,.int .u8 0,.int .u8 0,.int .u8 0,.int .u8 0,.int .u8 0,.int .u8 0,.int .u8 0,.int .u8 0,.int .u8 0,.int .u8 0,.int .u8 0,.int .u8 0] 220)).setRow w3.heap.size (s.map b8).toArray):=below_setRow ((Below.refl _ w3).alloc (Nat.le_refl _) _) (Nat.le_refl _) _
    have hB4:Below w.heap.size w ((w3.alloc (.cells #[.int .u8 0,.int .u8 0,.int .u8 0,.int .u8 0,.int .u8 0,.int .u8 0,.int .u8 0,.int .u8 0,.int .u8 0,.int .u8 0,.int .u8 0,.int .u8 0,.int .u8 0,.int .u8 0,.int .u8 0,.int .u8 0,.int .u8 0,.int .u8 0,.int .u8 0,.int .u8 0,.int .u8 0,.int .u8 0,.int .u8 0,.int .u8 0,.int .u8 0,.int .u8 0,.int .u8 0,.int .u8 0,.int .u8 0,.int .u8 0,.int .u8 0,.int .u8 0,.int .u8 0,.int .u8 0,.int .u8 0,.int .u8 0,.int .u8 0,.int .u8 0,.int .u8 0,.int .u8 0,.int .u8 0,.int .u8 0,.int .u8 0,.int .u8 0,.int .u8 0,.int .u8 0,.int .u8 0,.int .u8 0,.int .u8 0,.int .u8 0,.int .u8 0,.int .u8 0,.int .u8 0,.int .u8 0,.int .u8 0,.int .u8 0,.int .u8 0,.int .u8 0,.int .u8 0,.int .u8 0,.int .u8 0,.int .u8 0,.int .u8 0,.int .u8 0] 220)).setRow w3.heap.size (s.map b8).toArray):=hB03.trans (hB34.mono hB03.size)
    have hf4:=hbh3.below hB34 hbh3.lt
    have hin4:=(hin3.below hB34).more hB34.size
    have hs4:=hb4.inBT (by rw[HSL.out];omega)
    rw[HSL.out] at hs4
    clear hb4 hbh3 hin3 hB34 hB03 hB02 hB2 hB3
    generalize hW4:(w3.alloc (.cells #[.int .u8 0,.int .u8 0,.int .u8 0,.int .u8 0,.int .u8 0,.int .u8 0,.int .u8 0,.int .u8 0,.int .u8 0,.int .u8 0,.int .u8 0,.int .u8 0,.int .u8 0,.int .u8 0,.int .u8 0,.int .u8 0,.int .u8 0,.int .u8 0,.int .u8 0,.int .u8 0,.int .u8 0,.int .u8 0,.int .u8 0,.int .u8 0,.int .u8 0,.int .u8 0,.int .u8 0,.int .u8 0,.int .u8 0,.int .u8 0,.int .u8 0,.int .u8 0,.int .u8 0,.int .u8 0,.int .u8 0,.int .u8 0,.int .u8 0,.int .u8 0,.int .u8 0,.int .u8 0,.int .u8 0,.int .u8 0,.int .u8 0,.int .u8 0,.int .u8 0,.int .u8 0,.int .u8 0,.int .u8 0,.int .u8 0,.int .u8 0,.int .u8 0,.int .u8 0,.int .u8 0,.int .u8 0,.int .u8 0,.int .u8 0,.int .u8 0,.int .u8 0,.int .u8 0,.int .u8 0,.int .u8 0,.int .u8 0,.int .u8 0,.int .u8 0] 220)).setRow w3.heap.size (s.map b8).toArray=W4 at *
    generalize w3.heap.size=g3 at *
    clear hW4
    simp only[Act.put]
    have hc6:W4.cell? ⟨w.heap.size,6,none⟩=some (.slice A y.length k):=by rw[hf4.cell];rfl
    have hC:=concat2_gives W4.drew (some ⟨g3,0,none⟩) A 64 k s y hs4.drew hin4.drew (by rw[HSL.out,HYL.out];omega)
    rw[HSL.out] at hC
    have hlt4:=hf4.lt
    go_region_held3 (fun W=>Below W4.heap.size W4 W/\W.cell? ⟨w.heap.size,6,none⟩=some (.slice A y.length k)) (first|exact⟨(Below.refl _ _).drew,hc6⟩|exact⟨((Below.refl _ W4).drew).alloc (Nat.le_refl _) _,(World.cell?_of_block (Below.heap_alloc W4.drew _ _ hlt4)).trans hc6⟩|exact⟨hB5',(hB5'.cell (p:=⟨w.heap.size,6,none⟩) hlt4).trans hc6⟩)
      (first
        | (go_at_call 139;refine hC.mono ?_;rintro x W5 ⟨v5,rfl,own5,hB5⟩;have hB5':Below W4.heap.size W4 W5:=(Below.refl _ W4).drew.trans hB5))
    go_wp2
    obtain⟨A5,c5,rfl,hin5⟩:=own5.inB
    exact bodyPost_ret (results_tmp2 rfl _ _ _) rfl ⟨A5,c5,rfl,hin5,hB4.trans (hB5'.mono hB4.size)⟩
theorem ftake_gives (w:World)(g o:Nat)(A:Option Addr)(len c n:Nat)(hlen:len<=c)(hcc:c<=9223372036854775807)(hn:n<=len)(hc:w.cell? ⟨g,o,none⟩=some (.slice A len c))(hf:w.frozen? ⟨g,o,none⟩=false) :
    Calls Tryz.prog 152 #[.pointer (some ⟨g,o,none⟩),.int .i64 n] w fun e w'=>e = .returned (.slice A n n)/\w.setCell ⟨g,o,none⟩ (.slice (cutA A c n) (len - n) (c - n))=w':=by
  by_cases hcn:c=n
  · obtain rfl:len=c:=by omega
    subst hcn
    go_enter Tryz.func152,Tryz.ntmps152
    go_wp2
    go_ret
    refine⟨rfl,?_⟩
    simp[cutA]
  · go_enter Tryz.func152,Tryz.ntmps152
    go_wp2
    go_ret
    refine⟨rfl,?_⟩
    simp[cutA,hcn]
structure RdrAt (w:World)(g:Nat)(A:Option Addr)(c:Nat)(l:List UInt8):Prop where
  blk:BlkIs w g 230 #[.slice A l.length c]
  inb:InB w g A c l
theorem RdrAt.below {w w':World}{g:Nat}{A:Option Addr}{c:Nat}{l:List UInt8}(h:RdrAt w g A c l)(hB:Below w.heap.size w w'):RdrAt w' g A c l :=
  ⟨h.blk.below hB h.blk.lt,h.inb.below (hB.mono (Nat.le_of_lt h.blk.lt))⟩
theorem RdrAt.cut {w:World}{g:Nat}{A:Option Addr}{c:Nat}{l:List UInt8}(h:RdrAt w g A c l)(n:Nat)(hn:n<=l.length):RdrAt (w.setCell ⟨g,0,none⟩ (.slice (cutA A c n) (l.length - n) (c - n))) g (cutA A c n) (c - n) (l.drop n):=by
  refine⟨?_,(h.inb.drop n hn).keep fun p hp=>World.cell?_setCell_other w _ p _ (fun e=>by subst e;simp at hp)⟩
  have:=h.blk.set 0 (.slice (cutA A c n) (l.length - n) (c - n))
  rw[List.length_drop]
  exact this
theorem number64_gives (w:World)(g:Nat)(A:Option Addr)(c:Nat)(l:List UInt8)(h:RdrAt w g A c l)(hl:8<=l.length) :
    Calls Tryz.prog 145 #[.pointer (some ⟨g,0,none⟩),.int .i64 8,.func (.func 146) #[] #[]] w fun e w'=>e = .returned (.int .u64 (rfix (l.take 8):Int))/\RdrAt w' g (cutA A c 8) (c - 8) (l.drop 8)/\Below g w w':=by
  have hle:=h.inb.le
  have hmx:=h.inb.max
  have T:=ftake_gives w g 0 A l.length c 8 hle hmx hl (by rw[h.blk.cell];rfl) (h.blk.free 0)
  have hR:=h.cut 8 hl
  have hB1:Below g w (w.setCell ⟨g,0,none⟩ (.slice (cutA A c 8) (l.length - 8) (c - 8))):=(Below.refl g w).setCell (p:=⟨g,0,none⟩) (Nat.le_refl g) _
  have hin:=h.inb.below hB1
  clear h
  generalize w.setCell ⟨g,0,none⟩ (.slice (cutA A c 8) (l.length - 8) (c - 8))=w1 at *
  have ht:=hin.take 8 8 hl (Nat.le_refl _) (by omega)
  have E:=readEight_gives w1 A 8 (l.take 8) (ht.more (Nat.le_of_lt hR.blk.lt))
  have hl8:(l.take 8).length=8:=by simp;omega
  rw[fixV_ge (by omega),hl8,List.take_take,Nat.min_self] at E
  have hg:=hR.blk.lt
  go_enter Tryz.func145,Tryz.ntmps145
  go_wp2_with (first|(go_at_call 152;refine T.mono ?_;rintro e w' ⟨rfl,rfl⟩)|(go_at_call 146;refine E.mono ?_;rintro e w' ⟨rfl,hB2⟩))
  go_ret
  exact⟨rfl,hR.below hB2,hB1.trans (hB2.mono (Nat.le_of_lt hg))⟩
theorem number32_gives (w:World)(g:Nat)(A:Option Addr)(c:Nat)(l:List UInt8)(h:RdrAt w g A c l)(hl:4<=l.length) :
    Calls Tryz.prog 147 #[.pointer (some ⟨g,0,none⟩),.int .i64 4,.func (.func 148) #[] #[]] w fun e w'=>e = .returned (.int .u32 (rfix (l.take 4):Int))/\RdrAt w' g (cutA A c 4) (c - 4) (l.drop 4)/\Below g w w':=by
  have hle:=h.inb.le
  have hmx:=h.inb.max
  have T:=ftake_gives w g 0 A l.length c 4 hle hmx hl (by rw[h.blk.cell];rfl) (h.blk.free 0)
  have hR:=h.cut 4 hl
  have hB1:Below g w (w.setCell ⟨g,0,none⟩ (.slice (cutA A c 4) (l.length - 4) (c - 4))):=(Below.refl g w).setCell (p:=⟨g,0,none⟩) (Nat.le_refl g) _
  have hin:=h.inb.below hB1
  clear h
  generalize w.setCell ⟨g,0,none⟩ (.slice (cutA A c 4) (l.length - 4) (c - 4))=w1 at *
  have ht:=hin.take 4 4 hl (Nat.le_refl _) (by omega)
  have E:=readFour_gives w1 A 4 (l.take 4) (ht.more (Nat.le_of_lt hR.blk.lt))
  have hl4:(l.take 4).length=4:=by simp;omega
  rw[fixV32_ge (by omega),hl4,List.take_take,Nat.min_self] at E
  have hg:=hR.blk.lt
  go_enter Tryz.func147,Tryz.ntmps147
  go_wp2_with (first|(go_at_call 152;refine T.mono ?_;rintro e w' ⟨rfl,rfl⟩)|(go_at_call 148;refine E.mono ?_;rintro e w' ⟨rfl,hB2⟩))
  go_ret
  exact⟨rfl,hR.below hB2,hB1.trans (hB2.mono (Nat.le_of_lt hg))⟩
def decHV (l:List UInt8):Value:=if isHead l then .tuple #[.agg #[.int .u64 (hdS l:Int),.int .u64 (hdE l:Int),.int .i64 (hdZ l:Int),.int .i64 (hdC l:Int)],.int .i64 0] else .tuple #[.agg #[.int .u64 0,.int .u64 0,.int .i64 0,.int .i64 0],.int .i64 150]
theorem decHV_no {l:List UInt8}(h:isHead l=false):decHV l = .tuple #[.agg #[.int .u64 0,.int .u64 0,.int .i64 0,.int .i64 0],.int .i64 150]:=by simp[decHV,h]
theorem rfix_take4 (l:List UInt8):rfix (l.take 4)<4294967296:=by
  have h1:=rfix_lt (l.take 4)
  have h2:256 ^ (l.take 4).length<=256 ^ 4:=Nat.pow_le_pow_right (by omega) (by simp;omega)
  have h3:(256:Nat) ^ 4=4294967296:=by decide
  omega
theorem rfix_take8 (l:List UInt8):rfix (l.take 8)<2 ^ 64:=by
  have h1:=rfix_lt (l.take 8)
  have h2:256 ^ (l.take 8).length<=256 ^ 8:=Nat.pow_le_pow_right (by omega) (by simp;omega)
  have h3:(256:Nat) ^ 8=2 ^ 64:=by decide
  omega
theorem zeroHead_one:∀v∈(#[.int .u64 0,.int .u64 0,.int .i64 0,.int .i64 0]:Array Value).toList,v.oneCell'=true:=by
  intro v hv
  simp at hv
  rcases hv with rfl|rfl<;>rfl
theorem head_one (s e z c:Int):∀v∈(#[.int .u64 s,.int .u64 e,.int .i64 z,.int .i64 c]:Array Value).toList,v.oneCell'=true:=by
  intro v hv
  simp at hv
  rcases hv with rfl|rfl|rfl|rfl<;>rfl
theorem decodeHead_len (w:World)(A:Option Addr)(c:Nat)(l:List UInt8)(h:InB w w.heap.size A c l)(hl:l.length≠64) :
    Calls Tryz.prog 111 #[.slice A l.length c] w fun x w'=>x = .returned (decHV l)/\Below w.heap.size w w':=by
  have hb0:=BlkIs.new w 111 #[.int .u64 0,.int .u64 0,.int .i64 0,.int .i64 0]
  have hB0:Below w.heap.size w (w.alloc (.cells #[.int .u64 0,.int .u64 0,.int .i64 0,.int .i64 0] 111)):=(Below.refl _ w).alloc (Nat.le_refl _) _
  have hle:=h.le
  have hmx:=h.max
  have hno:isHead l=false:=by cases hi:isHead l;rfl;exact absurd ((isHead_iff l).1 hi).1 hl
  rw[decHV_no hno]
  have hq:((l.length:Int) == 64)=false:=by simp;omega
  clear hno hl
  go_enter Tryz.func111,Tryz.ntmps111
  go_wp2_with (refine wp_storeW rfl 111 (.tmp 2) (.tmp 35) rfl w.heap.size rfl rfl rowHead hb0 (by rfl) (by rfl) zeroHead_one ?_)
  refine bodyPost_ret_by (results_cellW_tmp 2 3 rfl rfl rfl rowHead (hb0.setRow _) (by rfl)) rfl ⟨rfl,below_setRow hB0 (Nat.le_refl _) _⟩
theorem decodeHead_64 (w:World)(A:Option Addr)(c:Nat)(l:List UInt8)(h:InB w w.heap.size A c l)(hl64:l.length=64) :
    Calls Tryz.prog 111 #[.slice A 64 c] w fun x w'=>x = .returned (decHV l)/\Below w.heap.size w w':=by
  have hle:=h.le
  have hmx:=h.max
  obtain⟨g,o,rfl,hg,hcs⟩:=h.lies (by omega)
  have hb0:=(BlkIs.new w 111 #[.int .u64 0,.int .u64 0,.int .i64 0,.int .i64 0]).alloc (.cells #[.slice (some ⟨g,o,none⟩) 64 c] 230)
  have hB0:Below w.heap.size w ((w.alloc (.cells #[.int .u64 0,.int .u64 0,.int .i64 0,.int .i64 0] 111)).alloc (.cells #[.slice (some ⟨g,o,none⟩) 64 c] 230)):=((Below.refl _ w).alloc (Nat.le_refl _) _).alloc (by simp) _
  have hr0:RdrAt ((w.alloc (.cells #[.int .u64 0,.int .u64 0,.int .i64 0,.int .i64 0] 111)).alloc (.cells #[.slice (some ⟨g,o,none⟩) 64 c] 230)) (w.heap.size+1) (some ⟨g,o,none⟩) c l:=by
    refine⟨?_,(h.below hB0).more (by omega)⟩
    have:=BlkIs.new (w.alloc (.cells #[.int .u64 0,.int .u64 0,.int .i64 0,.int .i64 0] 111)) 230 #[.slice (some ⟨g,o,none⟩) 64 c]
    rw[World.size_alloc] at this
    rw[hl64]
    exact this
  have HL:=Lib.hid hl64
  clear hl64
  go_enter Tryz.func111,Tryz.ntmps111
  go_wp2_with fail
  generalize (w.alloc (.cells #[.int .u64 0,.int .u64 0,.int .i64 0,.int .i64 0] 111)).alloc (.cells #[.slice (some ⟨g,o,none⟩) 64 c] 230)=W1 at *
  refine(number64_gives W1 _ _ c l hr0 (by have:=HL.out;omega)).mono ?_
  rintro x W2 ⟨rfl,hr1,hb1⟩
  go_wp2_with fail
  refine(number64_gives W2 _ _ _ _ hr1 (by have:=HL.out;simp;omega)).mono ?_
  rintro x W3 ⟨rfl,hr2,hb2⟩
  rw[List.drop_drop] at hr2
  go_wp2_with fail
  refine(number32_gives W3 _ _ _ _ hr2 (by have:=HL.out;simp;omega)).mono ?_
  rintro x W4 ⟨rfl,hr3,hb3⟩
  rw[List.drop_drop] at hr3
  have hz:=rfix_take4 (l.drop (8+8))
  have hzw:IntKind.i64.wrap (rfix ((l.drop (8+8)).take 4):Int)=(rfix ((l.drop (8+8)).take 4):Int):=wrap_i64_fr _ (by omega) (by omega)
  go_wp2_with fail
  refine(number32_gives W4 _ _ _ _ hr3 (by have:=HL.out;simp;omega)).mono ?_
  rintro x W5 ⟨rfl,hr4,hb4⟩
  have hcc:=rfix_take4 (l.drop (8+8+4))
  have hcw:IntKind.i64.wrap (rfix ((l.drop (8+8+4)).take 4):Int)=(rfix ((l.drop (8+8+4)).take 4):Int):=wrap_i64_fr _ (by omega) (by omega)
  go_wp2_with fail
  have hB25:Below (w.heap.size+1) W1 W5:=((hb1.trans hb2).trans hb3).trans hb4
  have hB05:Below w.heap.size w W5:=hB0.trans (hB25.mono (by omega))
  have hz0:=hb0.below hB25 (by omega)
  have hin5:=h.below hB05
  have s05:=hB05.size
  have eS:rfix (l.take 8)=hdS l:=rfl
  have eE:rfix ((l.drop 8).take 8)=hdE l:=rfl
  have eZ:rfix ((l.drop 16).take 4)=hdZ l:=rfl
  have eC:rfix ((l.drop 20).take 4)=hdC l:=rfl
  have hzb:hdZ l<4294967296:=rfix_take4 _
  have hcb:hdC l<4294967296:=rfix_take4 _
  have hiff:isHead l=(headOk (hdZ l) (hdC l) && (headW (hdS l) (hdE l) (hdZ l) (hdC l) == l)):=by
    rw[Bool.eq_iff_iff,isHead_iff,Bool.and_eq_true,headOk_iff,beq_iff_eq]
    constructor
    · rintro⟨_,a1,a2,a3⟩
      exact⟨by omega,a3⟩
    · rintro⟨a1,a2⟩
      exact⟨HL.out,by omega,by omega,a2⟩
  rw[eS,eE,eZ,eC]
  have hdv:decHV l=if isHead l then .tuple #[.agg #[.int .u64 (hdS l:Int),.int .u64 (hdE l:Int),.int .i64 (hdZ l:Int),.int .i64 (hdC l:Int)],.int .i64 0] else .tuple #[.agg #[.int .u64 0,.int .u64 0,.int .i64 0,.int .i64 0],.int .i64 150]:=rfl
  clear eS eE eZ eC hz hcc hzw hcw hr0 hr1 hr2 hr3 hr4 hb1 hb2 hb3 hb4 hB25 hB0 hb0
  generalize hdS l=s at *
  generalize hdE l=e at *
  generalize hdZ l=z at *
  generalize hdC l=cc at *
  have HI:=Lib.hid hiff
  have HD:=Lib.hid hdv
  clear hiff hdv
  have hB06:Below w.heap.size w (W5.alloc (.cells #[.int .u64 (s:Int),.int .u64 (e:Int),.int .i64 (z:Int),.int .i64 (cc:Int)] 111)):=hB05.alloc s05 _
  have hz6:=hz0.alloc (.cells #[.int .u64 (s:Int),.int .u64 (e:Int),.int .i64 (z:Int),.int .i64 (cc:Int)] 111)
  have hk6:=BlkIs.new W5 111 #[.int .u64 (s:Int),.int .u64 (e:Int),.int .i64 (z:Int),.int .i64 (cc:Int)]
  have hin6:InB (W5.alloc (.cells #[.int .u64 (s:Int),.int .u64 (e:Int),.int .i64 (z:Int),.int .i64 (cc:Int)] 111)) w.heap.size (some ⟨g,o,none⟩) c l:=hin5.below ((Below.refl _ W5).alloc s05 _)
  generalize hW6:W5.alloc (.cells #[.int .u64 (s:Int),.int .u64 (e:Int),.int .i64 (z:Int),.int .i64 (cc:Int)] 111)=W6 at *
  clear hW6
  have s06:=hB06.size
  have hl5:∀w',Grow W6 w'->(loadVar 111 ⟨W5.heap.size,0,none⟩).run Tryz.prog w' = .ok (.agg #[.int .u64 (s:Int),.int .u64 (e:Int),.int .i64 (z:Int),.int .i64 (cc:Int)]) w':=fun w' hG=>run_loadW rowHead (hk6.below hG hk6.lt)
  have hlb:∀w',Grow W6 w'->(loadVar 220 ⟨g,o,none⟩).run Tryz.prog w' = .ok (.agg (l.map b8).toArray) w':=fun w' hG=>by
    have hi:=(hin6.more s06).below hG
    refine run_loadVar_mid (P:=Tryz.prog) w' g o 220 (l.map b8) _ ?_ Tryz.underlying220 rfl (by simp only[List.length_map];rw[HL.out];kernel_rfl)
    intro j v hj
    have hj2:j<l.length:=by
      have:=(List.getElem?_eq_some_iff.1 hj).1
      simpa using this
    obtain⟨g',o',e1,_,hc⟩:=hi.lies (by omega)
    injection e1 with e1
    injection e1 with e1 e2
    subst e1 e2
    rw[hc j hj2]
    rw[List.getElem?_map,List.getElem?_eq_getElem hj2] at hj
    simpa[b8] using hj
  have hfit0:=fits_gives s e z cc
  generalize W5.heap.size=g5 at *
  cases hk:headOk z cc with
  | false =>
    have hfit:=hfit0
    rw[hk] at hfit
    have hno:isHead l=false:=by rw[HI.out,hk];rfl
    open Reg in
    refine region_acts (by kernel_rfl) (by kernel_rfl) 36 rfl (by kernel_rfl) [24,25,26,27,28,29,30,31,32,33] (by kernel_rfl)
      [(5,.val (.pointer (some ⟨g5,0,none⟩))),(0,.val (.slice (some ⟨g,o,none⟩) 64 c))]
      [(24,.val (.agg #[.int .u64 (s:Int),.int .u64 (e:Int),.int .i64 (z:Int),.int .i64 (cc:Int)])),(25,.val (.bool false)),(26,.val (.bool false)),(27,.any),(28,.any),(29,.any),(30,.any),(31,.any),(32,.any),(33,.val ((Go.Value.bool false)))]
      ⟨rfl,rfl,trivial⟩ (by kernel_rfl)
      (allOk_cons (ok_none rfl (l_loadV (.tmp 5) (⟨g5,0,none⟩) 111 (.agg #[.int .u64 (s:Int),.int .u64 (e:Int),.int .i64 (z:Int),.int .i64 (cc:Int)]) rfl (hs 5 (.pointer (some ⟨g5,0,none⟩)) (by kernel_rfl) (by kernel_rfl)) (fun w hg=>hl5 w hg) (by kernel_rfl)))
      <| allOk_cons (ok_none rfl (l_call 149 _ _ rfl (enters_of Tryz.func149 (by kernel_rfl) rfl) #[.agg #[.int .u64 (s:Int),.int .u64 (e:Int),.int .i64 (z:Int),.int .i64 (cc:Int)]] (.val (.bool false)) (args1 (hs 24 (.agg #[.int .u64 (s:Int),.int .u64 (e:Int),.int .i64 (z:Int),.int .i64 (cc:Int)]) (by kernel_rfl) (by kernel_rfl))) (fun w hg=>gives_grow (hfit w)) (by kernel_rfl)))
      <| allOk_cons (ok_none rfl (l_mvF 25 (.val (.bool false)) (.inl rfl) (by kernel_rfl) (by kernel_rfl) (by kernel_rfl)))
      <| allOk_cons (okg_not 2 true 26 rfl (by kernel_rfl) (by kernel_rfl) (by kernel_rfl) (by kernel_rfl))
      <| allOk_cons (okg_not 2 true 26 rfl (by kernel_rfl) (by kernel_rfl) (by kernel_rfl) (by kernel_rfl))
      <| allOk_cons (okg_not 2 true 26 rfl (by kernel_rfl) (by kernel_rfl) (by kernel_rfl) (by kernel_rfl))
      <| allOk_cons (okg_not 2 true 26 rfl (by kernel_rfl) (by kernel_rfl) (by kernel_rfl) (by kernel_rfl))
      <| allOk_cons (okg_not 2 true 26 rfl (by kernel_rfl) (by kernel_rfl) (by kernel_rfl) (by kernel_rfl))
      <| allOk_cons (okg_not 2 true 26 rfl (by kernel_rfl) (by kernel_rfl) (by kernel_rfl) (by kernel_rfl))
      <| allOk_cons (ok_none rfl (l_pickF (.tmp 26) (.tmp 32) (.const (Go.Value.bool false)) ((Go.Value.bool false)) rfl (hs 26 (.bool false) (by kernel_rfl) (by kernel_rfl)) (hc _) (by kernel_rfl)))
      <| allOk_nil) ?_
    intro a W7 hsz hdef hGW7 hF hU
    have e33:a.eval (.tmp 33)=(Go.Value.bool false):=hF 33
    have ha:=Reg.acts_eq [24,25,26,27,28,29,30,31,32,33] hsz hdef hU
    clear hF hU hdef
    simp only[List.foldl_cons,List.foldl_nil,e33] at ha
    clear e33 hsz
    generalize a.eval (.tmp 24)=v24 at *
    generalize a.eval (.tmp 25)=v25 at *
    generalize a.eval (.tmp 26)=v26 at *
    generalize a.eval (.tmp 27)=v27 at *
    generalize a.eval (.tmp 28)=v28 at *
    generalize a.eval (.tmp 29)=v29 at *
    generalize a.eval (.tmp 30)=v30 at *
    generalize a.eval (.tmp 31)=v31 at *
    generalize a.eval (.tmp 32)=v32 at *
    simp only[Act.put,List.setIfInBounds_toArray,List.set_cons_succ,List.set_cons_zero] at ha
    subst ha
    simp only[Exit.then]
    refine ‹∀(a:Act) (w:World),Code.wp Tryz.prog _ _ a w->_› _ W7 ?_
    have hz7:=hz6.below hGW7 hz6.lt
    have hB07:Below w.heap.size w W7:=hB06.trans (hGW7.mono s06)
    go_wp2_with (refine wp_storeW rfl 111 (.tmp 2) (.tmp 35) rfl w.heap.size rfl rfl rowHead hz7 (by rfl) (by rfl) zeroHead_one ?_)
    refine bodyPost_ret_by (results_cellW_tmp 2 3 rfl rfl rfl rowHead (hz7.setRow _) (by rfl)) rfl ⟨?_,below_setRow hB07 (Nat.le_refl _) _⟩
    rw[HD.out,hno]
    rfl
  | true =>
    obtain⟨⟨_,hz1⟩,_,hc1⟩:=(headOk_iff _ _).1 hk
    have hfit:=hfit0
    rw[hk] at hfit
    have hyes:isHead l=(headW s e z cc == l):=by rw[HI.out,hk];rfl
    have hhead:=head_gives s e z cc (by omega) (by omega)
    have hW64:=headW_length s e z cc
    have hl64:=HL.out
    generalize headW s e z cc=HW at *
    have HY:=Lib.hid hyes
    clear hyes hk
    open Reg in
    refine region_acts (by kernel_rfl) (by kernel_rfl) 36 rfl (by kernel_rfl) [24,25,26,27,28,29,30,31,32,33] (by kernel_rfl)
      [(5,.val (.pointer (some ⟨g5,0,none⟩))),(0,.val (.slice (some ⟨g,o,none⟩) 64 c))]
      [(24,.val (.agg #[.int .u64 (s:Int),.int .u64 (e:Int),.int .i64 (z:Int),.int .i64 (cc:Int)])),(25,.val (.bool true)),(26,.val (.bool true)),(27,.val (.agg #[.int .u64 (s:Int),.int .u64 (e:Int),.int .i64 (z:Int),.int .i64 (cc:Int)])),(28,.val (.agg (HW.map b8).toArray)),(29,.val (.slice (some ⟨g,o,none⟩) 64 c)),(30,.val (.pointer (some ⟨g,o,none⟩))),(31,.val (.agg (l.map b8).toArray)),(32,.val (.bool (HW == l))),(33,.val (.bool (HW == l)))]
      ⟨rfl,rfl,trivial⟩ (by kernel_rfl)
      (allOk_cons (ok_none rfl (l_loadV (.tmp 5) (⟨g5,0,none⟩) 111 (.agg #[.int .u64 (s:Int),.int .u64 (e:Int),.int .i64 (z:Int),.int .i64 (cc:Int)]) rfl (hs 5 (.pointer (some ⟨g5,0,none⟩)) (by kernel_rfl) (by kernel_rfl)) (fun w hg=>hl5 w hg) (by kernel_rfl)))
      <| allOk_cons (ok_none rfl (l_call 149 _ _ rfl (enters_of Tryz.func149 (by kernel_rfl) rfl) #[.agg #[.int .u64 (s:Int),.int .u64 (e:Int),.int .i64 (z:Int),.int .i64 (cc:Int)]] (.val (.bool true)) (args1 (hs 24 (.agg #[.int .u64 (s:Int),.int .u64 (e:Int),.int .i64 (z:Int),.int .i64 (cc:Int)]) (by kernel_rfl) (by kernel_rfl))) (fun w hg=>gives_grow (hfit w)) (by kernel_rfl)))
      <| allOk_cons (ok_none rfl (l_mvF 25 (.val (.bool true)) (.inl rfl) (by kernel_rfl) (by kernel_rfl) (by kernel_rfl)))
      <| allOk_cons (okg 2 true 26 rfl (by kernel_rfl) (by kernel_rfl) (by kernel_rfl) (l_loadV (.tmp 5) (⟨g5,0,none⟩) 111 (.agg #[.int .u64 (s:Int),.int .u64 (e:Int),.int .i64 (z:Int),.int .i64 (cc:Int)]) rfl (hs 5 (.pointer (some ⟨g5,0,none⟩)) (by kernel_rfl) (by kernel_rfl)) (fun w hg=>hl5 w hg) (by kernel_rfl)))
      <| allOk_cons (okg 2 true 26 rfl (by kernel_rfl) (by kernel_rfl) (by kernel_rfl) (l_call 150 _ _ rfl (enters_of Tryz.func150 (by kernel_rfl) rfl) #[.agg #[.int .u64 (s:Int),.int .u64 (e:Int),.int .i64 (z:Int),.int .i64 (cc:Int)]] (.val (.agg (HW.map b8).toArray)) (args1 (hs 27 (.agg #[.int .u64 (s:Int),.int .u64 (e:Int),.int .i64 (z:Int),.int .i64 (cc:Int)]) (by kernel_rfl) (by kernel_rfl))) (fun w hg=>gives_grow (hhead w)) (by kernel_rfl)))
      <| allOk_cons (okg 2 true 26 rfl (by kernel_rfl) (by kernel_rfl) (by kernel_rfl) (l_mvF 0 (.val (.slice (some ⟨g,o,none⟩) 64 c)) (.inl rfl) (by kernel_rfl) (by kernel_rfl) (by kernel_rfl)))
      <| allOk_cons (okg 2 true 26 rfl (by kernel_rfl) (by kernel_rfl) (by kernel_rfl) (l_s2a (.tmp 29) g o 64 c (by decide) rfl (hs 29 _ (by kernel_rfl) (by kernel_rfl)) (by kernel_rfl)))
      <| allOk_cons (okg 2 true 26 rfl (by kernel_rfl) (by kernel_rfl) (by kernel_rfl) (l_loadV (.tmp 30) (⟨g,o,none⟩) 220 (.agg (l.map b8).toArray) rfl (hs 30 (.pointer (some ⟨g,o,none⟩)) (by kernel_rfl) (by kernel_rfl)) (fun w hg=>hlb w hg) (by kernel_rfl)))
      <| allOk_cons (okg 2 true 26 rfl (by kernel_rfl) (by kernel_rfl) (by kernel_rfl) (l_eqArr (.tmp 28) (.tmp 31) _ HW l hW64 hl64 rfl (hs 28 _ (by kernel_rfl) (by kernel_rfl)) (hs 31 _ (by kernel_rfl) (by kernel_rfl)) (by kernel_rfl)))
      <| allOk_cons (ok_none rfl (l_pickT (.tmp 26) (.tmp 32) (.const (Go.Value.bool false)) (.bool (HW == l)) rfl (hs 26 (.bool true) (by kernel_rfl) (by kernel_rfl)) (hs 32 (.bool (HW == l)) (by kernel_rfl) (by kernel_rfl)) (by kernel_rfl)))
      <| allOk_nil) ?_
    intro a W7 hsz hdef hGW7 hF hU
    have e33:a.eval (.tmp 33) = .bool (HW == l):=hF 33
    have ha:=Reg.acts_eq [24,25,26,27,28,29,30,31,32,33] hsz hdef hU
    clear hF hU hdef
    simp only[List.foldl_cons,List.foldl_nil,e33] at ha
    clear e33 hsz
    generalize a.eval (.tmp 24)=v24 at *
    generalize a.eval (.tmp 25)=v25 at *
    generalize a.eval (.tmp 26)=v26 at *
    generalize a.eval (.tmp 27)=v27 at *
    generalize a.eval (.tmp 28)=v28 at *
    generalize a.eval (.tmp 29)=v29 at *
    generalize a.eval (.tmp 30)=v30 at *
    generalize a.eval (.tmp 31)=v31 at *
    generalize a.eval (.tmp 32)=v32 at *
    simp only[Act.put,List.setIfInBounds_toArray,List.set_cons_succ,List.set_cons_zero] at ha
    subst ha
    simp only[Exit.then]
    refine ‹∀(a:Act) (w:World),Code.wp Tryz.prog _ _ a w->_› _ W7 ?_
    have hz7:=hz6.below hGW7 hz6.lt
    have hk7:=hk6.below hGW7 hk6.lt
    have hB07:Below w.heap.size w W7:=hB06.trans (hGW7.mono s06)
    clear hl64 hW64
    cases hq:(HW == l) with
    | false =>
      go_wp2_with (refine wp_storeW rfl 111 (.tmp 2) (.tmp 35) rfl w.heap.size rfl rfl rowHead hz7 (by rfl) (by rfl) zeroHead_one ?_)
      refine bodyPost_ret_by (results_cellW_tmp 2 3 rfl rfl rfl rowHead (hz7.setRow _) (by rfl)) rfl ⟨?_,below_setRow hB07 (Nat.le_refl _) _⟩
      rw[HD.out,HY.out,hq]
      rfl
    | true =>
      go_wp2_with (first
        | (refine wp_loadW rfl 111 (.tmp 5) rfl g5 rfl rowHead hk7 (by rfl) ?_)
        | (refine wp_storeW rfl 111 (.tmp 2) (.tmp 34) rfl w.heap.size rfl rfl rowHead hz7 (by rfl) (by rfl) (head_one _ _ _ _) ?_))
      refine bodyPost_ret_by (results_cellW_tmp 2 3 rfl rfl rfl rowHead (hz7.setRow _) (by rfl)) rfl ⟨?_,below_setRow hB07 (Nat.le_refl _) _⟩
      rw[HD.out,HY.out,hq]
      rfl
theorem decodeHead_gives (w:World)(A:Option Addr)(c:Nat)(l:List UInt8)(h:InB w w.heap.size A c l) :
    Calls Tryz.prog 111 #[.slice A l.length c] w fun x w'=>x = .returned (decHV l)/\Below w.heap.size w w':=by
  by_cases hl:l.length=64
  · rw[hl]
    exact decodeHead_64 w A c l h hl
  · exact decodeHead_len w A c l h hl
theorem str_toList (l:List UInt8):(str l).toList=l:=by
  have:(str l).toList=(str l).data.toList:=by rw[ByteArray.toList_eq]
  rw[this,str_data]
theorem InB.dropAt {w:World}{B g o c:Nat}{l:List UInt8}(h:InB w B (some ⟨g,o,none⟩) c l)(n:Nat)(hn:n<=l.length)(hc:n<c):InB w B (some ⟨g,o+n,none⟩) (c - n) (l.drop n):=by
  have:=h.drop n hn
  unfold cutA at this
  rw[if_neg (by omega)] at this
  have e:(⟨g,o,none⟩:Addr).add n=⟨g,o+n,none⟩:=by cases n<;>simp[Addr.add]
  simpa[e] using this
theorem refDecodeHead_len (w:World)(A:Option Addr)(c:Nat)(l:List UInt8)(h:InB w w.heap.size A c l)(hl:l.length≠64) :
    Calls Tryz.prog 68 #[.slice A l.length c] w fun x w'=>x = .returned (decHV l)/\Below w.heap.size w w':=by
  have hb0:=BlkIs.new w 111 #[.int .u64 0,.int .u64 0,.int .i64 0,.int .i64 0]
  have hB0:Below w.heap.size w (w.alloc (.cells #[.int .u64 0,.int .u64 0,.int .i64 0,.int .i64 0] 111)):=(Below.refl _ w).alloc (Nat.le_refl _) _
  have hle:=h.le
  have hmx:=h.max
  have hno:isHead l=false:=by cases hi:isHead l;rfl;exact absurd ((isHead_iff l).1 hi).1 hl
  rw[decHV_no hno]
  have hq:((l.length:Int) == 64)=false:=by simp;omega
  have hq2:((l.length:Int) != 64)=true:=by simp;omega
  clear hno hl
  go_enter Tryz.func68,Tryz.ntmps68
  go_wp2_with (refine wp_storeW rfl 111 (.tmp 2) (.tmp 18) rfl w.heap.size rfl rfl rowHead hb0 (by rfl) (by rfl) zeroHead_one ?_)
  refine bodyPost_ret_by (results_cellW_tmp 2 3 rfl rfl rfl rowHead (hb0.setRow _) (by rfl)) rfl ⟨rfl,below_setRow hB0 (Nat.le_refl _) _⟩
theorem refDecodeHead_64 (w:World)(A:Option Addr)(c:Nat)(l:List UInt8)(h:InB w w.heap.size A c l)(hl64:l.length=64) :
    Calls Tryz.prog 68 #[.slice A 64 c] w fun x w'=>x = .returned (decHV l)/\Below w.heap.size w w':=by
  have hle:=h.le
  have hmx:=h.max
  rw[hl64] at hle
  have hle':(64:Int)<=(c:Int):=by omega
  obtain⟨g,o,rfl,hg,hcs⟩:=h.lies (by omega)
  have hb0:=BlkIs.new w 111 #[.int .u64 0,.int .u64 0,.int .i64 0,.int .i64 0]
  have hB0:Below w.heap.size w (w.alloc (.cells #[.int .u64 0,.int .u64 0,.int .i64 0,.int .i64 0] 111)):=(Below.refl _ w).alloc (Nat.le_refl _) _
  have h0:=h.below hB0
  have hlen:∀n,(l.drop n).length=64 - n:=fun n=>by simp[hl64]
  have F:∀(n m:Nat),m<=8->n+m<=64->∀W (A:Option Addr) k,InB W w.heap.size A k (l.drop n)->Calls Tryz.prog 119 #[.slice A (64 - n) k,.int .i64 (m:Int)] W fun x w'=>x = .returned (.tuple #[.int .u64 (rfix ((l.drop n).take m):Int),.int .i64 0])/\W=w':=by
    intro n m hm hnm W A k hin
    have:=refReadFixed_gives W _ A k (l.drop n) m hm hin
    rw[hlen,fixV_ge (by rw[hlen];omega)] at this
    exact this
  have F0:Calls Tryz.prog 119 #[.slice (some ⟨g,o,none⟩) 64 (c),.int .i64 8] (w.alloc (.cells #[.int .u64 0,.int .u64 0,.int .i64 0,.int .i64 0] 111)) fun x w'=>x = .returned (.tuple #[.int .u64 (rfix ((l.drop 0).take 8):Int),.int .i64 0])/\(w.alloc (.cells #[.int .u64 0,.int .u64 0,.int .i64 0,.int .i64 0] 111))=w':=F 0 8 (by omega) (by omega) _ (some ⟨g,o,none⟩) c h0
  have F1:Calls Tryz.prog 119 #[.slice (some ⟨g,o+8,none⟩) 56 (c - 8),.int .i64 8] (w.alloc (.cells #[.int .u64 0,.int .u64 0,.int .i64 0,.int .i64 0] 111)) fun x w'=>x = .returned (.tuple #[.int .u64 (rfix ((l.drop 8).take 8):Int),.int .i64 0])/\(w.alloc (.cells #[.int .u64 0,.int .u64 0,.int .i64 0,.int .i64 0] 111))=w':=F 8 8 (by omega) (by omega) _ _ _ (h0.dropAt 8 (by rw[hl64];omega) (by omega))
  have F2:Calls Tryz.prog 119 #[.slice (some ⟨g,o+16,none⟩) 48 (c - 16),.int .i64 4] (w.alloc (.cells #[.int .u64 0,.int .u64 0,.int .i64 0,.int .i64 0] 111)) fun x w'=>x = .returned (.tuple #[.int .u64 (rfix ((l.drop 16).take 4):Int),.int .i64 0])/\(w.alloc (.cells #[.int .u64 0,.int .u64 0,.int .i64 0,.int .i64 0] 111))=w':=F 16 4 (by omega) (by omega) _ _ _ (h0.dropAt 16 (by rw[hl64];omega) (by omega))
  have F3:Calls Tryz.prog 119 #[.slice (some ⟨g,o+20,none⟩) 44 (c - 20),.int .i64 4] (w.alloc (.cells #[.int .u64 0,.int .u64 0,.int .i64 0,.int .i64 0] 111)) fun x w'=>x = .returned (.tuple #[.int .u64 (rfix ((l.drop 20).take 4):Int),.int .i64 0])/\(w.alloc (.cells #[.int .u64 0,.int .u64 0,.int .i64 0,.int .i64 0] 111))=w':=F 20 4 (by omega) (by omega) _ _ _ (h0.dropAt 20 (by rw[hl64];omega) (by omega))
  have eS:rfix ((l.drop 0).take 8)=hdS l:=rfl
  have eE:rfix ((l.drop 8).take 8)=hdE l:=rfl
  have eZ:rfix ((l.drop 16).take 4)=hdZ l:=rfl
  have eC:rfix ((l.drop 20).take 4)=hdC l:=rfl
  have hzb:hdZ l<4294967296:=rfix_take4 _
  have hcb:hdC l<4294967296:=rfix_take4 _
  have hsb:hdS l<2 ^ 64:=rfix_take8 _
  have heb:hdE l<2 ^ 64:=rfix_take8 _
  have hiff:isHead l=(headOk (hdZ l) (hdC l) && (headW (hdS l) (hdE l) (hdZ l) (hdC l) == l)):=by
    rw[Bool.eq_iff_iff,isHead_iff,Bool.and_eq_true,headOk_iff,beq_iff_eq]
    constructor
    · rintro⟨_,a1,a2,a3⟩
      exact⟨by omega,a3⟩
    · rintro⟨a1,a2⟩
      exact⟨hl64,by omega,by omega,a2⟩
  have hdv:decHV l=if isHead l then .tuple #[.agg #[.int .u64 (hdS l:Int),.int .u64 (hdE l:Int),.int .i64 (hdZ l:Int),.int .i64 (hdC l:Int)],.int .i64 0] else .tuple #[.agg #[.int .u64 0,.int .u64 0,.int .i64 0,.int .i64 0],.int .i64 150]:=rfl
  rw[eS] at F0
  rw[eE] at F1
  rw[eZ] at F2
  rw[eC] at F3
  have EN:=fun W=>refEncodeHead_gives (hdS l) (hdE l) (hdZ l) (hdC l) W hsb heb
  clear eS eE eZ eC F hsb heb hlen
  generalize hdS l=s at *
  generalize hdE l=e at *
  generalize hdZ l=z at *
  generalize hdC l=cc at *
  have hzw:IntKind.i64.wrap (z:Int)=(z:Int):=wrap_i64_fr _ (by omega) (by omega)
  have hcw:IntKind.i64.wrap (cc:Int)=(cc:Int):=wrap_i64_fr _ (by omega) (by omega)
  have HI:=Lib.hid hiff
  have HD:=Lib.hid hdv
  have HL:=Lib.hid hl64
  clear hiff hdv hl64
  go_enter Tryz.func68,Tryz.ntmps68
  go_wp2_with (first
    | (go_at_call 119;first
      | ((with_reducible refine F0.mono ?_);rintro x w' ⟨rfl,rfl⟩)
      | ((with_reducible refine F1.mono ?_);rintro x w' ⟨rfl,rfl⟩)
      | ((with_reducible refine F2.mono ?_);rintro x w' ⟨rfl,rfl⟩)
      | ((with_reducible refine F3.mono ?_);rintro x w' ⟨rfl,rfl⟩)))
  have hz2:=hb0.alloc (.cells #[.int .u64 (s:Int),.int .u64 (e:Int),.int .i64 (z:Int),.int .i64 (cc:Int)] 111)
  have hk2:=BlkIs.new (w.alloc (.cells #[.int .u64 0,.int .u64 0,.int .i64 0,.int .i64 0] 111)) 111 #[.int .u64 (s:Int),.int .u64 (e:Int),.int .i64 (z:Int),.int .i64 (cc:Int)]
  rw[World.size_alloc] at hk2
  have hin2:=h0.below ((Below.refl w.heap.size (w.alloc (.cells #[.int .u64 0,.int .u64 0,.int .i64 0,.int .i64 0] 111))).alloc (by simp) (.cells #[.int .u64 (s:Int),.int .u64 (e:Int),.int .i64 (z:Int),.int .i64 (cc:Int)] 111))
  have hB2:Below w.heap.size w ((w.alloc (.cells #[.int .u64 0,.int .u64 0,.int .i64 0,.int .i64 0] 111)).alloc (.cells #[.int .u64 (s:Int),.int .u64 (e:Int),.int .i64 (z:Int),.int .i64 (cc:Int)] 111)):=hB0.alloc (by simp) _
  clear F0 F1 F2 F3 hb0 h0 hcs hB0
  refine(EN _).mono ?_
  generalize (w.alloc (.cells #[.int .u64 0,.int .u64 0,.int .i64 0,.int .i64 0] 111)).alloc (.cells #[.int .u64 (s:Int),.int .u64 (e:Int),.int .i64 (z:Int),.int .i64 (cc:Int)] 111)=W2 at *
  rintro x W4 ⟨A4,c4,rfl,hin4,hB4⟩
  have hz4:=hz2.below hB4 hz2.lt
  have hk4:=hk2.below hB4 hk2.lt
  have hl4:=(hin2.more hB2.size).below hB4
  have hB04:Below w.heap.size w W4:=hB2.trans (hB4.mono hB2.size)
  clear EN hz2 hk2 hin2 hB2 hB4
  cases hk:headOk z cc with
  | false =>
    have h1:hEnc s e z cc=[]:=by simp[hEnc,hk]
    have h2:hErr z cc=2:=by simp[hErr,hk]
    have hno:isHead l=false:=by rw[HI.out,hk];rfl
    have HN:=Lib.hid hno
    rw[h1,h2]
    clear h1 h2 hk hin4 hno
    go_wp2_with (refine wp_storeW rfl 111 (.tmp 2) (.tmp 63) rfl w.heap.size rfl rfl rowHead hz4 (by rfl) (by rfl) zeroHead_one ?_)
    refine bodyPost_ret_by (results_cellW_tmp 2 3 rfl rfl rfl rowHead (hz4.setRow _) (by rfl)) rfl ⟨?_,below_setRow hB04 (Nat.le_refl _) _⟩
    rw[HD.out,HN.out]
    rfl
  | true =>
    obtain⟨⟨_,hz1⟩,_,hc1⟩:=(headOk_iff _ _).1 hk
    obtain⟨h1,h2⟩:=hEnc_ok (s:=s) (e:=e) (z:=z) (c:=cc) (by omega) (by omega)
    rw[h1] at hin4
    rw[h1,h2]
    have hyes:isHead l=(headW s e z cc == l):=by rw[HI.out,hk];rfl
    clear h1 h2 HI
    generalize headW s e z cc=HW at *
    have HY:=Lib.hid hyes
    have hst1:=hin4.string
    have hst2:=hl4.string
    rw[HL.out] at hst2
    clear hyes hk
    cases hq:(HW == l) with
    | false =>
      have hs1:((str HW).toList == (str l).toList)=false:=by rw[str_toList,str_toList];exact hq
      have hs2:((str HW).toList != (str l).toList)=true:=by rw[bne,hs1];rfl
      have HQ:=Lib.hid hq
      clear hq
      go_wp2_with (refine wp_storeW rfl 111 (.tmp 2) (.tmp 63) rfl w.heap.size rfl rfl rowHead hz4 (by rfl) (by rfl) zeroHead_one ?_)
      refine bodyPost_ret_by (results_cellW_tmp 2 3 rfl rfl rfl rowHead (hz4.setRow _) (by rfl)) rfl ⟨?_,below_setRow hB04 (Nat.le_refl _) _⟩
      rw[HD.out,HY.out,HQ.out]
      rfl
    | true =>
      have hs1:((str HW).toList == (str l).toList)=true:=by rw[str_toList,str_toList];exact hq
      have hs2:((str HW).toList != (str l).toList)=false:=by rw[bne,hs1];rfl
      have HQ:=Lib.hid hq
      clear hq
      go_wp2_with (first
        | (refine wp_loadW rfl 111 (.tmp 12) rfl (w.heap.size+1) rfl rowHead hk4 (by rfl) ?_)
        | (refine wp_storeW rfl 111 (.tmp 2) (.tmp 64) rfl w.heap.size rfl rfl rowHead hz4 (by rfl) (by rfl) (head_one _ _ _ _) ?_))
      refine bodyPost_ret_by (results_cellW_tmp 2 3 rfl rfl rfl rowHead (hz4.setRow _) (by rfl)) rfl ⟨?_,below_setRow hB04 (Nat.le_refl _) _⟩
      rw[HD.out,HY.out,HQ.out]
      rfl
theorem refDecodeHead_gives (w:World)(A:Option Addr)(c:Nat)(l:List UInt8)(h:InB w w.heap.size A c l) :
    Calls Tryz.prog 68 #[.slice A l.length c] w fun x w'=>x = .returned (decHV l)/\Below w.heap.size w w':=by
  by_cases hl:l.length=64
  · rw[hl]
    exact refDecodeHead_64 w A c l h hl
  · exact refDecodeHead_len w A c l h hl
end Go.Proofs.YtmllnpjldmdaeaaGreat
