/- Texts that the proof of TreeNone leans on, part 6. -/
import Derived.BigQuiet
import Derived.Maps.RangeRun
import Derived.Lib.SliceRun
import Derived.Test.YtpibjkbadnffgaaGreatTreeNoneB5
open List renaming getElem_toArray → zE, getElem_cons_zero → zB, setIfInBounds_toArray → zA, set_cons_zero → zG, set_cons_succ → zF, getElem_cons_succ → zD, map_toArray → zK, map_cons → zL, map_nil → zN, length_append → zJ, length_cons → zP, length_take → qG, take_of_length_le → qI, getElem_mem → qF, take_succ_eq_append_getElem → zW, mem_append → qK, mem_singleton → qN, getElem?_eq_getElem → zM, replicate → zR, size_toArray → zT, length_nil → qE, push_toArray → qD, append_toArray → qA, nil_append → zV, cons_append → qB, length_map → qM
open Nat renaming le_refl → zH, lt_of_lt_of_le → zO, le_trans → zU, zero_add → qC, reduceAdd → qO, reduceSub → qP
open Array renaming getElem?_eq_some_iff → zI, replicate_succ → zX, replicate_zero → zY
set_option linter.unusedVariables false
set_option maxRecDepth 100000
set_option maxHeartbeats 8000000

namespace Go.Proofs.YtpibjkbadnffgaaGreat
open Go Go.RowKit Lou
theorem pw_one (p:Int)(A:Option Addr)(n c:Nat):∀v∈(#[.int .i64 p,.slice A n c]:Array Value).toList,v.oneCell'=true:=by
 intro v e
 simp at e
 rcases e with rfl|rfl<;>rfl
theorem x_storeR {P:Program}{w:World}{ρ:Operand->Value}{o:Oper}(T:TypeId)(x y:Operand)(c:o.op = .store T x y)(g:Nat){t:TypeId}{cs cs':Array Value}(f:ρ x = .pointer (some ⟨g,0,none⟩))(e:ρ y = .agg cs'){n:Nat}(h:RowTy P T n)(hb:BlkIs w g t cs)(hn:cs.size=n)
  (hs:cs'.size=cs.size) (h1:∀v∈cs'.toList,v.oneCell'=true):(execOp ρ o).run P w = .ok .skip (w.setRow g cs'):=by
 unfold execOp
 simp only[c,f,e,Instr.storeAt,Instr.sureAddr,Sem.run_bind,Sem.run_pure,Result.andThen_ok,run_storeW (hn▸h) hb hs h1]
theorem zf_no (o:Nat)(x:UInt8):(#[.int .u64 0,.int .i64 0,.int .i64 0,.bool false,.int .i64 0,.int .u32 0,.slice none 0 0]:Array Value)[o]? ≠ some (b8 x):=by
 match o with
 | 0=>simp[b8]
 | 1=>simp[b8]
 | 2=>simp[b8]
 | 3=>simp[b8]
 | 4=>simp[b8]
 | 5=>simp[b8]
 | 6=>simp[b8]
 | n+7=>simp
theorem fr_no (e:Nat)(i p:Int)(f:Bool)(z:Int)(n:Nat)(A:Option Addr)(len k:Nat)(o:Nat)(x:UInt8):(frCells e i p f z n A len k)[o]? ≠ some (b8 x):=by
 unfold frCells
 match o with
 | 0=>simp[b8]
 | 1=>simp[b8]
 | 2=>simp[b8]
 | 3=>simp[b8]
 | 4=>simp[b8]
 | 5=>simp[b8]
 | 6=>simp[b8]
 | n+7=>simp
theorem x_sliceFr {w:World}{ρ:Operand->Value}{o:Oper}{x:Operand}(c:Array Value)(e:c.size=7)(f:o.op = .buildSlice 181 1 #[(0,x)])(h1:ρ x = .agg c):(execOp ρ o).run Tryz.prog w = .ok (.value (.slice (some ⟨w.heap.size,0,none⟩) 1 1)) (w.alloc (.cells c 256)):=by
 obtain⟨l,rfl⟩:∃l:List Value,c=l.toArray:=⟨c.toList,by simp⟩
 have hl:l.length=7:=by simpa using e
 have key:=λarr hs=>fold0 l arr hs
 rw[hl] at key
 simp[execOp,f,h1,go_sem,Result.andThen,hl,key]
theorem elFrame:ElT 181 256 7 72 (.agg zeroFr):=⟨Tryz.underlying181,by kernel_rfl,by kernel_rfl,by decide⟩
def Q3 (F:Nat->Option Addr->Nat->World->Prop)(a:Nat->Option Addr->Nat->Act):Exit->Act->World->Prop
 | .normal,b,w'=>∃q A c,F q A c w'/\b=a q A c
 | _,_,_=>False
theorem wp_stop3 {P:Program}{C:Code}{Q:Exit->Act->World->Prop}{a0:Act}{w0:World}(F:Nat->Option Addr->Nat->World->Prop)(a:Nat->Option Addr->Nat->Act)(h1:C.wp P (Q3 F a) a0 w0)(h2:∀q A c w',F q A c w'->Q .normal (a q A c) w'):C.wp P Q a0 w0 :=
 wp_mono h1 λe b w' h=>by
  cases e with
  | normal =>
   obtain⟨q,A,c,hf,rfl⟩:=h
   exact h2 q A c w' hf
  | _=>exact h.elim
section
variable (w:World)(l d many:Nat)(gD:Nat->List UInt8)(xs:List (Nat×List UInt8))(left:Int)(fr pg:Int)(sr ep:Nat)(sz:Int)
theorem append_one (hD:DkIs w d many gD xs left false)(hl:xs.length<=800000)(h1l : -1000000<=left)(bZ:left<=9223372036854775807)(aW:BlkIs w l 183 (lgC (some ⟨d,0,none⟩) fr pg sr ep sz none 0 0))(cD:l≠d)
  (g o c:Nat) (p:Int) (K:Option Addr) (I:Nat) (y:List UInt8) (hg:g<w.heap.size) (hx:w.rangeAt g o [.int .i64 p,.slice K 512 I]) (hy:InB w w.heap.size K I y) (aY:y.length=512)
  (a1:planOk fr pg=true) (bP:0<=p) (cM:p<pg) (s:Int) (hs:0<=s) (cO:s<=pg) (cN:headOk sz 1=true) (cF:11<=many) (bY:many<=1000000) (cK:sr+1<18446744073709551616) :
  Calls Tryz.prog 186 #[.pointer (some ⟨l,0,none⟩),.int .i64 s,.slice (some ⟨g,o,none⟩) 1 c] w λe w'=>e = .returned (.int .i64 0)/\(∃g',DkIs w' d many g' [] left false)/\(∃A c',BlkIs w' l 183 (lgC (some ⟨d,0,none⟩) fr pg (sr+1) ep s A 1 c'))/\GrowBut (λk=>k=d∨k=l) w w':=by
 have c3:=(planOk_iff fr pg).1 a1
 have bU:plE (planOk fr pg) p pg=0:=by rw[a1];simp[plE,bP,cM]
 have cP:plE (planOk fr pg) 0 fr=0:=by rw[a1];simp[plE];omega
 have hB:Below w.heap.size w ((w.alloc (.cells #[.pointer (some ⟨l,0,none⟩)] 110)).alloc (.cells #[.int .i64 s] 3)):=((Below.refl _ w).alloc (zH _) _).alloc (by simp) _
 have b0:=(BlkIs.new w 110 #[.pointer (some ⟨l,0,none⟩)]).alloc (.cells #[.int .i64 s] 3)
 have b1:=BlkIs.new (w.alloc (.cells #[.pointer (some ⟨l,0,none⟩)] 110)) 3 #[.int .i64 s]
 rw[World.size_alloc] at b1
 have aN:=aW.below hB aW.lt
 have HN:=lnone_gives aN
 have a8:PwIn w g o 1 (λ_=>(p,K,I)):=λk hk=>by
  obtain rfl:k=0:=by omega
  exact hx
 have HR:=lright_ok _ l _ fr pg sr ep sz none 0 0 aN g o 1 c (λ_=>(p,K,I)) (by omega) (by omega) (a8.below hB hg) (by simp;omega) (λ_ _=>bU) s hs cO
 have cW:¬ fr<1:=by omega
 have cS:IntKind.i64.wrap 1=1:=by decide
 have cU:=hD.lt
 have bW:=aW.lt
 have b7:frOk 512 0 p true s=true:=(frOk_iff _ _ _ _ _).2 ⟨rfl,⟨by omega,by omega⟩,⟨bP,by omega⟩,⟨hs,by omega⟩,.inl rfl⟩
 clear a8
 go_enter Tryz.func186,Tryz.ntmps186
 go_wp2_with (first
  | (go_at_call 176;refine HN.mono ?_;rintro e w' ⟨rfl,rfl⟩)
  | (go_at_call 248;refine HR.mono ?_;rintro e E ⟨rfl,aD⟩;have aG:=aN.below aD aN.lt;have aQ:=b0.below aD b0.lt;have bJ:=b1.below aD b1.lt))
 have aH:=hB.trans (aD.mono hB.size)
 have bI:w.heap.size+2<=E.heap.size:=by have:=aD.size;simp at this;omega
 have B:Below E.heap.size E E.drew:=(Below.refl _ _).drew
 have T0:∀W,Below E.heap.size E W->W.cell? ⟨w.heap.size,0,none⟩=some (.pointer (some ⟨l,0,none⟩)):=λW u=>(aQ.below u aQ.lt).boxed
 have T6:∀W,Below E.heap.size E W->W.cell? ⟨l,6,none⟩=some (.slice none 0 0):=λW u=>by rw[(aG.below u aG.lt).cell];rfl
 have T1:∀W,Below E.heap.size E W->W.cell? ⟨l,1,none⟩=some (.int .i64 fr):=λW u=>by rw[(aG.below u aG.lt).cell];rfl
 have bQ:=hD.grow aH
 have bD:=(hy.below aH).more aH.size
 have bB:E.rangeAt g o [.int .i64 p,.slice K 512 I]:=λj v Z=>(aH.cell (p:=⟨g,o+j,none⟩) hg).trans (hx j v Z)
 clear HN HR hD aW aN b0 b1 hB aD hx hy
 refine RegF.start (λW=>Below E.heap.size E W) 99 (by kernel_rfl) ?_
 refine RegF.t0 0 (.pointer (some ⟨l,0,none⟩)) rfl B (λW u=>by have q:=T0 W u;go_simp) ?_
 simp only[zE,zB,Act.put,zA,zG,zF]
 refine RegF.t0 1 (.pointer (some ⟨l,0,none⟩)) rfl B (λW u=>by go_simp) ?_
 simp only[zE,zD,zB,Act.put,zA,zG,zF]
 refine RegF.t0 2 (.pointer (some ⟨l,6,none⟩)) rfl B (λW u=>by go_simp) ?_
 simp only[zE,zD,zB,Act.put,zA,zG,zF]
 refine RegF.t0 3 (.slice none 0 0) rfl B (λW u=>by have q:=T6 W u;go_simp) ?_
 simp only[zE,zD,zB,Act.put,zA,zG,zF]
 refine RegF.t0 4 (.int .i64 0) rfl B (λW u=>by go_simp) ?_
 simp only[zE,zD,zB,Act.put,zA,zG,zF]
 refine RegF.t0 5 (.slice (some ⟨g,o,none⟩) 1 c) rfl B (λW u=>by go_simp) ?_
 simp only[zE,zD,zB,Act.put,zA,zG,zF]
 refine RegF.t0 6 (.int .i64 1) rfl B (λW u=>by go_simp) ?_
 simp only[zE,zD,zB,Act.put,zA,zG,zF]
 refine RegF.t0 7 (.int .i64 1) rfl B (λW u=>by go_simp) ?_
 simp only[zE,zD,zB,Act.put,zA,zG,zF]
 refine RegF.t0 8 (.pointer (some ⟨l,0,none⟩)) rfl B (λW u=>by have q:=T0 W u;go_simp) ?_
 simp only[zE,zD,zB,Act.put,zA,zG,zF]
 refine RegF.t0 9 (.pointer (some ⟨l,0,none⟩)) rfl B (λW u=>by go_simp) ?_
 simp only[zE,zD,zB,Act.put,zA,zG,zF]
 refine RegF.t0 10 (.pointer (some ⟨l,0,none⟩)) rfl B (λW u=>by go_simp) ?_
 simp only[zE,zD,zB,Act.put,zA,zG,zF]
 refine RegF.t0 11 (.pointer (some ⟨l,1,none⟩)) rfl B (λW u=>by go_simp) ?_
 simp only[zE,zD,zB,Act.put,zA,zG,zF]
 refine RegF.t0 12 (.pointer (some ⟨l,1,none⟩)) rfl B (λW u=>by go_simp) ?_
 simp only[zE,zD,zB,Act.put,zA,zG,zF]
 refine RegF.t0 13 (.int .i64 fr) rfl B (λW u=>by have q:=T1 W u;go_simp) ?_
 simp only[zE,zD,zB,Act.put,zA,zG,zF]
 refine RegF.one 14 (by kernel_rfl) (RegF.opV (w':=E.drew) (.bool false) rfl rfl (by go_simp) ⟨λ_=>B,?_⟩)
 simp only[zE,zD,zB,Act.put,zA,zG,zF]
 refine RegF.one 15 (by kernel_rfl) (RegF.opV (w':=E.drew) (.bool false) rfl rfl (by go_simp) ⟨λ_=>B,RegF.done (by kernel_rfl) ?_⟩)
 simp only[zE,zD,zB,Act.put,zA,zG,zF]
 have t0:=T0 _ B
 have t6:=T6 _ B
 have a5:=bQ.grow B
 have X:=aG.drew
 have aA:=aQ.drew
 have aI:=bJ.drew
 have a9:InB E.drew E.drew.heap.size K I y:=bD.drew
 have bO:E.drew.rangeAt g o [.int .i64 p,.slice K 512 I]:=bB
 have bG:Below w.heap.size w E.drew:=aH.drew
 have cV:w.heap.size+2<=E.drew.heap.size:=bI
 clear T0 T6 T1 bQ aG aQ bJ bD bB aH bI B
 generalize E.drew=C at *
 go_wp2_with (go_at_call 249;refine(fclone_nil _).mono ?_;rintro e w' ⟨rfl,rfl⟩)
 obtain⟨W4,aT⟩:∃W4,W4=C.alloc (.cells #[.slice none 0 0] 181):=⟨_,rfl⟩
 have H:Below C.heap.size C W4:=by rw[aT];exact(Below.refl _ _).alloc (zH _) _
 have m4:BlkIs W4 C.heap.size 181 #[.slice none 0 0]:=by rw[aT];exact BlkIs.new C _ _
 rw[<-aT]
 clear aT
 go_loopw [43] (λi wr=>(i = .int .i64 0/\Below C.heap.size C wr/\BlkIs wr C.heap.size 181 #[.slice none 0 0]) ∨
  (i = .int .i64 1/\Below C.heap.size C wr/\∃fg fc m c6,1<=fc/\fc<=9223372036854775807/\BlkIs wr C.heap.size 181 #[.slice (some ⟨fg,0,none⟩) 1 fc]/\wr.rangeAt fg 0 (frCells ep 0 p true s 0 m 512 c6).toList/\fg<wr.heap.size/\C.heap.size<=fg/\InB wr wr.heap.size m c6 y/\(∀g o,m=some ⟨g,o,none⟩->C.heap.size<=g))) (λi _=>2 - (intOf i).toNat)
 case atStart=>exact .inl ⟨rfl,H,m4⟩
 case round =>
  clear H m4
  rcases hrel with⟨rfl,H,m4⟩|⟨rfl,H,fg,fc,m,c6,hfc1,hfc2,m4,hr4,hfg,hfg3,aV,V⟩
  ·have bK:wr.rangeAt g o [.int .i64 p,.slice K 512 I]:=λj v Z=>(H.cell (p:=⟨g,o+j,none⟩) (by show g<C.heap.size;omega)).trans (bO j v Z)
   have aV:=(a9.below H).more H.size
   have b4:=BlkIs.new wr 197 #[.int .i64 0,.slice none 0 0]
   have b5:=b4.setRow #[.int .i64 p,.slice K 512 I]
   have aC:Below C.heap.size C ((wr.alloc (.cells #[.int .i64 0,.slice none 0 0] 197)).setRow wr.heap.size #[.int .i64 p,.slice K 512 I]):=below_setRow (H.alloc H.size _) H.size _
   have aO:Below wr.heap.size wr ((wr.alloc (.cells #[.int .i64 0,.slice none 0 0] 197)).setRow wr.heap.size #[.int .i64 p,.slice K 512 I]):=below_setRow ((Below.refl _ wr).alloc (zH _) _) (zH _) _
   have m5:=m4.below aO m4.lt
   have bX:=(aV.below aO).more aO.size
   go_wp2_with (first
    | (refine wp_exec rfl (x_loadM rowPW bK rfl rfl rfl) ?_)
    | (refine wp_storeW rfl 197 (.tmp 9) (.tmp 47) rfl wr.heap.size rfl rfl rowPW b4 rfl rfl (pw_one _ _ _ _) ?_))
   have cR:=H.size
   clear bK aV b4 aO m4 H
   generalize (wr.alloc (.cells #[.int .i64 0,.slice none 0 0] 197)).setRow wr.heap.size #[.int .i64 p,.slice K 512 I]=f at *
   have T0:∀W,Below f.heap.size f W->W.cell? ⟨w.heap.size,0,none⟩=some (.pointer (some ⟨l,0,none⟩)):=λW u=>((aA.below aC aA.lt).below u (zO aA.lt aC.size)).boxed
   have T4:∀W,Below f.heap.size f W->W.cell? ⟨l,4,none⟩=some (.int .u64 (ep:Int)):=λW u=>by rw[((X.below aC X.lt).below u (zO X.lt aC.size)).cell];rfl
   have TM:∀W,Below f.heap.size f W->W.cell? ⟨C.heap.size,0,none⟩=some (.slice none 0 0):=λW u=>(m5.below u m5.lt).boxed
   have TP:∀W,Below f.heap.size f W->W.cell? ⟨wr.heap.size,0,none⟩=some (.int .i64 p):=λW u=>by rw[(b5.below u b5.lt).cell];rfl
   have TB:∀W,Below f.heap.size f W->W.cell? ⟨wr.heap.size,1,none⟩=some (.slice K 512 I):=λW u=>by rw[(b5.below u b5.lt).cell];rfl
   have aU:∀W,Below f.heap.size f W->Calls Tryz.prog 116 #[.slice K 512 I] W λe w'=>∃A c,e = .returned (.slice A 512 c)/\InB w' w'.heap.size A c y/\(∀g o,A=some ⟨g,o,none⟩->f.heap.size<=g)/\Below W.heap.size W w':=λW u=>by
    have h:=clone_gives W K I y ((bX.below u).more u.size) (by omega)
    rw[aY] at h
    refine h.mono ?_
    rintro e w' ⟨v,rfl,own,aB⟩
    have cH:=ownG_ge own
    obtain⟨A,c,rfl,aF⟩:=own.inB
    exact⟨A,c,by rw[aY],aF,λg o e=>by subst e;exact zU u.size (cH g rfl),aB⟩
   have B:Below f.heap.size f f.drew:=(Below.refl _ _).drew
   go_wp2_with fail
   apply wp_stop3 (λq m c6 w'=>BlkIs w' q 256 (frCells ep 0 p false 0 0 m 512 c6)/\f.heap.size<=q/\InB w' w'.heap.size m c6 y/\(∀g o,m=some ⟨g,o,none⟩->f.heap.size<=g)/\Below f.heap.size f w')
   case h1 =>
    refine RegF.start (λW=>Below f.heap.size f W) 99 (by kernel_rfl) ?_
    refine RegF.t0 0 (.pointer (some ⟨l,0,none⟩)) rfl B (λW u=>by have q:=T0 W u;go_simp) ?_
    simp only[zE,zB,Act.put,zA,zG,zF]
    refine RegF.t0 1 (.pointer (some ⟨l,0,none⟩)) rfl B (λW u=>by go_simp) ?_
    simp only[zE,zD,zB,Act.put,zA,zG,zF]
    refine RegF.t0 2 (.pointer (some ⟨l,4,none⟩)) rfl B (λW u=>by go_simp) ?_
    simp only[zE,zD,zB,Act.put,zA,zG,zF]
    refine RegF.t0 3 (.int .u64 (ep:Int)) rfl B (λW u=>by have q:=T4 W u;go_simp) ?_
    simp only[zE,zD,zB,Act.put,zA,zG,zF]
    refine RegF.t0 4 (.slice none 0 0) rfl B (λW u=>by have q:=TM W u;go_simp) ?_
    simp only[zE,zD,zB,Act.put,zA,zG,zF]
    refine RegF.t0 5 (.int .i64 0) rfl B (λW u=>by go_simp) ?_
    simp only[zE,zD,zB,Act.put,zA,zG,zF]
    refine RegF.t0 6 (.pointer (some ⟨wr.heap.size,0,none⟩)) rfl B (λW u=>by go_simp) ?_
    simp only[zE,zD,zB,Act.put,zA,zG,zF]
    refine RegF.t0 7 (.int .i64 p) rfl B (λW u=>by have q:=TP W u;go_simp) ?_
    simp only[zE,zD,zB,Act.put,zA,zG,zF]
    refine RegF.t0 8 (.slice none 0 0) rfl B (λW u=>by have q:=TM W u;go_simp) ?_
    simp only[zE,zD,zB,Act.put,zA,zG,zF]
    refine RegF.t0 10 (.pointer (some ⟨wr.heap.size,1,none⟩)) rfl B (λW u=>by go_simp) ?_
    simp only[zE,zD,zB,Act.put,zA,zG,zF]
    refine RegF.t0 11 (.slice K 512 I) rfl B (λW u=>by have q:=TB W u;go_simp) ?_
    simp only[zE,zD,zB,Act.put,zA,zG,zF]
    refine RegF.two 9 14 (by kernel_rfl) ?_ ?_
    case' refine_1 =>
     refine RegF.opC 174 #[.tmp 56] #[181] rfl rfl rfl (enters_of Tryz.func174 (by kernel_rfl) rfl) #[.slice none 0 0] (by simp only[zK,zL,zN];rfl) ((link_nil f.drew).mono ?_)
     rintro e w' ⟨rfl,rfl⟩
     refine⟨_,rfl,λ_=>B,?_⟩
     simp only[zE,zD,zB,Act.put,zA,zG,zF]
     refine RegF.two 12 14 (by kernel_rfl) ?_ ?_
     case' refine_1 =>
      refine RegF.opC 116 #[.tmp 59] #[87] rfl rfl rfl (enters_of Tryz.func116 (by kernel_rfl) rfl) #[.slice K 512 I] (by simp only[zK,zL,zN];rfl) ((aU f.drew B).mono ?_)
      rintro e Wc ⟨m,c6,rfl,O,V,aB⟩
      have M:Below f.heap.size f Wc:=B.trans (aB.mono B.size)
      refine⟨_,rfl,λ_=>M,?_⟩
      simp only[zE,zD,zB,Act.put,zA,zG,zF]
      refine RegF.t0 13 (.agg (frCells ep 0 p false 0 0 m 512 c6)) rfl M (λW u=>by go_simp;rfl) ?_
      simp only[zE,zD,zB,Act.put,zA,zG,zF]
      have U:=BlkIs.new Wc 256 #[.int .u64 0,.int .i64 0,.int .i64 0,.bool false,.int .i64 0,.int .u32 0,.slice none 0 0]
      have a7:Below f.heap.size f (Wc.alloc (.cells #[.int .u64 0,.int .i64 0,.int .i64 0,.bool false,.int .i64 0,.int .u32 0,.slice none 0 0] 256)):=M.alloc M.size _
      have bF:Below Wc.heap.size Wc (Wc.alloc (.cells #[.int .u64 0,.int .i64 0,.int .i64 0,.bool false,.int .i64 0,.int .u32 0,.slice none 0 0] 256)):=(Below.refl _ _).alloc (zH _) _
      refine RegF.one 14 (by kernel_rfl) ?_
      refine RegF.opV (w':=Wc.alloc (.cells #[.int .u64 0,.int .i64 0,.int .i64 0,.bool false,.int .i64 0,.int .u32 0,.slice none 0 0] 256)) (.pointer (some ⟨Wc.heap.size,0,none⟩)) rfl rfl (by go_simp) ⟨λ_=>a7,?_⟩
      simp only[zE,zD,zB,Act.put,zA,zG,zF]
      refine RegF.one 15 (by kernel_rfl) (RegF.opS (w':=(Wc.alloc (.cells #[.int .u64 0,.int .i64 0,.int .i64 0,.bool false,.int .i64 0,.int .u32 0,.slice none 0 0] 256)).setRow Wc.heap.size (frCells ep 0 p false 0 0 m 512 c6)) rfl rfl (x_storeR 256 (.tmp 10) (.tmp 61) rfl Wc.heap.size rfl rfl rowFrame U rfl rfl (frCells_one _ _ _ _ _ _ _ _ _)) ⟨λ_=>below_setRow a7 M.size _,RegF.done (by kernel_rfl) ?_⟩)
      simp only[zE,zD,zB,Act.put]
      have hF:BlkIs ((Wc.alloc (.cells #[.int .u64 0,.int .i64 0,.int .i64 0,.bool false,.int .i64 0,.int .u32 0,.slice none 0 0] 256)).setRow Wc.heap.size (frCells ep 0 p false 0 0 m 512 c6)) Wc.heap.size 256 (frCells ep 0 p false 0 0 m 512 c6)/\f.heap.size<=Wc.heap.size/\InB ((Wc.alloc (.cells #[.int .u64 0,.int .i64 0,.int .i64 0,.bool false,.int .i64 0,.int .u32 0,.slice none 0 0] 256)).setRow Wc.heap.size (frCells ep 0 p false 0 0 m 512 c6)) ((Wc.alloc (.cells #[.int .u64 0,.int .i64 0,.int .i64 0,.bool false,.int .i64 0,.int .u32 0,.slice none 0 0] 256)).setRow Wc.heap.size (frCells ep 0 p false 0 0 m 512 c6)).heap.size m c6 y/\(∀g o,m=some ⟨g,o,none⟩->f.heap.size<=g)/\Below f.heap.size f ((Wc.alloc (.cells #[.int .u64 0,.int .i64 0,.int .i64 0,.bool false,.int .i64 0,.int .u32 0,.slice none 0 0] 256)).setRow Wc.heap.size (frCells ep 0 p false 0 0 m 512 c6)):=⟨U.setRow _,M.size,(O.below (below_setRow bF (zH _) (frCells ep 0 p false 0 0 m 512 c6))).more (below_setRow bF (zH _) (frCells ep 0 p false 0 0 m 512 c6)).size,V,below_setRow a7 M.size _⟩
      generalize (Wc.alloc (.cells #[.int .u64 0,.int .i64 0,.int .i64 0,.bool false,.int .i64 0,.int .u32 0,.slice none 0 0] 256)).setRow Wc.heap.size (frCells ep 0 p false 0 0 m 512 c6)=W7 at hF ⊢
      generalize Wc.heap.size=q at hF ⊢
      exact⟨q,m,c6,hF,rfl⟩
     case' refine_2 =>
      have U:=BlkIs.new f.drew 256 #[.int .u64 0,.int .i64 0,.int .i64 0,.bool false,.int .i64 0,.int .u32 0,.slice none 0 0]
      have N:Below f.heap.size f (f.drew.alloc (.cells #[.int .u64 0,.int .i64 0,.int .i64 0,.bool false,.int .i64 0,.int .u32 0,.slice none 0 0] 256)):=B.alloc B.size _
      refine RegF.opV (w':=f.drew.alloc (.cells #[.int .u64 0,.int .i64 0,.int .i64 0,.bool false,.int .i64 0,.int .u32 0,.slice none 0 0] 256)) (.pointer (some ⟨f.drew.heap.size,0,none⟩)) rfl rfl (by go_simp) ⟨λ_=>N,?_⟩
      simp only[zE,zD,zB,Act.put,zA,zG,zF]
      generalize f.drew.alloc (.cells #[.int .u64 0,.int .i64 0,.int .i64 0,.bool false,.int .i64 0,.int .u32 0,.slice none 0 0] 256)=Wa at U N ⊢
      refine RegF.one 12 (by kernel_rfl) ?_
      refine RegF.opC 116 #[.tmp 59] #[87] rfl rfl rfl (enters_of Tryz.func116 (by kernel_rfl) rfl) #[.slice K 512 I] (by simp only[zK,zL,zN];rfl) ((aU Wa N).mono ?_)
      rintro e Wc ⟨m,c6,rfl,O,V,aB⟩
      have bc:=U.below aB U.lt
      have M:Below f.heap.size f Wc:=N.trans (aB.mono N.size)
      refine⟨_,rfl,λ_=>M,?_⟩
      simp only[zE,zD,zB,Act.put,zA,zG,zF]
      refine RegF.one 13 (by kernel_rfl) (RegF.opV (w':=Wc) (.agg (frCells ep 0 p false 0 0 m 512 c6)) rfl rfl (by go_simp;rfl) ⟨λ_=>M,?_⟩)
      simp only[zE,zD,zB,Act.put,zA,zG,zF]
      have aJ:Below f.heap.size f (Wc.setRow f.drew.heap.size (frCells ep 0 p false 0 0 m 512 c6)):=below_setRow M B.size _
      refine RegF.one 15 (by kernel_rfl) (RegF.opS (w':=Wc.setRow f.drew.heap.size (frCells ep 0 p false 0 0 m 512 c6)) rfl rfl (x_storeR 256 (.tmp 10) (.tmp 61) rfl f.drew.heap.size rfl rfl rowFrame bc rfl rfl (frCells_one _ _ _ _ _ _ _ _ _)) ⟨λ_=>aJ,RegF.done (by kernel_rfl) ?_⟩)
      simp only[zE,zD,zB,Act.put]
      have aM:∀g o,m=some ⟨g,o,none⟩->g≠f.drew.heap.size:=λg o e=>by
       subst e
       intro e2
       subst e2
       obtain⟨g',o',L,bC,aK⟩:=O.lies (by omega)
       injection L with L
       injection L with L e4
       subst L e4
       have h0:=aK 0 (by omega)
       rw[bc.cell] at h0
       exact zf_no _ _ h0
      have hF:BlkIs (Wc.setRow f.drew.heap.size (frCells ep 0 p false 0 0 m 512 c6)) f.drew.heap.size 256 (frCells ep 0 p false 0 0 m 512 c6)/\f.heap.size<=f.drew.heap.size/\InB (Wc.setRow f.drew.heap.size (frCells ep 0 p false 0 0 m 512 c6)) (Wc.setRow f.drew.heap.size (frCells ep 0 p false 0 0 m 512 c6)).heap.size m c6 y/\(∀g o,m=some ⟨g,o,none⟩->f.heap.size<=g)/\Below f.heap.size f (Wc.setRow f.drew.heap.size (frCells ep 0 p false 0 0 m 512 c6)):=⟨bc.setRow _,B.size,GrowBut.inB (Mu:=λk=>k=f.drew.heap.size) (GrowBut.grown (setRow_grown Wc f.drew.heap.size (frCells ep 0 p false 0 0 m 512 c6)) (λr e=>by injection e with e;exact .inl e.symm)) O (λg o e _=>aM g o e),V,aJ⟩
      generalize Wc.setRow f.drew.heap.size (frCells ep 0 p false 0 0 m 512 c6)=W7 at hF ⊢
      generalize f.drew.heap.size=q at hF ⊢
      exact⟨q,m,c6,hF,rfl⟩
    case' refine_2 =>
     have U:=BlkIs.new f.drew 256 #[.int .u64 0,.int .i64 0,.int .i64 0,.bool false,.int .i64 0,.int .u32 0,.slice none 0 0]
     have N:Below f.heap.size f (f.drew.alloc (.cells #[.int .u64 0,.int .i64 0,.int .i64 0,.bool false,.int .i64 0,.int .u32 0,.slice none 0 0] 256)):=B.alloc B.size _
     refine RegF.opV (w':=f.drew.alloc (.cells #[.int .u64 0,.int .i64 0,.int .i64 0,.bool false,.int .i64 0,.int .u32 0,.slice none 0 0] 256)) (.pointer (some ⟨f.drew.heap.size,0,none⟩)) rfl rfl (by go_simp) ⟨λ_=>N,?_⟩
     simp only[zE,zD,zB,Act.put,zA,zG,zF]
     generalize f.drew.alloc (.cells #[.int .u64 0,.int .i64 0,.int .i64 0,.bool false,.int .i64 0,.int .u32 0,.slice none 0 0] 256)=Wa at U N ⊢
     refine RegF.one 9 (by kernel_rfl) ?_
     refine RegF.opC 174 #[.tmp 56] #[181] rfl rfl rfl (enters_of Tryz.func174 (by kernel_rfl) rfl) #[.slice none 0 0] (by simp only[zK,zL,zN];rfl) ((link_nil _).mono ?_)
     rintro e w' ⟨rfl,rfl⟩
     refine⟨_,rfl,λ_=>N,?_⟩
     simp only[zE,zD,zB,Act.put,zA,zG,zF]
     refine RegF.one 12 (by kernel_rfl) ?_
     refine RegF.opC 116 #[.tmp 59] #[87] rfl rfl rfl (enters_of Tryz.func116 (by kernel_rfl) rfl) #[.slice K 512 I] (by simp only[zK,zL,zN];rfl) ((aU Wa N).mono ?_)
     rintro e Wc ⟨m,c6,rfl,O,V,aB⟩
     have bc:=U.below aB U.lt
     have M:Below f.heap.size f Wc:=N.trans (aB.mono N.size)
     refine⟨_,rfl,λ_=>M,?_⟩
     simp only[zE,zD,zB,Act.put,zA,zG,zF]
     refine RegF.one 13 (by kernel_rfl) (RegF.opV (w':=Wc) (.agg (frCells ep 0 p false 0 0 m 512 c6)) rfl rfl (by go_simp;rfl) ⟨λ_=>M,?_⟩)
     simp only[zE,zD,zB,Act.put,zA,zG,zF]
     have aJ:Below f.heap.size f (Wc.setRow f.drew.heap.size (frCells ep 0 p false 0 0 m 512 c6)):=below_setRow M B.size _
     refine RegF.one 15 (by kernel_rfl) (RegF.opS (w':=Wc.setRow f.drew.heap.size (frCells ep 0 p false 0 0 m 512 c6)) rfl rfl (x_storeR 256 (.tmp 10) (.tmp 61) rfl f.drew.heap.size rfl rfl rowFrame bc rfl rfl (frCells_one _ _ _ _ _ _ _ _ _)) ⟨λ_=>aJ,RegF.done (by kernel_rfl) ?_⟩)
     simp only[zE,zD,zB,Act.put]
     have aM:∀g o,m=some ⟨g,o,none⟩->g≠f.drew.heap.size:=λg o e=>by
      subst e
      intro e2
      subst e2
      obtain⟨g',o',L,bC,aK⟩:=O.lies (by omega)
      injection L with L
      injection L with L e4
      subst L e4
      have h0:=aK 0 (by omega)
      rw[bc.cell] at h0
      exact zf_no _ _ h0
     have hF:BlkIs (Wc.setRow f.drew.heap.size (frCells ep 0 p false 0 0 m 512 c6)) f.drew.heap.size 256 (frCells ep 0 p false 0 0 m 512 c6)/\f.heap.size<=f.drew.heap.size/\InB (Wc.setRow f.drew.heap.size (frCells ep 0 p false 0 0 m 512 c6)) (Wc.setRow f.drew.heap.size (frCells ep 0 p false 0 0 m 512 c6)).heap.size m c6 y/\(∀g o,m=some ⟨g,o,none⟩->f.heap.size<=g)/\Below f.heap.size f (Wc.setRow f.drew.heap.size (frCells ep 0 p false 0 0 m 512 c6)):=⟨bc.setRow _,B.size,GrowBut.inB (Mu:=λk=>k=f.drew.heap.size) (GrowBut.grown (setRow_grown Wc f.drew.heap.size (frCells ep 0 p false 0 0 m 512 c6)) (λr e=>by injection e with e;exact .inl e.symm)) O (λg o e _=>aM g o e),V,aJ⟩
     generalize Wc.setRow f.drew.heap.size (frCells ep 0 p false 0 0 m 512 c6)=W7 at hF ⊢
     generalize f.drew.heap.size=q at hF ⊢
     exact⟨q,m,c6,hF,rfl⟩
   case h2 =>
    rintro q m c6 T ⟨aE,c4,O,V,a2⟩
    have aZ:=aC.trans (a2.mono aC.size)
    have m6:=m5.below a2 m5.lt
    have s6:=aI.below aZ aI.lt
    have b9:IntKind.i64.wrap 0=0:=by decide
    have bH:=aE.drew.set 3 (.bool true)
    have bM:BlkIs ((T.drew.setCell ⟨q,3,none⟩ (.bool true)).setCell ⟨q,4,none⟩ (.int .i64 s)) q 256 (frCells ep 0 p true s 0 m 512 c6):=bH.set 4 (.int .i64 s)
    have cJ:∀g o,m=some ⟨g,o,none⟩->¬ g=q:=λg o e=>by
     subst e
     intro e2
     subst e2
     obtain⟨g',o',L,bC,aK⟩:=O.lies (by omega)
     injection L with L
     injection L with L e4
     subst L e4
     have h0:=aK 0 (by omega)
     rw[aE.cell] at h0
     exact fr_no _ _ _ _ _ _ _ _ _ _ _ h0
    have z3:T.cell? ⟨q,3,none⟩=some (.bool false):=by rw[aE.cell];rfl
    have z4:T.cell? ⟨q,4,none⟩=some (.int .i64 0):=by rw[aE.cell];rfl
    have y3:=aE.free 3
    have y4:=aE.free 4
    have cX:=aC.size
    have b2:¬ w.heap.size+1=q:=by omega
    have bE:¬ C.heap.size=q:=by have:=m5.lt;omega
    have aX:=s6.drew
    have a6:=aX.other (p:=⟨q,3,none⟩) b2 (.bool true)
    have aS:=(m6.drew.other (p:=⟨q,3,none⟩) bE (.bool true)).other (p:=⟨q,4,none⟩) bE (.int .i64 s)
    have a3:GrowBut (λk=>k=q) T ((T.drew.setCell ⟨q,3,none⟩ (.bool true)).setCell ⟨q,4,none⟩ (.int .i64 s)):=((GrowBut.grown (grownBy_drew T none) (λr e=>by cases e)).trans (GrowBut.grown (setCell_grown _ ⟨q,3,none⟩ _) (λr e=>by injection e with e;exact .inl e.symm))).trans (GrowBut.grown (setCell_grown _ ⟨q,4,none⟩ _) (λr e=>by injection e with e;exact .inl e.symm))
    clear T0 T4 TM TP TB aU
    go_wp2_with fail
    refine RegF.start (λW=>BlkIs W (w.heap.size+1) 3 #[.int .i64 s]) 4 (by kernel_rfl) ?_
    refine RegF.t 0 (.int .i64 s) rfl aX (λW u=>by have q:=u.boxed;go_simp) ?_
    simp only[zE,zB,Act.put,zA,zG,zF]
    refine RegF.one 1 (by kernel_rfl) (RegF.opV (w':=T.drew) (.pointer (some ⟨q,3,none⟩)) rfl rfl (by go_simp) ⟨λ_=>aX,?_⟩)
    simp only[zE,zD,zB,Act.put,zA,zG,zF]
    refine RegF.one 2 (by kernel_rfl) (RegF.opS (w':=T.drew.setCell ⟨q,3,none⟩ (.bool true)) rfl rfl (by go_simp) ⟨λ_=>a6,?_⟩)
    simp only[zE,zD,zB,Act.put]
    refine RegF.one 3 (by kernel_rfl) (RegF.opV (w':=T.drew.setCell ⟨q,3,none⟩ (.bool true)) (.pointer (some ⟨q,4,none⟩)) rfl rfl (by go_simp) ⟨λ_=>a6,?_⟩)
    simp only[zE,zD,zB,Act.put,zA,zG,zF]
    refine RegF.one 4 (by kernel_rfl) (RegF.opS (w':=(T.drew.setCell ⟨q,3,none⟩ (.bool true)).setCell ⟨q,4,none⟩ (.int .i64 s)) rfl rfl (by go_simp) ⟨λh=>absurd rfl h,RegF.done (by kernel_rfl) ?_⟩)
    simp only[zE,zD,zB,Act.put]
    clear z3 z4 y3 y4 aX a6 bH b9
    generalize (T.drew.setCell ⟨q,3,none⟩ (.bool true)).setCell ⟨q,4,none⟩ (.int .i64 s)=w7 at *
    have aR:Below C.heap.size C w7:=aZ.trans (a3.toBelow aZ.size (λk e=>by subst e;omega))
    have km:=aS.boxed
    have bL:=BlkIs.new w7 256 (frCells ep 0 p true s 0 m 512 c6)
    have aL:Below w7.heap.size w7 (w7.alloc (.cells (frCells ep 0 p true s 0 m 512 c6) 256)):=(Below.refl _ _).alloc (zH _) _
    have aF:=(ownG_in (World.ownsRow_lit (base:=w7.heap.size) (size:=7) (e:=256) w7 (frCells ep 0 p true s 0 m 512 c6) 1 (zH _) (by decide) rfl) (frCells_one _ _ _ _ _ _ _ _ _))
    obtain⟨AL,cL,eL,aF⟩:=aF
    injection eL with eL1 _ eL2
    subst eL1 eL2
    have fm:=aS.free 0
    have cB:InB w7 w7.heap.size m c6 y:=GrowBut.inB a3 O (λg o e _=>cJ g o e)
    obtain⟨FC,aP⟩:∃FC,FC=frCells ep 0 p true s 0 m 512 c6:=⟨_,rfl⟩
    rw[<-aP] at bM bL aL aF
    have bA:FC.size=7:=by rw[aP];rfl
    have bR:=Lib.hid aP
    clear aP O a2 aZ m6 s6 a3
    go_wp2_with (first
     | (refine wp_loadW rfl 256 (.tmp 10) rfl q rfl rowFrame bM bA ?_)
     | (refine wp_exec rfl (x_sliceFr FC bA rfl rfl) ?_)
     | (at_builtin;refine wp_appG rfl elFrame (.tmp 70) (.tmp 72) rfl w7.heap.size (.slice none 0 0) 0 [] rfl (World.ownsRow_nil _ _ _ _) _ (some ⟨w7.heap.size,0,none⟩) 1 1 FC.toList rfl aF (by decide) (by decide) aL.size ?_;intro v8 w8 a4 a0;replace a4:w8.ownsRow w7.heap.size 256 7 v8 1 FC.toList:=a4;obtain⟨g8,c8,cur8,rfl,c5,bN,bT,cA,cZ,bV⟩:=a4.2.resolve_left (λh=>absurd h.2 (by decide));have m8:=(aS.alloc (.cells FC 256)).grown a0 (λe=>by cases e);have c1:=m8.boxed;have cY:=m8.free 0))
    have b3:Below C.heap.size C w8:=aR.trans (((aL.mono aR.size).trans (grown_below a0 (zU aR.size aL.size) (λr e=>by cases e))))
    refine⟨.inr ⟨rfl,b3.setCell (p:=⟨C.heap.size,0,none⟩) (zH _) _,g8,c8,m,c6,bT,cA,m8.set 0 _,?_,?_,?_,?_,?_⟩,by decide⟩
    ·intro j v Z
     rw[<-bR.out] at Z
     have aM:¬ g8=C.heap.size:=by have:=aS.lt;omega
     have cC:BlkIs w8 g8 256 cur8:=bN
     refine(World.cell?_of_block (Below.heap_setCell w8 ⟨C.heap.size,0,none⟩ _ g8 aM)).trans ?_
     rw[cC.cell,<-bV] at *
     rw[List.getElem?_take] at Z
     split at Z
     ·simpa using Z
     ·cases Z
    ·show g8<_
     have:=(zI.1 bN).1
     simpa using this
    ·have:=aR.size
     omega
    ·exact GrowBut.inB (Mu:=λk=>k=C.heap.size) (((GrowBut.below aL).trans (GrowBut.grown a0 (λr e=>by cases e))).trans (GrowBut.setCell _ _ _ rfl)) cB (λg o e _=>by have:=V g o e;have:=m5.lt;omega)
    ·intro g o e
     have:=V g o e
     omega
  ·have c0:=H.size
   have d0:=a5.lt
   have d1:=X.lt
   have cT:=aA.lt
   have cQ:=aI.lt
   rw[<-aY] at hr4
   have b6:d≠w.heap.size:=by omega
   have b8:d≠w.heap.size+1:=by omega
   have c2:l<w.heap.size:=bW
   have cI:frOk y.length 0 p true s=true:=by
    rw[aY]
    exact b7
   have HS:=appS_gives wr l d many w.heap.size C.heap.size (w.heap.size+1) gD xs left fr pg sr ep sz fg fc p s m c6 y (a5.grow H) hl h1l bZ (X.below H X.lt) (aA.below H aA.lt) m4 (aI.below H aI.lt) hfc1 hfc2 hr4 hfg aV (λg o e _=>by have:=V g o e;omega) cD b6.symm (by omega) b8.symm (by omega) (by omega) (by omega) (by omega) cP cI cN cF bY cK
   have k0:=(aA.below H aA.lt).boxed
   have kl:wr.cell? ⟨l,0,none⟩=some (.pointer (some ⟨d,0,none⟩)):=by rw[(X.below H X.lt).cell];rfl
   clear a5 X aA aI a9 bO t0 t6
   go_wp2_with (go_at_call 167;refine HS.mono ?_;rintro e w9 ⟨rfl,cE,bS,cG⟩)
   go_ret
   exact⟨rfl,cE,⟨_,_,bS⟩,(GrowBut.below (bG.trans (H.mono bG.size))).trans cG⟩
end
structure DS where
 g:Nat->List UInt8
 xs:List (Nat×List UInt8)
 left:Int
 st:Bool
abbrev DkS (w:World)(d many:Nat)(s:DS):Prop:=DkIs w d many s.g s.xs s.left s.st
end Go.Proofs.YtpibjkbadnffgaaGreat
namespace Go.Proofs.YtpibjkbadnffgaaGreat
open Go Go.RowKit Lou Go.Shelf
attribute [local go_sem] Oper.semAt_some
end Go.Proofs.YtpibjkbadnffgaaGreat
namespace Go.Proofs.YtpibjkbadnffgaaGreat
open Go Go.RowKit Lou
section
variable (w:World)(l d many lb hb:Nat)(s:DS)(hs he:Nat)(hz hc:Int)
end
def fSum (e:Nat)(i p:Int)(f:Bool)(z:Int)(n:Nat)(y:List UInt8):Nat:=if frOk y.length i p f z then sumL (partB e i.toNat p.toNat f z.toNat n++y) else 0


structure FrP where
 e:Nat
 i:Int
 p:Int
 f:Bool
 z:Int
 n:Nat
 y:List UInt8
abbrev FrV:=FrP×Option Addr×Nat
def FrV.arr (v:FrV):Array Value:=frCells v.1.e v.1.i v.1.p v.1.f v.1.z v.1.n v.2.1 v.1.y.length v.2.2
theorem FrV.arr_len (v:FrV):v.arr.toList.length=7:=rfl
def vsC (vs:List FrV):List Value:=(vs.map λv=>v.arr.toList).flatten
theorem vsC_cons (v:FrV)(vs:List FrV):vsC (v::vs)=v.arr.toList++vsC vs:=rfl
theorem vsC_append (xs ys:List FrV):vsC (xs++ys)=vsC xs++vsC ys:=by simp[vsC]
theorem vsC_length:∀c:List FrV,(vsC c).length=c.length*7
 | []=>rfl
 | v::c=>by rw[vsC_cons,zJ,vsC_length c,FrV.arr_len,zP];omega
theorem vsC_elem (c:List FrV)(j:Nat)(f:j<c.length):((vsC c).drop (j*7)).take 7=c[j].arr.toList:=by
 have e:vsC c=vsC (c.take j)++(c[j].arr.toList++vsC (c.drop (j+1))):=by
  rw[<-vsC_cons,<-vsC_append,<-List.drop_eq_getElem_cons f,List.take_append_drop]
 have hl:(vsC (c.take j)).length=j*7:=by rw[vsC_length,qG];congr 1;omega
 rw[e,<-hl,List.drop_left,List.take_left' (FrV.arr_len _)]
structure FrsIs (Mu:Nat->Prop)(w:World)(A:Option Addr)(c:Nat)(vs:List FrV):Prop where
 row:InG w w.heap.size 7 A vs.length c (vsC vs)
 out:∀g o,A=some ⟨g,o,none⟩->¬ Mu g/\o=0
 nil:vs=[]->A=none
 bys:∀v∈vs,InB w w.heap.size v.2.1 v.2.2 v.1.y/\∀g o,v.2.1=some ⟨g,o,none⟩->¬ Mu g
theorem FrsIs.mt (Mu:Nat->Prop)(w:World):FrsIs Mu w none 0 []:=⟨InG.mt _ _ _,(λ_ _ e=>by cases e),λ_=>rfl,λv h=>by cases h⟩
theorem InG.keepG {Mu:Nat->Prop}{w w':World}{sz:Nat}{A:Option Addr}{n c:Nat}{cs:List Value}(h:InG w w.heap.size sz A n c cs)(f:GrowBut Mu w w')(hn:∀g o,A=some ⟨g,o,none⟩->¬ Mu g):InG w' w'.heap.size sz A n c cs :=
 ⟨h.le,h.max,h.nil,h.len,h.one,λB=>by
  obtain⟨g,o,e,i,m⟩:=h.lies B
  exact⟨g,o,e,zO i f.size,λj v u=>f.cell (m j v u) i (hn g o e)⟩⟩
theorem FrsIs.keep {Mu Nu:Nat->Prop}{w w':World}{A:Option Addr}{c:Nat}{vs:List FrV}(h:FrsIs Mu w A c vs)(j:GrowBut Nu w w')(hn:∀k,Nu k->k<w.heap.size->Mu k):FrsIs Mu w' A c vs :=
 have i:GrowBut Mu w w':=j.more hn
 ⟨h.row.keepG i (λg o e=>(h.out g o e).1),h.out,h.nil,λv f=>⟨GrowBut.inB i (h.bys v f).1 (λg o e _=>(h.bys v f).2 g o e),(h.bys v f).2⟩⟩
theorem FrsIs.grow {Mu:Nat->Prop}{w w':World}{A:Option Addr}{c:Nat}{vs:List FrV}(h:FrsIs Mu w A c vs)(hB:Below w.heap.size w w'):FrsIs Mu w' A c vs:=h.keep (GrowBut.below (Mu:=λ_=>False) hB) (λ_ h _=>h.elim)
def FrP.sum (x:FrP):Nat:=fSum x.e x.i x.p x.f x.z x.n x.y
def linkOf (fs:List FrP):Nat:=match fs.getLast? with|some x=>x.sum|none=>0
section
variable (w:World)(l d many lb mb:Nat)(s:DS)(fr pg:Int)(sr ep:Nat)(sz:Int)
end
section
variable (w:World)(l d many lb mb:Nat)(s:DS)(fr pg:Int)(sr ep:Nat)(sz:Int)
end
section
variable (w:World)(l d many lb mb szb:Nat)(s:DS)(fr pg:Int)(sr ep:Nat)(sz:Int)
end

structure LgS where
 sr:Nat
 ep:Nat
 sz:Int
 fs:List FrP
def LogIs (w:World)(l d:Nat)(fr pg:Int)(S:LgS):Prop:=l≠d/\∃A c vs,BlkIs w l 183 (lgC (some ⟨d,0,none⟩) fr pg S.sr S.ep S.sz A vs.length c)/\FrsIs (λk=>k=d∨k=l) w A c vs/\vs.map (·.1)=S.fs
def TyB (w:World)(A:Option Addr):Prop:=∀g o,A=some ⟨g,o,none⟩->∃cs,BlkIs w g 5 cs
theorem TyB.grow {w w':World}{A:Option Addr}(h:TyB w A)(hB:Below w.heap.size w w'):TyB w' A:=λg o e=>by
 obtain⟨cs,hb⟩:=h g o e
 exact⟨cs,hb.below hB hb.lt⟩
theorem BlkIs.ne_type {w:World}{g h:Nat}{t u:TypeId}{cs f:Array Value}(h1:BlkIs w g t cs)(h2:BlkIs w h u f)(hn:t≠u):g≠h:=λe=>by
 subst e
 have i:w.heap[g]? = some (.cells cs t (0,0)):=h1
 have c:w.heap[g]? = some (.cells f u (0,0)):=h2
 rw[i] at c
 injection c with c
 injection c with _ h5
 exact hn h5
theorem ownG_ty {w:World}{base:Nat}{T:TypeId}{sz:Nat}{v:Value}{n:Nat}{cs:List Value}(h:w.ownsRow base T sz v n cs):∀r,v.ownBlock=some r->∃cur,BlkIs w r T cur:=by
 intro r c
 rcases h.2 with⟨rfl,_⟩|⟨g,cap,cur,rfl,hb,hg,_⟩
 ·cases c
 ·injection c with c
  exact⟨cur,by rw[<-c];exact hg⟩
theorem headOk_of {z c:Int}(h1:0<=z)(h2:z<=2000)(e:0<=c)(f:c<=2000):headOk z c=true:=(headOk_iff _ _).2 ⟨⟨h1,h2⟩,e,f⟩
section
variable (w:World)(l d many:Nat)(s:DS)(fr pg:Int)(S:LgS)
end

structure HdP where
 s:Nat
 e:Nat
 z:Int
 c:Int
def HdP.zero:HdP:=⟨0,0,0,0⟩
def hvOf (l:List UInt8):HdP:=if isHead l then ⟨hdS l,hdE l,(hdZ l:Int),(hdC l:Int)⟩ else HdP.zero
def goodH (l:List UInt8)(j:Nat):Bool:=isHead l && decide (hdS l % 2=j)
def gdH (l:List UInt8)(j:Nat):HdP:=if goodH l j then hvOf l else HdP.zero

end Go.Proofs.YtpibjkbadnffgaaGreat
namespace Go.Proofs.YtpibjkbadnffgaaGreat
open Go Go.RowKit Lou Reg
section
variable {ρ:Operand->Value}{w:World}{o:Oper}{x y:Operand}
end
def FrP.enc (x:FrP):List UInt8:=frameB (partB x.e x.i.toNat x.p.toNat x.f x.z.toNat x.n) x.y
structure FrOn (G:Nat->List UInt8)(ep:Nat)(fs:List FrP):Prop where
 lies:∀j (h:j<fs.length),secsOf G (2+9*j) 9=(fs[j]).enc
 ok:∀j (h:j<fs.length),(fs[j]).e=ep/\(fs[j]).i=(j:Int)/\frOk (fs[j]).y.length (fs[j]).i (fs[j]).p (fs[j]).f (fs[j]).z=true/\(fs[j]).n=linkOf (fs.take j)/\(fs[j]).n<2 ^ 32
 last:∀x,fs.getLast? = some x->x.f=true
def szOf (z:Int)(fs:List FrP):Int:=match fs.getLast? with|some x=>x.z|none=>z
end Go.Proofs.YtpibjkbadnffgaaGreat
namespace Go.Proofs.YtpibjkbadnffgaaGreat
open Go Go.RowKit Lou
structure LogOn (G:Nat->List UInt8)(S:LgS)(hz:Nat):Prop where
 hd:G (S.sr % 2)=headW S.sr S.ep hz S.fs.length
 sr:S.sr<2 ^ 64
 ep:S.ep<2 ^ 64
 hzl:hz<=2000
 hn:S.fs.length<=2000
 pos:1<=S.sr
 oth:goodH (G (1 - S.sr % 2)) (1 - S.sr % 2)=true->hdS (G (1 - S.sr % 2))<S.sr
 sz:S.sz=szOf (hz:Int) S.fs
 fr:FrOn G S.ep S.fs
theorem LogOn.pick {G:Nat->List UInt8}{S:LgS}{hz:Nat}(h:LogOn G S hz):(if (gdH (G 0) 0).s<(gdH (G 1) 1).s then gdH (G 1) 1 else gdH (G 0) 0)=⟨S.sr,S.ep,(hz:Int),(S.fs.length:Int)⟩/\(goodH (G 0) 0 || goodH (G 1) 1)=true:=by
 have A:=isHead_headW (s:=S.sr) (e:=S.ep) h.sr h.ep h.hzl h.hn
 obtain⟨B,E,C,I⟩:=headW_read (s:=S.sr) (e:=S.ep) h.sr h.ep h.hzl h.hn
 have v:hvOf (headW S.sr S.ep hz S.fs.length)=⟨S.sr,S.ep,(hz:Int),(S.fs.length:Int)⟩:=by
  unfold hvOf
  rw[if_pos A,B,E,C,I]
 have f:∀j,S.sr % 2=j->goodH (headW S.sr S.ep hz S.fs.length) j=true:=λj H=>by
  unfold goodH
  rw[A,B,H]
  simp
 have u:∀l j,(goodH l j=true->hdS l<S.sr)->(gdH l j).s<S.sr:=λl j hh=>by
  unfold gdH
  cases hb:goodH l j
  ·exact h.pos
  ·have h2:isHead l=true:=by
    unfold goodH at hb
    simp at hb
    exact hb.1
   show (hvOf l).s<S.sr
   unfold hvOf
   rw[if_pos h2]
   exact hh hb
 have hd:=h.hd
 have i:=h.oth
 have c:S.sr % 2=0∨S.sr % 2=1:=by omega
 rcases c with c|c
 ·rw[c] at hd i
  have m:gdH (G 0) 0=⟨S.sr,S.ep,(hz:Int),(S.fs.length:Int)⟩:=by
   unfold gdH
   rw[hd,if_pos (f 0 c),v]
  have h1:=u (G 1) 1 i
  rw[m]
  refine⟨if_neg (by show ¬ S.sr<_;omega),?_⟩
  rw[hd,f 0 c]
  rfl
 ·rw[c] at hd i
  have m:gdH (G 1) 1=⟨S.sr,S.ep,(hz:Int),(S.fs.length:Int)⟩:=by
   unfold gdH
   rw[hd,if_pos (f 1 c),v]
  have h1:=u (G 0) 0 i
  rw[m]
  refine⟨if_pos h1,?_⟩
  rw[hd,f 1 c]
  simp


section
variable {ρ:Operand->Value}{w:World}{o:Oper}{x y:Operand}
end

section
variable {ρ:Operand->Value}{w:World}{o:Oper}{x y:Operand}{r k clock:Nat}{es:Array MapEntry}
theorem x_range (f:w.heap[r]? = some (.map es clock)){T:TypeId}{e c:TypeId}(i:Tryz.prog.underlying T=some (.map e c))(h:o.op = .range T x)(h1:ρ x = .map (some r)):(execOp ρ o).run Tryz.prog w = .ok (.value (.pointer (some ⟨w.heap.size,0,none⟩))) (w.alloc (.mapIter (some r) clock #[] clock)):=by
 have:=run_range_map (P:=Tryz.prog) w T e c r es clock i f
 simp only[execOp,h,h1,Sem.run_bind,this,Result.andThen_ok,Sem.run_pure]
theorem x_next {v:Value}{w':World}(e:(Instr.next (ρ x) false o.type).run Tryz.prog w = .ok v w')(c:o.op = .next x false):(execOp ρ o).run Tryz.prog w = .ok (.value v) w':=by
 simp only[execOp,c,Sem.run_bind,e,Result.andThen_ok,Sem.run_pure]
theorem x_entry {v:Value}{w':World}(e:(Instr.entry (ρ x)).run Tryz.prog w = .ok v w')(c:o.op = .entry x):(execOp ρ o).run Tryz.prog w = .ok (.value v) w':=by
 simp only[execOp,c,Sem.run_bind,e,Result.andThen_ok,Sem.run_pure]
end
def IterAt (w:World)(r m since:Nat)(seen:Array Nat):Prop:=∃c0,w.heap[r]? = some (.mapIter (some m) since seen c0)/\since<=c0
theorem setBlock_below {w c:World}{B r:Nat}{o:Obj}(h:c=w∨c=w.drew)(f:B<=r):Below B w (ChangeMaps.setBlock c r o):=by
 rcases h with rfl|rfl
 ·exact⟨rfl,rfl,rfl,by simp[ChangeMaps.setBlock],λk e=>by simp[ChangeMaps.setBlock];rw[Array.getElem?_setIfInBounds_ne (by omega)];try rfl⟩
 ·exact⟨rfl,rfl,rfl,by simp[ChangeMaps.setBlock],λk e=>by simp[ChangeMaps.setBlock];rw[Array.getElem?_setIfInBounds_ne (by omega)];try rfl⟩
theorem iter_next {w:World}{r m f clock:Nat}{c:Array Nat}{es:Array MapEntry}(u:TypeId)(h:IterAt w r m f c)(j:w.heap[m]? = some (.map es clock))(E:∀x∈es.toList,x.born<f)(hc:f<=clock)(C:MapKept.Stamped es clock)(N:m<r)(O:r<w.heap.size) :
  ((∀x∈es.toList,c.contains x.born=true)/\(Instr.next (.pointer (some ⟨r,0,none⟩)) false u).run Tryz.prog w = .ok (.tuple #[.bool false]) w) ∨
  ∃e,∃w':World,e∈es.toList/\c.contains e.born=false/\(Instr.next (.pointer (some ⟨r,0,none⟩)) false u).run Tryz.prog w = .ok (.tuple #[.bool true,e.key,e.val]) w'/\IterAt w' r m f (c.push e.born)/\Below r w w'/\w'.rangeLeft m r<w.rangeLeft m r /\
   (Instr.entry (.pointer (some ⟨r,0,none⟩))).run Tryz.prog w' = .ok (.tuple #[e.key,e.val]) w':=by
 obtain⟨c0,v,hs⟩:=h
 rcases run_next_at (P:=Tryz.prog) w u r m f c0 c es clock v j E hs with⟨h0,hrun⟩|⟨e,he,w1,hal,hrun⟩
 ·exact .inl ⟨all_seen es c h0,hrun⟩
 ·obtain⟨A,K⟩:=mem_left he
  have L:w1.heap[r]? = some (.mapIter (some m) f c c0):=by rcases hal with rfl|rfl<;>exact v
  have M:w1.heap[m]? = some (.map es clock):=by rcases hal with rfl|rfl<;>exact j
  have i:=MapKept.heap_set (o':=.mapIter (some m) f (c.push e.born) clock) L
  have B:(ChangeMaps.setBlock w1 r (.mapIter (some m) f (c.push e.born) clock)).heap[m]? = some (.map es clock):=(i.2 m (by omega)).trans M
  refine .inr ⟨e,_,A,K,hrun,⟨clock,i.1,hc⟩,setBlock_below hal (zH _),?_,run_entry_at _ r m f c es clock e i.1 B A ((MapKept.stamped_iff es clock).1 C).2.1⟩
  have H:(ChangeMaps.setBlock w1 r (.mapIter (some m) f (c.push e.born) clock)).rangeLeft m r=(leftOf es (c.push e.born)).size:=by
   unfold World.rangeLeft
   have h1:(ChangeMaps.setBlock w1 r (.mapIter (some m) f (c.push e.born) clock)).heap[r]? = _:=i.1
   rw[B,h1]
  have I:w.rangeLeft m r=(leftOf es c).size:=by
   unfold World.rangeLeft
   rw[j,v]
  rw[H,I]
  exact left_shrinks es c e he

def pwC (v:Int×Option Addr×Nat):List Value:=[.int .i64 v.1,.slice v.2.1 512 v.2.2]
def pwsC (vs:List (Int×Option Addr×Nat)):List Value:=(vs.map pwC).flatten
theorem pwsC_snoc (c:List (Int×Option Addr×Nat))(x:Int×Option Addr×Nat):pwsC (c++[x])=pwsC c++pwC x:=by simp[pwsC]
theorem pwsC_one (f:List (Int×Option Addr×Nat)):∀v∈pwsC f,v.oneCell'=true:=by
 intro v e
 unfold pwsC at e
 obtain⟨l,hl,c⟩:=List.mem_flatten.1 e
 obtain⟨x,_,rfl⟩:=List.mem_map.1 hl
 simp[pwC] at c
 rcases c with rfl|rfl<;>rfl
theorem pwsC_get:∀(vs:List (Int×Option Addr×Nat)) (k:Nat) (h:k<vs.length) (j:Nat) (v:Value),(pwC vs[k])[j]? = some v->(pwsC vs)[k*2+j]? = some v
 | x::vs,0,_,j,v,hv=>by
  have c:j<(pwC x).length:=(List.getElem?_eq_some_iff.1 hv).1
  have e:pwsC (x::vs)=pwC x++pwsC vs:=rfl
  rw[e,Nat.zero_mul,qC,List.getElem?_append_left c]
  exact hv
 | x::vs,k+1,h,j,v,hv=>by
  have e:pwsC (x::vs)=pwC x++pwsC vs:=rfl
  have hl:(pwC x).length=2:=rfl
  rw[e,List.getElem?_append_right (by rw[hl];omega),hl,show (k+1)*2+j - 2=k*2+j by omega]
  exact pwsC_get vs k (by simpa using h) j v hv
theorem elPW:ElT 194 197 2 32 (.agg #[.int .i64 0,.slice none 0 0]):=⟨Tryz.underlying194,by kernel_rfl,by kernel_rfl,by decide⟩


def hdS2 (l:List UInt8):Nat:=rfix ((l.drop 28).take 8)
structure LI (G:Nat->List UInt8)(S:LgS)(hz:Nat):Prop where
 on:LogOn G S hz
 len:∀k,(G k).length=64
 old:hdS2 (G (1 - S.sr % 2))<S.sr
theorem headL_one {s e:Nat}{z c:Int}(hz:0<=z/\z<=2000)(hc:0<=c/\c<=2000):wrL (s % 2) (hEnc s e z c) 1=[(s % 2,headW s e z.toNat c.toNat)]:=by
 unfold hEnc
 rw[if_pos (headOk_of hz.1 hz.2 hc.1 hc.2)]
 show [(s % 2+0,chunkB (headW s e z.toNat c.toNat) 0)]=_
 unfold chunkB
 rw[Nat.mul_zero,List.drop_zero,qI (by rw[headW_length];exact zH _)]
 rfl
section
variable {G:Nat->List UInt8}{S:LgS}{hz:Nat}{z pg:Int}{n:Nat}{pw:Nat->Int×List UInt8}
end
theorem open_newG (w:World)(fr pg:Int)(d many:Nat)(left:Int)(hD:DkIs w d many (λ_=>zer64) [] left false)(aC:planOk fr pg=true)(hm:(many:Int)=2+9*fr+8*pg)(aG:many<=1000000)(h1l : -1000000<=left)(aR:left<=9223372036854775807) :
  Calls Tryz.prog 59 #[.pointer (some ⟨d,0,none⟩),.agg #[.int .i64 fr,.int .i64 pg]] w λe w'=>∃l,e = .returned (.tuple #[.pointer (some ⟨l,0,none⟩),.int .i64 0])/\w.heap.size<=l/\DkIs w' d many (laid (λ_=>zer64) (wrL 1 (hEnc 1 1 0 0) 1)) [] left false/\BlkIs w' l 183 (lgC (some ⟨d,0,none⟩) fr pg 1 1 0 none 0 0)/\w.grownBy w' (some d):=by
 have aX:=(planOk_iff fr pg).1 aC
 have aA:Below w.heap.size w (w.alloc (.cells #[.int .i64 fr,.int .i64 pg] 59)):=(Below.refl _ w).alloc (zH _) _
 have O:=BlkIs.new w 59 #[.int .i64 fr,.int .i64 pg]
 have N:=sectors_gives fr pg (w.alloc (.cells #[.int .i64 fr,.int .i64 pg] 59))
 have aU:plE (planOk fr pg) 0 1=0:=by rw[aC];rfl
 unfold atV at N
 rw[aU,if_pos rfl,<-hm] at N
 have aZ:¬ (many:Int)=0:=by omega
 have aY:=hD.lt
 have aF:∀v∈zhd.toArray.toList,v.oneCell'=true:=by
  intro v L
  simp[zhd] at L
  rcases L with rfl|rfl<;>rfl
 have aI:∀v∈(#[.int .u64 1,.int .u64 1,.int .i64 0,.int .i64 0]:Array Value).toList,v.oneCell'=true:=by
  intro v L
  simp at L
  rcases L with rfl|rfl<;>rfl
 have aN:2<=many:=by omega
 clear hm aC
 go_enter Tryz.func59,Tryz.ntmps59
 go_wp2_with fail
 refine wp_scope_straight ?_
 go_wp2_with (first
  | (refine wp_loadW rfl 59 (.tmp 3) rfl w.heap.size rfl rowPlan O rfl ?_)
  | (go_at_call 106;refine N.mono ?_;rintro e f ⟨rfl,aD⟩;have b1:=O.below aD O.lt;have k0:f.cell? ⟨w.heap.size,0,none⟩=some (.int .i64 fr):=(by rw[b1.cell];rfl);have k1:f.cell? ⟨w.heap.size,1,none⟩=some (.int .i64 pg):=(by rw[b1.cell];rfl);have K:=aA.trans (aD.mono aA.size);have aT:=K.size;have Z:Below w.heap.size w ((f.alloc (.cells #[.pointer (some ⟨d,0,none⟩),.int .i64 fr,.int .i64 pg,.int .u64 0,.int .u64 0,.int .i64 0,.slice none 0 0] 183)).alloc (.cells #[.int .u64 0,.int .u64 0,.int .i64 0,.int .i64 0] 185)):=(K.alloc K.size _).alloc (by have:=K.size;simp;omega) _;have V:=hD.grow Z;have HL:=len_gives _ d many _ [] left false V;have E:BlkIs ((f.alloc (.cells #[.pointer (some ⟨d,0,none⟩),.int .i64 fr,.int .i64 pg,.int .u64 0,.int .u64 0,.int .i64 0,.slice none 0 0] 183)).alloc (.cells #[.int .u64 0,.int .u64 0,.int .i64 0,.int .i64 0] 185)) f.heap.size 183 (lgC (some ⟨d,0,none⟩) fr pg 0 0 0 none 0 0):=(BlkIs.new f _ _).alloc _;have bh:BlkIs ((f.alloc (.cells #[.pointer (some ⟨d,0,none⟩),.int .i64 fr,.int .i64 pg,.int .u64 0,.int .u64 0,.int .i64 0,.slice none 0 0] 183)).alloc (.cells #[.int .u64 0,.int .u64 0,.int .i64 0,.int .i64 0] 185)) (f.heap.size+1) 185 #[.int .u64 0,.int .u64 0,.int .i64 0,.int .i64 0]:=(by have:=BlkIs.new (f.alloc (.cells #[.pointer (some ⟨d,0,none⟩),.int .i64 fr,.int .i64 pg,.int .u64 0,.int .u64 0,.int .i64 0,.slice none 0 0] 183)) 185 #[.int .u64 0,.int .u64 0,.int .i64 0,.int .i64 0];rw[World.size_alloc] at this;exact this);have kl:World.cell? ((f.alloc (.cells #[.pointer (some ⟨d,0,none⟩),.int .i64 fr,.int .i64 pg,.int .u64 0,.int .u64 0,.int .i64 0,.slice none 0 0] 183)).alloc (.cells #[.int .u64 0,.int .u64 0,.int .i64 0,.int .i64 0] 185)) ⟨f.heap.size,0,none⟩=some (.pointer (some ⟨d,0,none⟩)):=(by rw[E.cell];rfl))
  | (go_at_call 107;refine HL.mono ?_;rintro e w' ⟨rfl,rfl⟩)
  | (go_at_call 108;refine(head_new _ f.heap.size d many left V kl E.lt aN aG).mono ?_;rintro e w4 ⟨rfl,B⟩;have aH:=E.below B E.lt;have M:=bh.below B bh.lt;have aL:=V.grow B)
  | (refine wp_storeW rfl 185 (.tmp 9) (.tmp 35) rfl (f.heap.size+1) rfl rfl rowHead M rfl rfl aF ?_;have X:=M.setRow zhd.toArray;have aK:=aH.setRow_ne (k:=f.heap.size+1) (by omega) zhd.toArray;have aQ:=aL.setRowO M (by decide) (by omega) zhd.toArray;have aE:w.grownBy (w4.setRow (f.heap.size+1) zhd.toArray) (some d):=grownBy_rest (below_grownBy (Z.trans (B.mono Z.size)) d) (setRow_grown _ _ _) (zH _) (λr e=>by cases e;omega))
  | (refine wp_storeW rfl 185 (.tmp 9) (.tmp 42) rfl (f.heap.size+1) rfl rfl rowHead X rfl rfl aI ?_;have aB:=X.setRow #[.int .u64 1,.int .u64 1,.int .i64 0,.int .i64 0];have aJ:=aK.setRow_ne (k:=f.heap.size+1) (by omega) #[.int .u64 1,.int .u64 1,.int .i64 0,.int .i64 0];have aO:=aQ.setRowO X (by decide) (by omega) #[.int .u64 1,.int .u64 1,.int .i64 0,.int .i64 0];have A:=grownBy_rest aE (setRow_grown _ (f.heap.size+1) #[.int .u64 1,.int .u64 1,.int .i64 0,.int .i64 0]) (zH _) (λr e=>by cases e;omega))
  | (refine wp_loadW rfl 185 (.tmp 9) rfl (f.heap.size+1) rfl rowHead aB rfl ?_)
  | (go_at_call 109;refine(lay_gives _ f.heap.size d many _ [] left 1 1 0 0 fr pg 0 0 0 none 0 0 aO (by decide) h1l aR aJ (by omega) (by decide) aN aG).mono ?_;rintro e c ⟨rfl,aM,m,u⟩;have T:=u.blk aB (by omega)))
 have aP:w.grownBy c (some d):=⟨u.os.trans A.os,u.tape.trans A.tape,u.output.trans A.output,zU A.size u.size,λk hk hn=>(u.block k (zO hk A.size) (λe=>by rcases e with e|e;exact hn (by rw[e]);omega)).trans (A.block k hk hn)⟩
 have aV:d<f.heap.size:=by omega
 have U:w.heap.size<=f.heap.size:=by omega
 clear N HL hD V aL aQ aO E aH aK aJ bh M X aB kl B Z aE A u O b1 k0 k1 aA K aD aT aF aI
 generalize f.heap.size=l at *
 have aW:¬ l=l+1:=by omega
 have j0:c.drew.cell? ⟨l+1,0,none⟩=some (.int .u64 1):=by rw[T.drew.cell];rfl
 have I:=m.drew.set 3 (.int .u64 1)
 have C:=I.set 4 (.int .u64 1)
 have bC:=C.set 5 (.int .i64 0)
 have H:=T.drew.other (p:=⟨l,3,none⟩) (by show ¬ l+1=l;omega) (.int .u64 1)
 have hB:=H.other (p:=⟨l,4,none⟩) (by show ¬ l+1=l;omega) (.int .u64 1)
 have hC:=hB.other (p:=⟨l,5,none⟩) (by show ¬ l+1=l;omega) (.int .i64 0)
 have dA:=(aM.grow (Below.refl _ _).drew).setOther m.drew (by show 7<=64;decide) (show d≠l by omega) ⟨l,3,none⟩ (.int .u64 1) rfl
 have dB:=dA.setOther I (by simp;show 7<=64;decide) (show d≠l by omega) ⟨l,4,none⟩ (.int .u64 1) rfl
 have dC:=dB.setOther C (by simp;show 7<=64;decide) (show d≠l by omega) ⟨l,5,none⟩ (.int .i64 0) rfl
 have gC:w.grownBy (((c.drew.setCell ⟨l,3,none⟩ (.int .u64 1)).setCell ⟨l,4,none⟩ (.int .u64 1)).setCell ⟨l,5,none⟩ (.int .i64 0)) (some d) :=
  grownBy_rest (grownBy_rest (grownBy_rest (grownBy_rest aP (grownBy_drew c none) (zH _) (λr e=>by cases e)) (setCell_grown _ ⟨l,3,none⟩ (.int .u64 1)) (zH _) (λr e=>by injection e with e;subst e;exact U)) (setCell_grown _ ⟨l,4,none⟩ (.int .u64 1)) (zH _) (λr e=>by injection e with e;subst e;exact U)) (setCell_grown _ ⟨l,5,none⟩ (.int .i64 0)) (zH _) (λr e=>by injection e with e;subst e;exact U)
 have a3:c.drew.cell? ⟨l,3,none⟩=some (.int .u64 1):=by rw[m.drew.cell];rfl
 have a4:(c.drew.setCell ⟨l,3,none⟩ (.int .u64 1)).cell? ⟨l,4,none⟩=some (.int .u64 1):=by rw[I.cell];rfl
 have a5:((c.drew.setCell ⟨l,3,none⟩ (.int .u64 1)).setCell ⟨l,4,none⟩ (.int .u64 1)).cell? ⟨l,5,none⟩=some (.int .i64 0):=by rw[C.cell];rfl
 have x3:c.cell? ⟨l,3,none⟩=some (.int .u64 1):=by rw[m.cell];rfl
 have x4:c.cell? ⟨l,4,none⟩=some (.int .u64 1):=by rw[m.cell];rfl
 have x5:c.cell? ⟨l,5,none⟩=some (.int .i64 0):=by rw[m.cell];rfl
 have y3:=m.free 3
 have y4:=m.free 4
 have y5:=m.free 5
 have f3:=m.drew.free 3
 have f4:=I.free 4
 have f5:=C.free 5
 have e1:(((c.drew.setCell ⟨l,3,none⟩ (.int .u64 1)).setCell ⟨l,4,none⟩ (.int .u64 1)).setCell ⟨l,5,none⟩ (.int .i64 0)).cell? ⟨l,1,none⟩=some (.int .i64 fr):=by rw[bC.cell];rfl
 have e3:(((c.drew.setCell ⟨l,3,none⟩ (.int .u64 1)).setCell ⟨l,4,none⟩ (.int .u64 1)).setCell ⟨l,5,none⟩ (.int .i64 0)).cell? ⟨l+1,3,none⟩=some (.int .i64 0):=by rw[hC.cell];rfl
 have i:=T.drew
 refine RegF.start (λW:World=>BlkIs W (l+1) 185 #[.int .u64 1,.int .u64 1,.int .i64 0,.int .i64 0]) 17 (by kernel_rfl) ?_
 refine RegF.t 0 (.pointer (some ⟨l,0,none⟩)) rfl i (λW j=>by go_simp) ?_
 simp only[zE,zB,Act.put,zA,zG,zF]
 refine RegF.t 1 (.pointer (some ⟨l,0,none⟩)) rfl i (λW j=>by go_simp) ?_
 simp only[zE,zD,zB,Act.put,zA,zG,zF]
 refine RegF.t 2 (.pointer (some ⟨l,0,none⟩)) rfl i (λW j=>by go_simp) ?_
 simp only[zE,zD,zB,Act.put,zA,zG,zF]
 refine RegF.t 3 (.pointer (some ⟨l+1,0,none⟩)) rfl i (λW j=>by go_simp) ?_
 simp only[zE,zD,zB,Act.put,zA,zG,zF]
 refine RegF.t 4 (.int .u64 1) rfl i (λW j=>by have q:W.cell? ⟨l+1,0,none⟩=some (.int .u64 1):=(by rw[j.cell];rfl);go_simp) ?_
 simp only[zE,zD,zB,Act.put,zA,zG,zF]
 refine RegF.t 5 (.pointer (some ⟨l+1,1,none⟩)) rfl i (λW j=>by go_simp) ?_
 simp only[zE,zD,zB,Act.put,zA,zG,zF]
 refine RegF.t 6 (.int .u64 1) rfl i (λW j=>by have q:W.cell? ⟨l+1,1,none⟩=some (.int .u64 1):=(by rw[j.cell];rfl);go_simp) ?_
 simp only[zE,zD,zB,Act.put,zA,zG,zF]
 refine RegF.t 7 (.pointer (some ⟨l+1,2,none⟩)) rfl i (λW j=>by go_simp) ?_
 simp only[zE,zD,zB,Act.put,zA,zG,zF]
 refine RegF.t 8 (.int .i64 0) rfl i (λW j=>by have q:W.cell? ⟨l+1,2,none⟩=some (.int .i64 0):=(by rw[j.cell];rfl);go_simp) ?_
 simp only[zE,zD,zB,Act.put,zA,zG,zF]
 refine RegF.one 9 (by kernel_rfl) (RegF.opV (w':=c.drew) (.pointer (some ⟨l,0,none⟩)) rfl rfl (by go_simp) ⟨λ_=>i,?_⟩)
 simp only[zE,zD,zB,Act.put,zA,zG,zF]
 refine RegF.one 10 (by kernel_rfl) (RegF.opV (w':=c.drew) (.pointer (some ⟨l,3,none⟩)) rfl rfl (by go_simp) ⟨λ_=>i,?_⟩)
 simp only[zE,zD,zB,Act.put,zA,zG,zF]
 refine RegF.one 11 (by kernel_rfl) (RegF.opS (w':=c.drew.setCell ⟨l,3,none⟩ (.int .u64 1)) rfl rfl (by go_simp) ⟨λ_=>H,?_⟩)
 simp only[zE,zD,zB,Act.put]
 refine RegF.one 12 (by kernel_rfl) (RegF.opV (w':=c.drew.setCell ⟨l,3,none⟩ (.int .u64 1)) (.pointer (some ⟨l,0,none⟩)) rfl rfl (by go_simp) ⟨λ_=>H,?_⟩)
 simp only[zE,zD,zB,Act.put,zA,zG,zF]
 refine RegF.one 13 (by kernel_rfl) (RegF.opV (w':=c.drew.setCell ⟨l,3,none⟩ (.int .u64 1)) (.pointer (some ⟨l,4,none⟩)) rfl rfl (by go_simp) ⟨λ_=>H,?_⟩)
 simp only[zE,zD,zB,Act.put,zA,zG,zF]
 refine RegF.one 14 (by kernel_rfl) (RegF.opS (w':=(c.drew.setCell ⟨l,3,none⟩ (.int .u64 1)).setCell ⟨l,4,none⟩ (.int .u64 1)) rfl rfl (by go_simp) ⟨λ_=>hB,?_⟩)
 simp only[zE,zD,zB,Act.put]
 refine RegF.one 15 (by kernel_rfl) (RegF.opV (w':=(c.drew.setCell ⟨l,3,none⟩ (.int .u64 1)).setCell ⟨l,4,none⟩ (.int .u64 1)) (.pointer (some ⟨l,0,none⟩)) rfl rfl (by go_simp) ⟨λ_=>hB,?_⟩)
 simp only[zE,zD,zB,Act.put,zA,zG,zF]
 refine RegF.one 16 (by kernel_rfl) (RegF.opV (w':=(c.drew.setCell ⟨l,3,none⟩ (.int .u64 1)).setCell ⟨l,4,none⟩ (.int .u64 1)) (.pointer (some ⟨l,5,none⟩)) rfl rfl (by go_simp) ⟨λ_=>hB,?_⟩)
 simp only[zE,zD,zB,Act.put,zA,zG,zF]
 refine RegF.one 17 (by kernel_rfl) (RegF.opS (w':=((c.drew.setCell ⟨l,3,none⟩ (.int .u64 1)).setCell ⟨l,4,none⟩ (.int .u64 1)).setCell ⟨l,5,none⟩ (.int .i64 0)) rfl rfl (by go_simp) ⟨λh=>absurd rfl h,RegF.done (by kernel_rfl) ?_⟩)
 simp only[zE,zD,zB,Act.put]
 have HC:=count_zero _ l fr (by omega) e1
 have aS:BlkIs (((c.drew.setCell ⟨l,3,none⟩ (.int .u64 1)).setCell ⟨l,4,none⟩ (.int .u64 1)).setCell ⟨l,5,none⟩ (.int .i64 0)) l 183 (lgC (some ⟨d,0,none⟩) fr pg 1 1 0 none 0 0):=bC
 clear x3 x4 x5 y3 y4 y5 a3 a4 a5 f3 f4 f5 i H hB I C bC hC dA dB m T aM j0 aP
 generalize ((c.drew.setCell ⟨l,3,none⟩ (.int .u64 1)).setCell ⟨l,4,none⟩ (.int .u64 1)).setCell ⟨l,5,none⟩ (.int .i64 0)=w8 at *
 go_wp2_with (go_at_call 110;refine HC.mono ?_;rintro e w' ⟨rfl,rfl⟩)
 simp only[Exit.noGoto]
 exact⟨by simp,_,results_tmp2 rfl _ _ _,⟨l,rfl,U,dC,aS,gC⟩⟩
theorem LI.begun:LI (laid (λ_=>zer64) (wrL 1 (hEnc 1 1 0 0) 1)) ⟨1,1,0,[]⟩ 0:=by
 have e:wrL 1 (hEnc 1 1 0 0) 1=[(1,headW 1 1 0 0)]:=headL_one (s:=1) (e:=1) (z:=0) (c:=0) ⟨by omega,by omega⟩ ⟨by omega,by omega⟩
 have h:∀k,laid (λ_=>zer64) [(1,headW 1 1 0 0)] k=if k=1 then headW 1 1 0 0 else zer64:=λk=>laid_one _ [] _ _ k
 rw[e]
 generalize laid (λ_=>zer64) [(1,headW 1 1 0 0)]=G at *
 have i:G (1 - 1 % 2)=zer64:=h 0
 refine⟨⟨h 1,by decide,by decide,by decide,by decide,by decide,?_,rfl,⟨λj f=>absurd f (Nat.not_lt_zero j),λj f=>absurd f (Nat.not_lt_zero j),λx m=>by cases m⟩⟩,?_,?_⟩
 ·intro _
  show hdS (G (1 - 1 % 2))<1
  rw[i]
  decide
 ·intro k
  rw[h]
  split
  ·exact headW_length _ _ _ _
  ·decide
 ·show hdS2 (G (1 - 1 % 2))<1
  rw[i]
  decide
end Go.Proofs.YtpibjkbadnffgaaGreat
namespace Go.Proofs.YtpibjkbadnffgaaGreat
open Go Go.RowKit Lou Go.Shelf

end Go.Proofs.YtpibjkbadnffgaaGreat
namespace Go.Proofs.YtpibjkbadnffgaaGreat
open Go Go.RowKit Lou

def cmpZ (a b:Int):Int:=if a<b then -1 else if b<a then 1 else 0
theorem cmpInt_gives (a b:Int)(w:World):Calls Tryz.prog 180 #[.int .i64 a,.int .i64 b] w λe w'=>e = .returned (.int .i64 (cmpZ a b))/\w=w':=by
 have c:∀(x:Int) (W:World),Calls Tryz.prog 246 #[.int .i64 x] W λe w'=>e = .returned (.bool false)/\W=w':=λx W=>by
  go_enter Tryz.func246,Tryz.ntmps246
  go_wp2
  go_ret
  exact⟨by simp,rfl⟩
 unfold cmpZ
 by_cases h1:a<b
 ·rw[if_pos h1]
  go_enter Tryz.func180,Tryz.ntmps180
  go_wp2_with (go_at_call 246;refine(c _ _).mono ?_;rintro e w' ⟨rfl,rfl⟩)
  go_ret
  exact⟨rfl,rfl⟩
 ·rw[if_neg h1]
  by_cases h2:b<a
  ·rw[if_pos h2]
   go_enter Tryz.func180,Tryz.ntmps180
   go_wp2_with (go_at_call 246;refine(c _ _).mono ?_;rintro e w' ⟨rfl,rfl⟩)
   go_ret
   exact⟨rfl,rfl⟩
  ·rw[if_neg h2]
   go_enter Tryz.func180,Tryz.ntmps180
   go_wp2_with (go_at_call 246;refine(c _ _).mono ?_;rintro e w' ⟨rfl,rfl⟩)
   go_ret
   exact⟨rfl,rfl⟩
theorem index_gives (w:World)(gf:Nat)(lb:Array Value)(M:∀args w,(callFunc gf args).run Tryz.prog w = .ok (.enter gf args) w)(p:Int->Bool)(g E:Nat)(ks:List Int)(C:∀j (h:j<ks.length),w.cell? ⟨g,j,none⟩=some (.int .i64 ks[j]))(K:ks.length<=E)(hl:ks.length<=1000000)
  (A:∀k∈ks,Calls Tryz.prog gf (#[.int .i64 k] ++ lb) w λe w'=>e = .returned (.bool (p k))/\w=w') :
  Calls Tryz.prog 194 #[.slice (some ⟨g,0,none⟩) ks.length E,.func (.func gf) #[] lb] w λe w'=>w=w'/\((e = .returned (.int .i64 (-1))/\∀k∈ks,p k=false)∨∃i:Nat,∃h:i<ks.length,e = .returned (.int .i64 (i:Int))/\p ks[i]=true/\∀k∈ks.take i,p k=false):=by
 go_enter Tryz.func194,Tryz.ntmps194
 go_wp2
 go_loopw [8] (λi wr=>∃k:Nat,k<=ks.length/\i = .int .i64 (k:Int)/\Hid (∀x∈ks.take k,p x=false)/\wr=w) (λi _=>ks.length - (intOf i).toNat)
 case atStart=>exact⟨0,by omega,rfl,Lib.hid (λx h=>by simp at h),rfl⟩
 case round =>
  obtain⟨k,L,rfl,B,rfl⟩:=hrel
  by_cases u:k<ks.length
  ·have hc:=C k u
   have f:=A ks[k] (qF u)
   have N:IntKind.i64.wrap ((k:Int)+1)=(k:Int)+1:=wrap_i64_fr _ (by omega) (by omega)
   obtain⟨x,c⟩:∃x,x=ks[k]:=⟨_,rfl⟩
   rw[<-c] at hc f
   cases hb:p x with
   | true =>
    have H:Hid (p ks[k]=true):=Lib.hid (by rw[<-c];exact hb)
    rw[hb] at f
    clear hb c C A
    go_wp2_with (refine f.mono ?_;rintro e w' ⟨rfl,rfl⟩)
    go_ret
    exact⟨rfl,.inr ⟨k,u,rfl,H.out,B.out⟩⟩
   | false =>
    have v:Hid (∀y∈ks.take (k+1),p y=false):=Lib.hid (λy m=>by
     rw[zW u] at m
     rcases qK.1 m with h|h
     ·exact B.out y h
     ·rw[qN,<-c] at h
      subst h
      exact hb)
    rw[hb] at f
    clear hb c C A
    go_wp2_with (refine f.mono ?_;rintro e w' ⟨rfl,rfl⟩)
    exact⟨⟨k+1,by omega,by simp,v,by first|rfl|trivial⟩,by simp[intOf];omega⟩
  ·have I:k=ks.length:=by omega
   have v:Hid (∀y∈ks,p y=false):=Lib.hid (λy m=>B.out y (by rw[I,List.take_length];exact m))
   go_wp2
   go_ret
   exact⟨rfl,.inl ⟨rfl,v.out⟩⟩
theorem setCells_blk {g:Nat}{T:TypeId}:∀(c:List Value) (o:Nat) (w:World) (cs:Array Value),BlkIs w g T cs->∃cs',BlkIs (w.setCells g o c) g T cs'/\cs'.size=cs.size/\(∀q,q<o->cs'[q]? = cs[q]?)/\GrowBut (λk=>k=g) w (w.setCells g o c)
 | [],o,w,cs,h=>⟨cs,h,rfl,λ_ _=>rfl,GrowBut.refl _ _⟩
 | v::r,o,w,cs,h=>by
  obtain⟨cs',h1,h2,e,f⟩:=setCells_blk r (o+1) (w.setCell ⟨g,o,none⟩ v) _ (h.set o v)
  refine⟨cs',h1,by rw[h2];simp,λq hq => ?_,(GrowBut.setCell (Mu:=λk=>k=g) w ⟨g,o,none⟩ v rfl).trans f⟩
  rw[e q (by omega),Array.getElem?_setIfInBounds_ne (by omega)]
def keptD (p:Int->Bool)(ks:List Int)(j:Nat):List Int:=(ks.take j).filter λk => !p k
theorem keptD_next (p:Int->Bool)(ks:List Int){j:Nat}(h:j<ks.length):keptD p ks (j+1)=keptD p ks j++(if p ks[j]=true then [] else [ks[j]]):=by
 unfold keptD
 rw[zW h,List.filter_append]
 congr 1
 by_cases c:p ks[j]=true
 ·rw[if_pos c];simp[c]
 ·rw[if_neg c];simp[c]
def DelRel (w:World)(g:Nat)(p:Int->Bool)(ks:List Int)(cs:Array Value)(i j:Nat)(wr:World):Prop :=
 i<j/\j<=ks.length/\(keptD p ks j).length=i/\∃cs',BlkIs wr g 3 cs'/\cs'.size=cs.size/\(∀q (h:q<(keptD p ks j).length),cs'[q]? = some (.int .i64 (keptD p ks j)[q]))/\(∀q,j<=q->cs'[q]? = cs[q]?)/\GrowBut (λk=>k=g) w wr
theorem delete_gives (w:World)(gf:Nat)(lb:Array Value)(eg:∀args w,(callFunc gf args).run Tryz.prog w = .ok (.enter gf args) w)(p:Int->Bool)(g cap:Nat)(ks:List Int)(cs:Array Value)(hb:BlkIs w g 3 cs)(B:∀j (h:j<ks.length),cs[j]? = some (.int .i64 ks[j]))(aF:ks.length<=cap)(hl:ks.length<=1000000)
  (hp:∀W,GrowBut (λk=>k=g) w W->∀k∈ks,Calls Tryz.prog gf (#[.int .i64 k] ++ lb) W λe w'=>e = .returned (.bool (p k))/\W=w') :
  Calls Tryz.prog 243 #[.slice (some ⟨g,0,none⟩) ks.length cap,.func (.func gf) #[] lb] w λe w'=>∃cs',e = .returned (.slice (some ⟨g,0,none⟩) (ks.filter λk => !p k).length cap)/\BlkIs w' g 3 cs'/\(∀q (h:q<(ks.filter λk => !p k).length),cs'[q]? = some (.int .i64 (ks.filter λk => !p k)[q]))/\GrowBut (λk=>k=g) w w':=by
 have HI:=index_gives w gf lb eg p g cap ks (λj h=>by rw[hb.cell];exact B j h) aF hl (hp w (GrowBut.refl _ _))
 go_enter Tryz.func243,Tryz.ntmps243
 go_wp2_with (go_at_call 194;refine HI.mono ?_;rintro e w1 ⟨rfl,(⟨rfl,aI⟩|⟨i0,aD,rfl,X,f⟩)⟩)
 ·go_ret
  have e:(ks.filter λk => !p k)=ks:=List.filter_eq_self.2 (λk N=>by rw[aI k N];rfl)
  rw[e]
  exact⟨cs,rfl,hb,B,GrowBut.refl _ _⟩
 ·have aJ:IntKind.i64.wrap ((i0:Int)+1)=((i0+1:Nat):Int):=by rw[wrap_i64_fr _ (by omega) (by omega)];omega
  have M:keptD p ks (i0+1)=ks.take i0:=by
   rw[keptD_next p ks aD,if_pos X,List.append_nil]
   exact List.filter_eq_self.2 (λk N=>by rw[f k N];rfl)
  have h0:DelRel w g p ks cs i0 (i0+1) w:=by
   refine⟨by omega,by omega,by rw[M];simp;omega,cs,hb,rfl,λq hq => ?_,λq _=>rfl,GrowBut.refl _ _⟩
   simp only[M] at hq ⊢
   have aM:q<i0:=by simp at hq;omega
   rw[B q (by omega)]
   simp
  clear X f M HI
  go_wp2
  go_loopw [5,6] (λi j wr=>∃a b:Nat,i = .int .i64 (a:Int)/\j = .int .i64 (b:Int)/\DelRel w g p ks cs a b wr) (λ_ j _=>ks.length - (intOf j).toNat)
  case atStart=>exact⟨i0,i0+1,rfl,by simp,h0⟩
  case round =>
   clear h0 aJ aD
   obtain⟨a,b,rfl,rfl,aQ,aV,c,cs',u,aE,f,v,E⟩:=hrel
   by_cases H:b<ks.length
   ·have aH:wr.cell? ⟨g,b,none⟩=some (.int .i64 ks[b]):=by rw[u.cell,v b (zH _)];exact B b H
    have C:=hp wr E ks[b] (qF H)
    have m:=keptD_next p ks H
    have aU:IntKind.i64.wrap ((b:Int)+1)=(b:Int)+1:=wrap_i64_fr _ (by omega) (by omega)
    have aP:IntKind.i64.wrap ((a:Int)+1)=(a:Int)+1:=wrap_i64_fr _ (by omega) (by omega)
    have aR:=u.free a
    obtain⟨x,T⟩:∃x,x=ks[b]:=⟨_,rfl⟩
    rw[<-T] at aH C m
    cases A:p x with
    | true =>
     rw[A,if_pos rfl,List.append_nil] at m
     rw[A] at C
     have L:Hid (DelRel w g p ks cs a (b+1) wr):=Lib.hid ⟨by omega,by omega,by rw[m];exact c,cs',u,aE,λq hq=>(by simp only[m] at hq ⊢;exact f q hq),λq hq=>v q (by omega),E⟩
     clear A T m f v c
     go_wp2_with (refine C.mono ?_;rintro e w' ⟨rfl,rfl⟩)
     refine⟨?_,by simp[intOf];omega⟩
     (repeat apply Exists.intro)
     exact⟨⟨a,b+1,rfl,(by first|rfl|simp),L.out⟩,rfl⟩
    | false =>
     rw[A,if_neg (by decide)] at m
     rw[A] at C
     have ha:a<cs'.size:=by
      have h1:=(zI.1 ((v b (zH _)).trans (B b H))).1
      omega
     have U:(wr.cell? ⟨g,a,none⟩).isSome=true:=by rw[u.cell,Array.getElem?_eq_getElem ha];rfl
     have L:Hid (DelRel w g p ks cs (a+1) (b+1) (wr.setCell ⟨g,a,none⟩ (.int .i64 x))):=Lib.hid ⟨by omega,by omega,by rw[m,zJ,c];rfl,_,u.set a (.int .i64 x),by rw[Array.size_setIfInBounds];exact aE,λq hq=>(by
      simp only[m] at hq ⊢
      rw[zJ,List.length_singleton,c] at hq
      by_cases aB:q=a
      ·subst aB
       rw[Array.getElem?_setIfInBounds_self_of_lt ha]
       have e:(keptD p ks b++[x])[q]? = some x:=by rw[List.getElem?_append_right (by omega),c,Nat.sub_self];rfl
       rw[zM (by rw[zJ,List.length_singleton,c];omega)] at e
       rw[Option.some.inj e]
      ·rw[Array.getElem?_setIfInBounds_ne (λe=>aB e.symm),f q (by omega)]
       have e:(keptD p ks b++[x])[q]? = some ((keptD p ks b)[q]'(by omega)):=by rw[List.getElem?_append_left (by omega),zM (by omega)]
       rw[zM (by rw[zJ,List.length_singleton,c];omega)] at e
       rw[Option.some.inj e]),λq hq=>(by rw[Array.getElem?_setIfInBounds_ne (by omega)];exact v q (by omega)),E.trans (GrowBut.setCell (Mu:=λk=>k=g) _ _ _ rfl)⟩
     have aW:a<cap:=by omega
     have aT:a<ks.length:=by omega
     obtain⟨va,aS⟩:=Option.isSome_iff_exists.1 U
     clear A T m f v c U
     go_wp2_with (refine C.mono ?_;rintro e w' ⟨rfl,rfl⟩)
     refine⟨?_,by simp[intOf];omega⟩
     (repeat apply Exists.intro)
     exact⟨⟨a+1,b+1,(by first|rfl|simp),(by first|rfl|simp),L.out⟩,rfl⟩
   ·have aG:b=ks.length:=by omega
    subst aG
    have O:keptD p ks ks.length=ks.filter λk => !p k:=by unfold keptD;rw[List.take_length]
    have Z:Hid (∀q (h:q<(ks.filter λk => !p k).length),cs'[q]? = some (.int .i64 (ks.filter λk => !p k)[q])):=Lib.hid (λq hq=>by have h2:=f q (by rw[O];exact hq);rw[h2];simp only[O])
    rw[O] at c
    have aC:∀j,j<ks.length->(wr.cell? ⟨g,j,none⟩).isSome=true:=λj K=>by
     have h1:=(zI.1 (B j K)).1
     rw[u.cell,Array.getElem?_eq_getElem (by omega)]
     rfl
    have aX:∀I,(Builtin.clear_ #[41] I #[.slice (some ⟨g,a,none⟩) (ks.length - a) (cap - a)]).run Tryz.prog wr = .ok (.tuple #[]) (wr.setCells g a (zR (ks.length - a) (.int .i64 0))):=λI =>
     Lib.run_clear_slice wr _ 3 I (.int .i64 0) Tryz.underlying41 (λw=>by kernel_rfl) rfl rfl g a _ _ (by omega) (λj K=>aC (a+j) (by omega)) (λj K=>u.free (a+j))
    obtain⟨aA,aL,aY,V,aK⟩:=setCells_blk (zR (ks.length - a) (.int .i64 0)) a wr cs' u
    have aO:a<=cap:=by omega
    have aN:a<=ks.length:=by omega
    have hN:Hid (∀q (h:q<(ks.filter λk => !p k).length),aA[q]? = some (.int .i64 (ks.filter λk => !p k)[q])):=Lib.hid (λq hq=>by rw[V q (by omega)];exact Z.out q hq)
    clear f v V Z aC
    go_wp2
    go_ret
    exact⟨aA,by rw[c];rfl,aL,hN.out,E.trans aK⟩
end Go.Proofs.YtpibjkbadnffgaaGreat
namespace Go.Proofs.YtpibjkbadnffgaaGreat
open Go Go.RowKit Go.Shelf
attribute [local go_sem] Oper.semAt_some
def KeepU (U:Nat->Prop)(W W':World):Prop:=W.heap.size<=W'.heap.size/\∀k o,W.heap[k]? = some o->¬ U k->W'.heap[k]? = some o
theorem KeepU.refl (U:Nat->Prop)(W:World):KeepU U W W:=⟨zH _,λ_ _ h _=>h⟩
theorem KeepU.trans {U:Nat->Prop}{X Y Z:World}(h:KeepU U X Y)(k:KeepU U Y Z):KeepU U X Z:=⟨zU h.1 k.1,λi o e c=>k.2 i o (h.2 i o e c) c⟩
theorem KeepU.grow (U:Nat->Prop){X Y:World}(h:Below X.heap.size X Y):KeepU U X Y:=⟨h.size,λk o c _=>(h.block k (zI.1 c).1).trans c⟩
theorem KeepU.grown (U:Nat->Prop){X Y:World}{row:Option Nat}(h:X.grownBy Y row)(f:∀r,row=some r->U r):KeepU U X Y:=⟨h.size,λk o c hn=>(h.block k (zI.1 c).1 (λe=>hn (f k e.symm))).trans c⟩
theorem KeepU.setCell {U:Nat->Prop}(X:World)(p:Addr)(v:Value)(c:U p.block):KeepU U X (X.setCell p v) :=
 ⟨by simp,λk o f hn=>(Below.heap_setCell X p v k (λe=>hn (by rw[e];exact c))).trans f⟩
theorem KeepU.cell {U:Nat->Prop}{X Y:World}(h:KeepU U X Y){p:Addr}{v:Value}(hc:X.cell? p=some v)(e:¬ U p.block):Y.cell? p=some v:=by
 have hb:∃o,X.heap[p.block]? = some o:=by
  cases c:X.heap[p.block]? with
  | none=>simp[World.cell?,c] at hc
  | some o=>exact⟨o,rfl⟩
 obtain⟨o,c⟩:=hb
 rw[World.cell?_of_block ((h.2 _ o c e).trans c.symm)]
 exact hc
theorem KeepU.blk {U:Nat->Prop}{X Y:World}(h:KeepU U X Y){g:Nat}{t:TypeId}{cs:Array Value}(hb:BlkIs X g t cs)(c:¬ U g):BlkIs Y g t cs:=h.2 _ _ hb c
def LaterU (n:Nat)(U U':Nat->Prop):Prop:=∀k,U' k->U k∨n<=k
theorem LaterU.refl (n:Nat)(U:Nat->Prop):LaterU n U U:=λ_ h => .inl h
theorem LaterU.trans {n m:Nat}{U V X:Nat->Prop}(h:LaterU n U V)(k:LaterU m V X)(hn:n<=m):LaterU n U X:=λj c=>(k j c).elim (λe=>h j e) (λe => .inr (by omega))
def StB {α : Type}(J:List α -> (Nat->Prop)->World->Prop):Prop:=∀s U X Y,J s U X->Below X.heap.size X Y->J s U Y
def StU {α : Type}(B:Nat)(I:List α -> (Nat->Prop)->World->Prop):Prop:=∀s U X Y row,I s U X->X.grownBy Y row->(∀r,row=some r->B<=r/\∃o:Obj,X.heap[r]? = some o/\o.isCells=false)->I s U Y
theorem StU.b {α : Type}{B:Nat}{I:List α -> (Nat->Prop)->World->Prop}(h:StU B I):StB I:=λs U X Y hs c=>h s U X Y none hs ⟨c.os,c.tape,c.output,c.size,λk f _=>c.block k f⟩ (λr e=>by cases e)
theorem StU.putObj {α : Type}{B:Nat}{I:List α -> (Nat->Prop)->World->Prop}(h:StU B I){s:List α}{U:Nat->Prop}{X:World}{l:Nat}{o':Obj}(o:Obj)(hs:I s U X)(hl:B<=l)(c:X.heap[l]? = some o')(f:o'.isCells=false):I s U (X.putObj l o) :=
 h s U X _ (some l) hs (grownBy_putObj' X l o) (λr e=>by cases e;exact⟨hl,_,c,f⟩)
def SeqU {α : Type}(F:Fence)(n:Nat)(P:Program)(g:Nat)(lb:Array Value)(encs : α -> Array Value)(Ok:(Nat->Prop)->Prop)(Rd:List α -> α -> World->Prop)(S Sp:List α -> Prop)(w:World):Prop :=
 ∀(l:Nat) (J Jx:List α -> (Nat->Prop)->World->Prop) (U0:Nat->Prop) (W:World),Below w.heap.size w W->Ok U0->StB J->(∀s U X,J s U X->∀k,U k->k<X.heap.size) ->
  (∀pre x U W1,J pre U W1->Rd pre x W1->YieldAt F (n - 1) P l (encs x) W1 λe W' =>
   (e = .returned (.bool true)/\∃U',LaterU W1.heap.size U U'/\J (pre++[x]) U' W'/\KeepU U W1 W')∨(e = .returned (.bool false)/\∃U',Jx (pre++[x]) U' W')) ->
  J [] U0 W ->
  CallsIn F n P g (#[.func (.yield l) #[] #[]] ++ lb) W λe W'=>(∃v,e = .returned v)/\((∃xs U',S xs/\J xs U' W')∨(∃pre U',Sp pre/\Jx pre U' W'))
def postU {α : Type}(I:List α -> (Nat->Prop)->World->Prop)(Ix:Code->List α -> (Nat->Prop)->World->Prop)(U:Nat->Prop)(xs:List α)(W:World):Exit->Act->World->Prop
 | .normal,_,W'=>∃U',LaterU W.heap.size U U'/\KeepU U W W'/\I xs U' W'
 | .ret,_,W'=>∃U',KeepU U W W'/\Ix .ret xs U' W'
 | .exit id,_,W'=>∃U',KeepU U W W'/\Ix (.exit id) xs U' W'
 | .goto t,_,W'=>∃U',KeepU U W W'/\Ix (.goto t) xs U' W'
 | .panic _,_,_=>False
 | .outgrown,_,_=>False
section
variable {F:Fence}{n:Nat}{P:Program}{w:World}
theorem wpIn_rangeFunc_U {α : Type}{g:Operand}{ps:Array Tmp}{assign body:Code}{Q:Exit->Act->World->Prop}{a:Act}
  (aO:F.round=none) (h1:1<=n) {gf:Nat} {lb:Array Value} (H:a.eval g = .func (.func gf) #[] lb) (a0:F.fn gf) (eg:∀args w,(callFunc gf args).run P w = .ok (.enter gf args) w)
  {encs : α -> Array Value} {Ok:(Nat->Prop)->Prop} {Rd:List α -> α -> World->Prop} {S Sp:List α -> Prop} {w0:World} (aN:SeqU F (n - 1) P gf lb encs Ok Rd S Sp w0)
  (aG:Below w0.heap.size w0 w) (aT:∀x,(encs x).size=ps.size) (U0:Nat->Prop) (aL:Ok U0)
  (I:List α -> (Nat->Prop)->World->Prop) (O:Code->List α -> (Nat->Prop)->World->Prop) (hI:StU w.heap.size I) (aJ:∀c,StU w.heap.size (O c)) (aC:∀s U X,I s U X->∀k,U k->k<X.heap.size)
  (aV:∀i x,OwnFrom w.heap.size (λ(_:Unit) W=>Rd i x W)) (h0:I [] U0 w) (a₁ : α -> Act)
  (aR:∀(l:Nat) (x : α) (W:World) (K:Act->World->Prop),K (a₁ x) W ->
   assign.wpIn (F.inRound l) (n - 1 - 1) P (Exit.then K (λ_ _ _=>False)) { tmps:=(ps.zip (encs x)).foldl (λt (p,v)=>t.setIfInBounds p v) a.tmps,defers:=[] } W)
  (aQ:∀(l:Nat) (i:List α) (x : α) (U:Nat->Prop) (W:World),I i U W->Rd i x W->body.wpIn (F.inRound l) (n - 1 - 1) P (postU I O U (i++[x]) W) (a₁ x) W)
  (aX:∀(D:Nat) (xs:List α) (U:Nat->Prop) (W:World),w.heap.size<=D->S xs->I xs U W->W.heap[D]? = some (.deferred (some []))->Q .normal { a with defers:={ target:=.collected D,args:=#[] }::a.defers } W)
  (aP:∀(D:Nat) (c:Code) (i:List α) (U:Nat->Prop) (W:World),w.heap.size<=D->Sp i->O c i U W->W.heap[D]? = some (.deferred (some []))->c.wpIn F n P Q { a with defers:={ target:=.collected D,args:=#[] }::a.defers } W) :
  (Code.rangeFunc g ps assign body).wpIn F n P Q a w:=by
 refine wpIn_rangeFunc λfn aW => ?_
 rw[aO]
 -- the loop's record, and the world that bears it and the block for deferred calls
 obtain⟨f,E⟩:∃f:LoopState->Option Code->Loop,f=λst pe => { state:=st,pending:=pe,fn,tmps:=a.tmps,params:=ps,assign,body,defers:=w.heap.size }:=⟨_,rfl⟩
 obtain⟨V,hV⟩:∃V,(w.alloc (.deferred (some []))).alloc (.loop (f .ready none))=V:=⟨_,rfl⟩
 have vL:V.heap[w.heap.size+1]? = some (.loop (f .ready none)):=by
  subst hV
  have:=World.alloc_heap_new (w.alloc (.deferred (some []))) (.loop (f .ready none))
  rwa [World.size_alloc] at this
 have vD:V.heap[w.heap.size]? = some (.deferred (some [])):=by
  subst hV
  exact(Below.heap_alloc _ _ _ (by simp)).trans (World.alloc_heap_new w _)
 have aK:Below w.heap.size w V:=by
  subst hV
  exact((Below.refl _ w).alloc (zH _) _).alloc (by simp) _
 have vI:I [] U0 V:=hI.b _ _ _ _ h0 aK
 have vS:V.heap.size=w.heap.size+2:=by subst hV;simp
 have vB:Below w0.heap.size w0 V:=aG.trans (aK.mono aG.size)
 refine⟨w.heap.size+1,[{ target:=.collected w.heap.size,args:=#[] }],V,{ target:=.fn (.func gf) lb,args:=#[.func (.yield (w.heap.size+1)) #[] #[]] },V,gf,#[.func (.yield (w.heap.size+1)) #[] #[]] ++ lb,V,?_,?_,?_,?_,λ_=>h1,?_⟩
 ·rw[<-hV,E];exact run_enterLoop_outer _ _ _ _ _
 ·simp only[resolve,H]
  simp[go_sem]
 ·intro f' aI
  simp[Target.leads] at aI
  subst aI
  exact a0
 ·simp[invoke,go_sem,eg]
 have aH:∀{A B:World} {k:Nat} {o:Obj},A.heap[k]? = some o->Below A.heap.size A B->B.heap[k]? = some o:=λu H=>(H.block _ (zI.1 u).1).trans u
 refine(aN (w.heap.size+1)
  (λi U W=>I i U W/\W.heap[w.heap.size+1]? = some (.loop (f .ready none))/\W.heap[w.heap.size]? = some (.deferred (some []))/\¬ U w.heap.size/\¬ U (w.heap.size+1))
  (λi U W=>∃c,O c i U W/\W.heap[w.heap.size+1]? = some (.loop (f .done (some c)))/\W.heap[w.heap.size]? = some (.deferred (some [])))
  U0 V vB aL
  (λs U A B hs H=>⟨hI.b s U A B hs.1 H,aH hs.2.1 H,aH hs.2.2.1 H,hs.2.2.2⟩)
  (λs U X hs=>aC s U X hs.1)
  ?round ⟨vI,vL,vD,λe=>by have:=aC _ _ _ h0 _ e;omega,λe=>by have:=aC _ _ _ h0 _ e;omega⟩).mono ?behind
 case round =>
  rintro i x U W ⟨T,hl,u,aF,aE⟩ aS
  have aY:w.heap.size+1<W.heap.size:=(zI.1 hl).1
  have hy:=run_yield (P:=P) (args:=encs x) hl (by rw[E];exact aT x)
  rw[E] at hy
  refine⟨fn,_,assign,body,hy,roundIn_of_wpIn aW (aR _ x W _ ⟨_,run_beginRound hl (by rw[E]),?_⟩)⟩
  clear hy
  have bL:(W.putObj (w.heap.size+1) (.loop { f .ready none with state:=.busy })).heap[w.heap.size+1]? = some (.loop { f .ready none with state:=.busy }):=World.putObj_heap_same aY
  have bD:(W.putObj (w.heap.size+1) (.loop { f .ready none with state:=.busy })).heap[w.heap.size]? = some (.deferred (some [])):=(World.putObj_heap_other (by omega)).trans u
  refine wpIn_mono (aQ _ i x U _ (hI.putObj _ T (by omega) hl rfl) ((aV i x).putObj (s:=()) _ aS (by omega) hl rfl)) ?_
  -- the round's end
  have fin:∀(C:Option Code) (Z:World),KeepU U (W.putObj (w.heap.size+1) (.loop { f .ready none with state:=.busy })) Z ->
    (Instr.endRound (w.heap.size+1) C).run P Z = .ok (.bool C.isNone) (Z.putObj (w.heap.size+1) (.loop (f (if C.isNone then .ready else .done) C))) /\
    Z.heap[w.heap.size+1]? = some (.loop { f .ready none with state:=.busy }) /\
    (Z.putObj (w.heap.size+1) (.loop (f (if C.isNone then .ready else .done) C))).heap[w.heap.size+1]? = some (.loop (f (if C.isNone then .ready else .done) C)) /\
    (Z.putObj (w.heap.size+1) (.loop (f (if C.isNone then .ready else .done) C))).heap[w.heap.size]? = some (.deferred (some [])):=λC Z aB=>by
   have uL:=aB.2 _ _ bL aE
   have:=run_endRound (P:=P) C uL
   rw[E] at this ⊢
   exact⟨this,by rw[E] at uL;exact uL,World.putObj_heap_same (zI.1 uL).1,(World.putObj_heap_other (by omega)).trans (aB.2 _ _ bD aF)⟩
  have out:∀(c:Code) (j:Nat->Prop) (Z:World),KeepU U (W.putObj (w.heap.size+1) (.loop { f .ready none with state:=.busy })) Z->O c (i++[x]) j Z ->
    (∃c',O c' (i++[x]) j (Z.putObj (w.heap.size+1) (.loop (f .done (some c))))/\(Z.putObj (w.heap.size+1) (.loop (f .done (some c)))).heap[w.heap.size+1]? = some (.loop (f .done (some c')))/\(Z.putObj (w.heap.size+1) (.loop (f .done (some c)))).heap[w.heap.size]? = some (.deferred (some []))):=λc j Z aB aU=>by
   obtain⟨_,h3,h4,h5⟩:=fin (some c) Z aB
   exact⟨c,(aJ c).putObj _ aU (by omega) h3 rfl,h4,h5⟩
  rintro e a3 Z N
  cases e with
  | normal =>
   obtain⟨j,aA,m,L⟩:=N
   obtain⟨M,h3,h4,h5⟩:=fin none Z m
   have aZ:(W.putObj (w.heap.size+1) (.loop { f .ready none with state:=.busy })).heap.size=W.heap.size:=by simp[World.putObj]
   rw[aZ] at aA
   refine⟨_,_,M,.inl ⟨rfl,j,aA,⟨hI.putObj _ L (by omega) h3 rfl,h4,h5,λe => ?_,λe => ?_⟩,by have:=m.1;simpa using this,λk o u hm => ?_⟩⟩
   ·rcases aA _ e with h|h
    ·exact aF h
    ·omega
   ·rcases aA _ e with h|h
    ·exact aE h
    ·omega
   ·by_cases aD:k=w.heap.size+1
    ·subst aD
     rw[hl] at u
     rw[<-u]
     exact h4
    ·rw[World.putObj_heap_other aD]
     exact m.2 k o (by rw[World.putObj_heap_other aD];exact u) hm
  | ret =>
   obtain⟨j,m,L⟩:=N
   exact⟨_,_,(fin (some .ret) Z m).1,.inr ⟨rfl,j,out .ret j Z m L⟩⟩
  | exit id =>
   obtain⟨j,m,L⟩:=N
   exact⟨_,_,(fin (some (.exit id)) Z m).1,.inr ⟨rfl,j,out (.exit id) j Z m L⟩⟩
  | goto t =>
   obtain⟨j,m,L⟩:=N
   exact⟨_,_,(fin (some (.goto t)) Z m).1,.inr ⟨rfl,j,out (.goto t) j Z m L⟩⟩
  | panic ch=>exact N.elim
  | outgrown=>exact N.elim
 case behind =>
  rintro e Z ⟨⟨v,rfl⟩,(⟨xs,j,hS,T,hl,u,_⟩|⟨i,j,aM,c,T,hl,u⟩)⟩
  ·have M:=run_endLoop (P:=P) hl (by rw[E];simp)
   rw[E] at M
   exact⟨none,_,M,aX _ xs j _ (zH _) hS (hI.putObj _ T (by omega) hl rfl) ((World.putObj_heap_other (by omega)).trans u)⟩
  ·have M:=run_endLoop (P:=P) hl (by rw[E];simp)
   rw[E] at M
   exact⟨some c,_,M,aP _ c i j _ (zH _) aM ((aJ c).putObj _ T (by omega) hl rfl) ((World.putObj_heap_other (by omega)).trans u)⟩
end
end Go.Proofs.YtpibjkbadnffgaaGreat
namespace Go.Proofs.YtpibjkbadnffgaaGreat
open Go Go.RowKit Lou
theorem wrapN (n:Int)(h0 : -9223372036854775808<=n)(h1:n<9223372036854775808):IntKind.i64.wrap n=n:=by
 simp[IntKind.wrap,IntKind.bits,IntKind.signed]
 split<;>omega
structure Cel where
 key:ByteArray
 val:ByteArray
 page:Int
 size:Int
structure Nod where
 leaf:Bool
 cells:List Cel
 keys:List ByteArray
 kids:List Int
def celC (c:Cel):List Value:=[.string c.key,.string c.val,.int .i64 c.page,.int .i64 c.size]
def clC (cs:List Cel):List Value:=(cs.map celC).flatten
def skC (ks:List ByteArray):List Value:=ks.map Value.string
def ikC (ks:List Int):List Value:=ks.map (Value.int .i64)
theorem clC_length:∀cs:List Cel,(clC cs).length=cs.length*4
 | []=>rfl
 | c::cs=>by
  have e:clC (c::cs)=celC c++clC cs:=rfl
  rw[e,zJ,clC_length cs,zP]
  show 4+_=_
  omega
theorem clC_elem:∀(cs:List Cel) (j:Nat) (h:j<cs.length),((clC cs).drop (j*4)).take 4=celC cs[j]
 | c::cs,0,_=>by
  have e:clC (c::cs)=celC c++clC cs:=rfl
  rw[e]
  rfl
 | c::cs,j+1,h=>by
  have e:clC (c::cs)=celC c++clC cs:=rfl
  rw[e,show (j+1)*4=4+j*4 from by omega,<-List.drop_drop]
  have f:(celC c++clC cs).drop 4=clC cs:=rfl
  rw[f,clC_elem cs j (by simpa using h)]
  rfl
theorem clC_one (cs:List Cel):∀v∈clC cs,v.oneCell'=true:=by
 intro v e
 obtain⟨l,hl,e⟩:=List.mem_flatten.1 e
 obtain⟨c,_,rfl⟩:=List.mem_map.1 hl
 simp[celC] at e
 rcases e with rfl|rfl|rfl|rfl<;>rfl
theorem skC_one (ks:List ByteArray):∀v∈skC ks,v.oneCell'=true:=by
 intro v c
 obtain⟨k,_,rfl⟩:=List.mem_map.1 c
 rfl
theorem ikC_one (ks:List Int):∀v∈ikC ks,v.oneCell'=true:=by
 intro v c
 obtain⟨k,_,rfl⟩:=List.mem_map.1 c
 rfl
theorem celC_one (c:Cel):∀v∈celC c,v.oneCell'=true:=by
 intro v e
 simp[celC] at e
 rcases e with rfl|rfl|rfl|rfl<;>rfl
theorem rowCel:RowTy Tryz.prog 49 4:=⟨⟨_,Tryz.underlying49,rfl⟩,by kernel_rfl⟩
theorem rowNod:RowTy Tryz.prog 43 4:=⟨⟨_,Tryz.underlying43,rfl⟩,by kernel_rfl⟩
theorem elStr:ElT 40 9 1 16 (.string ByteArray.empty):=⟨Tryz.underlying40,by kernel_rfl,by kernel_rfl,by decide⟩
def nodC (x:Nod)(Ac:Option Addr)(cc:Nat)(Ak:Option Addr)(ck:Nat)(Ai:Option Addr)(ci:Nat):Array Value:=#[.bool x.leaf,.slice Ac x.cells.length cc,.slice Ak x.keys.length ck,.slice Ai x.kids.length ci]
structure NIs (w:World)(B:Nat)(x:Nod)(Ac:Option Addr)(cc:Nat)(Ak:Option Addr)(ck:Nat)(Ai:Option Addr)(ci:Nat):Prop where
 c:InG w B 4 Ac x.cells.length cc (clC x.cells)
 k:InG w B 1 Ak x.keys.length ck (skC x.keys)
 i:InG w B 1 Ai x.kids.length ci (ikC x.kids)
theorem NIs.grow {w w':World}{x:Nod}{f j e:Option Addr}{cc m ci:Nat}(h:NIs w w.heap.size x f cc j m e ci)(hb:Below w.heap.size w w'):NIs w' w'.heap.size x f cc j m e ci:=⟨h.c.grow hb,h.k.grow hb,h.i.grow hb⟩
def nkeys (x:Nod):List ByteArray:=if x.leaf then x.cells.map Cel.key else x.keys
theorem cel_at {w:World}{B g o n c:Nat}{cs:List Cel}(h:InG w B 4 (some ⟨g,o,none⟩) n c (clC cs))(hn:n=cs.length)(j:Nat)(e:j<cs.length):w.rangeAt g (o+j*4) (celC cs[j]):=by
 have:=h.elem j (by omega)
 rw[clC_elem cs j e] at this
 exact this
theorem str_at {w:World}{B g o n c:Nat}{ks:List ByteArray}(h:InG w B 1 (some ⟨g,o,none⟩) n c (skC ks))(hn:n=ks.length)(j:Nat)(f:j<ks.length):w.cell? ⟨g,o+j,none⟩=some (.string ks[j]):=by
 obtain⟨g',o',e,_,i⟩:=h.lies (by omega)
 injection e with e
 injection e with e1 e2
 subst e1 e2
 exact i j _ (by simp[skC,f])

theorem row_one (w:World)(T:TypeId)(v:Value)(h1:v.oneCell'=true):InG (w.alloc (.cells #[v] T)) (w.alloc (.cells #[v] T)).heap.size 1 (some ⟨w.heap.size,0,none⟩) 1 1 [v]:=by
 have h:=BlkIs.new w T #[v]
 refine⟨zH _,by omega,(λe=>by cases e),rfl,(λu hu=>by obtain rfl:u=v:=(by simpa using hu);exact h1),λ_=>⟨w.heap.size,0,rfl,h.lt,λj u c => ?_⟩⟩
 rw[h.cell,qC]
 simpa using c
def StrsOut (w:World)(l:List ByteArray)(e:Ending)(w':World):Prop:=∃A c,e = .returned (.slice A l.length c)/\InG w' w'.heap.size 1 A l.length c (skC l)/\Below w.heap.size w w'
end Go.Proofs.YtpibjkbadnffgaaGreat
namespace Go.Proofs.YtpibjkbadnffgaaGreat
open Go Go.RowKit Lou Go.Shelf
attribute [local go_sem] Oper.semAt_some
def zCel:Cel:=⟨ByteArray.empty,ByteArray.empty,0,0⟩
section
variable {w:World}{o:Oper}{ρ:Operand->Value}
theorem x_allocCel (c:o.op = .alloc 49):(execOp ρ o).run Tryz.prog w = .ok (.value (.pointer (some ⟨w.heap.size,0,none⟩))) (w.alloc (.cells (celC zCel).toArray 49)):=by
 simp[execOp,c,Instr.alloc,newVar,newRow,go_sem,Result.andThen]
 rfl
end
theorem values1_in (n:Nat)(aJ:2<=n)(l O n₀:Nat)(A:Option Addr)(c:Nat)(cells:List Cel)(J X:List Cel->World->Prop)
  (hY:∀f x W,J f W->f.length<cells.length->YieldAt Fence.wide (n - 1) Tryz.prog l #[.agg (celC x).toArray] W λe W' =>
   (e = .returned (.bool true)/\J (f++[x]) W'/\Below n₀ W W')∨(e = .returned (.bool false)/\X (f++[x]) W'))
  (W:World) (aC:AbidesFrom W.heap.size J) (aF:n₀<=W.heap.size) (aL:W.cell? ⟨O,0,none⟩=some (.slice A cells.length c)) (m:InG W n₀ 4 A cells.length c (clC cells)) (h0:J [] W) :
  CallsIn Fence.wide n Tryz.prog 262 #[.func (.yield l) #[] #[],.pointer (some ⟨O,0,none⟩)] W λe W'=>(∃v,e = .returned v) /\
   ((∃U,U=cells/\J U W')∨(∃f,(∃t,cells=f++t)/\X f W')):=by
 have aI:=m.le
 have aK:=m.max
 have h1:1<=n:=by omega
 refine callsIn_of_wp Tryz.func262 rfl trivial ?_ rfl
 simp only[Tryz.ntmps262,zT,zP,qE,qO,qP,zX,zY,qD,qA,zV,qB]
 gi_wp2
 gi_loopw [7] (λi wr=>∃(k:Nat),k<=cells.length/\i = .int .i64 k/\J (cells.take k) wr/\Below n₀ W wr)
  (λi _=>cells.length - (intOf i).toNat)
 case atStart=>exact⟨0,by omega,rfl,h0,Below.refl _ _⟩
 case round =>
  obtain⟨k,N,rfl,u,C⟩:=hrel
  by_cases V:k<cells.length
  ·obtain⟨g,o,rfl,Z,_⟩:=m.lies (by omega)
   have aA:wr.rangeAt g (o+k*4) (celC cells[k]):=λj v hj=>(C.cell (p:=⟨g,o+k*4+j,none⟩) Z).trans (cel_at m rfl k V j v hj)
   have H:cells.take (k+1)=cells.take k++[cells[k]]:=zW V
   have T:∃t,cells=(cells.take k++[cells[k]])++t:=⟨cells.drop (k+1),by rw[<-H,List.take_append_drop]⟩
   have M:(cells.take k).length<cells.length:=by rw[qG];omega
   have K:=BlkIs.new wr 49 (celC zCel).toArray
   have nb:=K.setRow (celC cells[k]).toArray
   have h:Below wr.heap.size wr ((wr.alloc (.cells (celC zCel).toArray 49)).setRow wr.heap.size (celC cells[k]).toArray):=below_setRow ((Below.refl _ wr).alloc (zH _) _) (zH _) _
   have B:J (cells.take k) ((wr.alloc (.cells (celC zCel).toArray 49)).setRow wr.heap.size (celC cells[k]).toArray):=aC _ _ _ none u ⟨h.os,h.tape,h.output,h.size,λk N _=>h.block k N⟩ (λr e=>by cases e)
   have L:=C.trans (h.mono (zU aF C.size))
   obtain⟨I,E⟩:∃I,I=(wr.alloc (.cells (celC zCel).toArray 49)).setRow wr.heap.size (celC cells[k]).toArray:=⟨_,rfl⟩
   rw[<-E] at nb B L
   have HW:=Lib.hid E
   obtain⟨fn,tmps,assign,body,hy,hR⟩:=hY (cells.take k) cells[k] I B M
   generalize cells[k]=x at *
   have aM:IntKind.i64.wrap ((k:Int)+1)=(k:Int)+1:=wrapN _ (by omega) (by omega)
   have aD:=Lib.hid H
   have aE:=Lib.hid T
   have h4:(celC x).toArray.size=4:=rfl
   clear H T M E h u B
   gi_wp2_with (first
    | (refine wpIn_loadX rfl _ (.tmp 9) rfl (x_loadM rowCel aA rfl rfl rfl) ?_)
    | (refine wpIn_allocX rfl _ rfl (x_allocCel rfl) ?_)
    | (refine wpIn_storeX rfl _ (.tmp 4) (.tmp 10) rfl wr.heap.size rfl rfl rowCel K rfl rfl (celC_one _) ?_;rw[<-HW.out])
    | (refine wpIn_loadX rfl _ (.tmp 4) rfl (x_loadM rowCel nb.range rfl rfl rfl) ?_))
   refine hR.mono ?_
   rintro e W3 (⟨rfl,aG,aB⟩|⟨rfl,aH⟩)
   ·gi_wp2
    go_roundw
    case rel=>exact⟨k+1,by omega,by simp,by rw[aD.out];exact aG,L.trans aB⟩
    case measure=>simp[intOf];omega
   ·gi_wp2
    exact bodyPost_ret (results_none rfl _ _ _) rfl ⟨⟨_,rfl⟩,.inr ⟨_,aE.out,aH⟩⟩
  ·obtain rfl:k=cells.length:=by omega
   rw[List.take_length] at u
   gi_wp2
   go_end0
   exact⟨⟨_,rfl⟩,.inl ⟨_,rfl,u⟩⟩
theorem values1_stops (n:Nat)(j:2<=n)(e n₀:Nat)(A:Option Addr)(c:Nat)(cells:List Cel)(w:World)(h:n₀<=w.heap.size)(v:e<w.heap.size)(hc:w.cell? ⟨e,0,none⟩=some (.slice A cells.length c))(u:InG w n₀ 4 A cells.length c (clC cells)) :
  SeqStopsK Fence.wide n Tryz.prog 262 #[.pointer (some ⟨e,0,none⟩)] (λx:Cel=>#[.agg (celC x).toArray]) (Below n₀)
   (λm=>m=cells) (λi=>∃t,cells=i++t) cells.length w:=λl J H W f B _ C E =>
 values1_in n j l e n₀ A c cells J H C W B (zU h f.size) ((f.cell (p:=⟨e,0,none⟩) v).trans hc) (u.below (f.mono h)) E
theorem valuesC_in (n:Nat)(A:Option Addr)(len c:Nat)(w:World) :
  CallsIn Fence.wide n Tryz.prog 195 #[.slice A len c] w λe w'=>e = .returned (.func (.func 262) #[] #[.pointer (some ⟨w.heap.size,0,none⟩)])/\w.alloc (.cells #[.slice A len c] 39)=w':=by
 refine callsIn_of_wp Tryz.func195 rfl trivial ?_ rfl
 simp only[Tryz.ntmps195,zT,zP,qE,qO,qP,zX,zY,qD,qA,zV,qB]
 gi_wp2
 go_ret
 exact⟨rfl,rfl⟩
theorem ownG_kept {W W':World}{base sz n:Nat}{T:TypeId}{v:Value}{cs:List Value}{row:Option Nat}(h:W.ownsRow base T sz v n cs)(i:W.grownBy W' row)(j:∀r,row=some r->∃o:Obj,W.heap[r]? = some o/\o.isCells=false):W'.ownsRow base T sz v n cs:=by
 refine ownG_later h λr c=>i.block r (ownG_lt h r c) λe => ?_
 obtain⟨o,f,hc⟩:=j r e.symm
 rcases h.2 with⟨rfl,_⟩|⟨g,cap,cur,rfl,_,hq,_⟩
 ·cases c
 ·injection c with c
  subst c
  rw[hq] at f
  injection f with f
  subst f
  cases hc
theorem others_own {W W':World}{base sz n:Nat}{T:TypeId}{v:Value}{cs:List Value}(h:W.ownsRow base T sz v n cs)(f:W.grownBy W' v.ownBlock):KeepsOthers W W' :=
 KeepsOthers.of_grownBy f λj o e c=>by
  rcases h.2 with⟨rfl,_⟩|⟨g,cap,cur,rfl,_,hq,_⟩
  ·cases e
  ·injection e with e
   subst e
   rw[hq] at c
   injection c with c
   subst c
   rfl
theorem others_below {W W':World}(h:Below W.heap.size W W'):KeepsOthers W W' :=
 KeepsOthers.of_grownBy (row:=none) ⟨h.os,h.tape,h.output,h.size,λk c _=>h.block k c⟩ (λj o e=>by cases e)
section
set_option maxRecDepth 100000
variable {F:Fence}{n:Nat}{w:World}{ops:Array Oper}{rest:List Oper}{o:Oper}{a:Act}{Q:Exit->Act->World->Prop}
theorem wpIn_appG (E:o.guard=none){S T:TypeId}{sz i:Nat}{z:Value}(f:ElT S T sz i z)(s x:Operand)(L:o.op = .call { callee:=.builtin .append,args:=#[s,x],argTypes:=#[S,S] })
  (base:Nat) (v:Value) (k:Nat) (cs:List Value) (hs:a.eval s=v) (aB:w.ownsRow base T sz v k cs) (B g c m:Nat) (C:List Value) (O:a.eval x = .slice (some ⟨g,0,none⟩) m c) (A:InG w B sz (some ⟨g,0,none⟩) m c C) (M:0<m)
  (K:k+m<=maxLen) (aA:(k+m)*i<=140737488355328) (W:base<=w.heap.size)
  (h:∀v' w',w'.ownsRow base T sz v' (k+m) (cs++C)->w.grownBy w' v.ownBlock->wpListIn F n Tryz.prog ops Q rest (a.put o.dst v') w'):wpListIn F n Tryz.prog ops Q (o::rest) a w:=by
 obtain⟨I,hi,N,H,Z⟩:=info_parts f.inf
 refine wpListIn_append_own w E s x _ L base _ I z sz i f.und hi N H Z f.zs f.pos v k cs hs aB ⟨g,0,none⟩ m c C O A.len (λj u hu => ?_) A.one K aA W ?_
 ·obtain⟨g',o',e,_,V⟩:=A.lies M
  injection e with e
  injection e with e1 e2
  subst e1 e2
  rw[Addr.add_mid]
  exact V j u hu
 ·intro v' w' U X _
  exact h v' w' U X
end
abbrev actK (v0:Value)(h g4:Nat)(Ac:Option Addr)(len cc:Nat)(x:Cel):Act :=
 { tmps:=#[v0,.pointer (some ⟨h,0,none⟩),.slice none 0 0,.pointer (some ⟨h+1,0,none⟩),.pointer (some ⟨g4,0,none⟩),.pointer (some ⟨h,0,none⟩),.bool true,.bool false,undef,undef,.pointer (some ⟨h,1,none⟩),.slice Ac len cc,
   .func (.func 262) #[] #[.pointer (some ⟨h+1+1,0,none⟩)],.agg (celC x).toArray,undef,undef,undef,undef,undef,undef],defers:=[] }
theorem keysLeaf_in (n:Nat)(hn:6<=n)(w:World)(cells:List Cel)(keys:List ByteArray)(kids:List Int)(i:Option Addr)(cc:Nat)(H:Option Addr)(M:Nat)(C:Option Addr)(I:Nat)(hc:InG w w.heap.size 4 i cells.length cc (clC cells))(hl:cells.length<=1000000) :
  CallsIn Fence.wide n Tryz.prog 124 #[.agg #[.bool true,.slice i cells.length cc,.slice H keys.length M,.slice C kids.length I]] w (StrsOut w (cells.map Cel.key)):=by
 have lc:=hc.le
 have mc:=hc.max
 have h1:1<=n:=by omega
 obtain⟨W2,B⟩:∃W2,W2=(w.alloc (.cells #[.bool true,.slice i cells.length cc,.slice H keys.length M,.slice C kids.length I] 43)).alloc (.cells #[.slice none 0 0] 40):=⟨_,rfl⟩
 have U:Below w.heap.size w W2:=by rw[B];exact((Below.refl _ w).alloc (zH _) _).alloc (by simp) _
 have s2:W2.heap.size=w.heap.size+1+1:=by rw[B];simp
 have b1:BlkIs W2 w.heap.size 43 #[.bool true,.slice i cells.length cc,.slice H keys.length M,.slice C kids.length I]:=by rw[B];exact(BlkIs.new w _ _).alloc _
 have b3:BlkIs W2 (w.heap.size+1) 40 #[.slice none 0 0]:=by
  have:=BlkIs.new (w.alloc (.cells #[.bool true,.slice i cells.length cc,.slice H keys.length M,.slice C kids.length I] 43)) 40 #[.slice none 0 0]
  rw[World.size_alloc] at this
  rw[B]
  exact this
 have c1:W2.cell? ⟨w.heap.size,1,none⟩=some (.slice i cells.length cc):=by rw[b1.cell];rfl
 have aC:=Lib.hid B
 refine callsIn_of_wp_marks Tryz.func124 rfl trivial ?_ rfl
 simp only[Tryz.ntmps124,zT,zP,qE,qO,qP,zX,zY,qD,qA,zV,qB]
 clear B
 gi_wp2_with (refine⟨trivial,?_⟩;gi_at_call 195;refine(valuesC_in (n - 1) _ _ _ _).mono ?_;rintro e w' ⟨rfl,rfl⟩)
 obtain⟨V0,aF⟩:∃V0:Value,V0 = .agg #[.bool true,.slice i cells.length cc,.slice H keys.length M,.slice C kids.length I]:=⟨_,rfl⟩
 rw[<-aC.out,<-aF]
 obtain⟨W4,v⟩:∃W4,W4=W2.alloc (.cells #[.slice i cells.length cc] 39):=⟨_,rfl⟩
 have aB:Below w.heap.size w W4:=by rw[v];exact U.alloc U.size _
 have s4:W4.heap.size=w.heap.size+1+1+1:=by rw[v];simp[s2]
 have aH:BlkIs W4 (w.heap.size+1) 40 #[.slice none 0 0]:=by rw[v];exact b3.alloc _
 have aL:W4.cell? ⟨w.heap.size+1+1,0,none⟩=some (.slice i cells.length cc):=by rw[v,<-s2];exact(BlkIs.new W2 39 #[.slice i cells.length cc]).boxed
 rw[<-v]
 clear v aF b1 b3 c1 aC s2 U
 have aA:w.heap.size<=W4.heap.size:=by omega
 refine wpIn_rangeFunc_ownH rfl h1 (gf:=262) (lb:=#[.pointer (some ⟨w.heap.size+1+1,0,none⟩)]) rfl trivial (enters_of Tryz.func262 (by kernel_rfl) rfl)
  (values1_stops (n - 1) (by omega) (w.heap.size+1+1) w.heap.size i cc cells W4 aA (by omega) aL (hc.below aB)) belowK_t (belowK_b aA) (Below.refl _ _) (λ_=>rfl)
  (λf V=>Below w.heap.size w V/\∃A c,BlkIs V (w.heap.size+1) 40 #[.slice A f.length c]/\V.ownsRow (w.heap.size+1+1) 9 1 (.slice A f.length c) f.length (skC (f.map Cel.key)))
  (λ_ _ _=>False)
  ?own ?own2 ⟨aB,none,0,aH,World.ownsRow_nil _ _ _ _⟩
  (λx a V=>∃u,a=actK V0 w.heap.size u i cells.length cc x/\BlkIs V u 49 (celC x).toArray) ?ownA ?assign ?body ?done ?stop
 case own =>
  rintro f X Y row ⟨hB,A,c,hb,own⟩ j m
  exact⟨hB.grown j hB.size (λk e=>by have:=(m k e).1;omega),A,c,hb.kept j (λr e=>(m r e).2),ownG_kept own j (λr e=>(m r e).2)⟩
 case own2=>exact λ_ _ _ _ _ h _ _=>h
 case ownA =>
  rintro x a ⟨⟩ X Y row ⟨u,e,h⟩ j m
  exact⟨u,e,h.kept j (λr e=>(m r e).2)⟩
 case assign =>
  intro l1 f x V K ⟨hB,A,c,hb,own⟩ O
  have n0:=BlkIs.new V 49 (celC zCel).toArray
  have nb:=n0.setRow (celC x).toArray
  have L:Below V.heap.size V ((V.alloc (.cells (celC zCel).toArray 49)).setRow V.heap.size (celC x).toArray):=below_setRow ((Below.refl _ V).alloc (zH _) _) (zH _) _
  simp only[Array.zip_eq_zipWith,List.zipWith_toArray,List.zipWith_cons_cons,List.zipWith_nil_right,List.foldl_toArray,List.foldl_cons,List.foldl_nil,zA,zG,zF]
  gi_wp2_with (first
   | (refine wpIn_allocX rfl _ rfl (x_allocCel rfl) ?_)
   | (refine wpIn_storeX rfl 49 (.tmp 4) (.tmp 13) rfl V.heap.size rfl rfl rowCel n0 rfl rfl (celC_one _) ?_))
  exact O _ _ ((others_below L).from _) (L.mono hB.size) ⟨hB.trans (L.mono hB.size),A,c,hb.below L hb.lt,ownG_grow own L⟩ ⟨V.heap.size,rfl,nb⟩
 case body =>
  rintro l1 f x a V _ _ ⟨hB,A,c,hb,own⟩ ⟨u,rfl,h4⟩ aM
  have c3:=hb.boxed
  have f3:=hb.free 0
  have d0:V.cell? ⟨u,0,none⟩=some (.string x.key):=by rw[h4.cell];rfl
  have E:Below V.heap.size V (V.alloc (.cells #[.string x.key] 9)):=(Below.refl _ V).alloc (zH _) _
  have T:=ownG_grow own E
  have aK:w.heap.size+1+1<=(V.alloc (.cells #[.string x.key] 9)).heap.size:=by have:=hb.lt;have:=E.size;omega
  have ba:=hb.below E hb.lt
  have HE:Hid (skC (f.map Cel.key)++[.string x.key]=skC ((f++[x]).map Cel.key)):=Lib.hid (by simp[skC])
  have HL:Hid ((f++[x]).length=f.length+1):=Lib.hid (by simp)
  have aJ:=row_one V 9 (.string x.key) rfl
  gi_wp2_with (gi_at_builtin;refine wpIn_appG rfl elStr (.tmp 14) (.tmp 17) rfl (w.heap.size+1+1) (.slice A f.length c) f.length (skC (f.map Cel.key)) rfl T _ _ 1 1 [.string x.key] rfl aJ (by omega) (by unfold maxLen;omega) (by omega) aK ?_;intro v5 w5 N Z;rw[HE.out] at N;obtain⟨A5,k5,rfl,_⟩:=ownG_in N (skC_one _);have W:=ba.grown Z (λe=>by have:=ownG_ge T _ e.symm;omega);have c5:=W.boxed;have f5:=W.free 0)
  have aI:=grown_below Z (show w.heap.size<=(V.alloc (.cells #[.string x.key] 9)).heap.size by omega) (λr e=>by have:=ownG_ge T r e;omega)
  have aD:Below w.heap.size V w5:=(E.mono hB.size).trans aI
  refine⟨(((others_below E).trans (others_own T Z)).trans (KeepsOthers.setCell _ _ _)).from _,aD.setCell (by simp) _,hB.trans (aD.setCell (by simp) _),A5,k5,?_,?_⟩
  ·rw[HL.out]
   exact W.set 0 _
  ·rw[HL.out]
   exact ownG_later N (λr m=>Below.heap_setCell w5 ⟨w.heap.size+1,0,none⟩ _ r (λe=>by have h7:=ownG_ge N r m;have h8:r=w.heap.size+1:=e;omega))
 case done =>
  rintro D xs V hD rfl ⟨hB,A,c,hb,own⟩ O
  have c3:=hb.boxed
  gi_wp2
  refine⟨by simp,.inl ⟨_,_,rfl,run_takeDeferred O,?_⟩⟩
  have j:=grownBy_putObj' V D (.deferred none)
  have own2:=ownG_kept own j (λr e=>⟨_,(by cases e;exact O),rfl⟩)
  obtain⟨A2,c2,e,aG⟩:=ownG_in own2 (skC_one _)
  injection e with e1 e2 e3
  subst e1 e3
  have aE:(xs.map Cel.key).length=xs.length:=by simp
  exact⟨_,results_tmp rfl _ _ _,A,c,by rw[aE];rfl,by rw[aE];exact aG,hB.grown j hB.size (λk e=>by cases e;omega)⟩
 case stop=>exact λ_ _ _ _ _ _ h _=>h.elim
theorem keys_gives (w:World)(x:Nod)(j:Option Addr)(cc:Nat)(c:Option Addr)(e:Nat)(i:Option Addr)(f:Nat)(h:NIs w w.heap.size x j cc c e i f)(hl:x.cells.length<=1000000) :
  Calls Tryz.prog 124 #[.agg (nodC x j cc c e i f)] w (StrsOut w (nkeys x)):=by
 obtain⟨hc,m,u⟩:=h
 obtain⟨leaf,cells,keys,kids⟩:=x
 cases leaf with
 | false =>
  have v:=m.le
  have hB:Below w.heap.size w (w.alloc (.cells (nodC ⟨false,cells,keys,kids⟩ j cc c e i f) 43)):=(Below.refl _ w).alloc (zH _) _
  unfold nodC at hB ⊢
  go_enter Tryz.func124,Tryz.ntmps124
  go_wp2
  go_ret
  exact⟨c,e,rfl,m.grow hB,hB⟩
 | true=>exact callsIn_wide.1 (keysLeaf_in 6 (zH _) w cells keys kids j cc c e i f hc hl)
end Go.Proofs.YtpibjkbadnffgaaGreat
namespace Go.Proofs.YtpibjkbadnffgaaGreat
open Go Go.RowKit Lou

section
variable (w:World)(p q many many':Nat)(g g':Nat->List UInt8)(xs xs':List (Nat×List UInt8))(left left':Int)(stops stops':Bool)
end


theorem two_oneR {v0 v1:Value}(e:v0.oneCell'=true)(h1:v1.oneCell'=true):∀v∈(#[v0,v1]:Array Value).toList,v.oneCell'=true:=by
 intro v c
 simp at c
 rcases c with rfl|rfl<;>assumption

section
variable (fr pg n:Int)
theorem refSectors_gives (w:World)(h1:1<=fr/\fr<=2000)(h2:1<=pg/\pg<=2000):Calls Tryz.prog 20 #[.agg #[.int .i64 fr,.int .i64 pg]] w λe w'=>e = .returned (.int .i64 (2+9*fr+8*pg))/\Below w.heap.size w w':=by
 have c:IntKind.i64.wrap (9*fr)=9*fr:=wrap_i64_fr _ (by omega) (by omega)
 have i:IntKind.i64.wrap (2+9*fr)=2+9*fr:=wrap_i64_fr _ (by omega) (by omega)
 have h:IntKind.i64.wrap (8*pg)=8*pg:=wrap_i64_fr _ (by omega) (by omega)
 have f:IntKind.i64.wrap (2+9*fr+8*pg)=2+9*fr+8*pg:=wrap_i64_fr _ (by omega) (by omega)
 go_enter Tryz.func20,Tryz.ntmps20
 go_wp2
 go_ret
 exact⟨rfl,(Below.refl _ _).alloc (zH _) _⟩
end
namespace RegF
section
variable {P:Program}{ops:Array Oper}{Q:Exit->Act->World->Prop}{S:World->Prop}
theorem yldG {o:Oper}{v:Value}{a:Act}(c:Region.wanted o (yielded ops a.tmps)=true)(h:∀w,S w->(execOp a.eval o).run P w = .ok (.value v) w):YieldsIf P ops S o v a:=.inl ⟨c,h⟩
end
end RegF
theorem nkeys_len {x:Nod}(hl:x.cells.length<=1000000)(c:x.keys.length<=1000000):(nkeys x).length<=1000000:=by
 unfold nkeys
 split
 ·rw[qM];exact hl
 ·exact c
def ltS (a b:ByteArray):Bool:=Op.bytesLess a.toList b.toList
def leS (a b:ByteArray):Bool:=Op.bytesLess a.toList b.toList || a.toList == b.toList
def cntLe (key:ByteArray)(l:List ByteArray):Nat:=l.countP (leS · key)
def frontLt (key:ByteArray):List ByteArray->Nat
 | []=>0
 | s::l=>if ltS s key then frontLt key l+1 else 0
theorem frontLt_at (key:ByteArray):∀(l:List ByteArray) (k:Nat),k<=l.length->(∀j,(h:j<l.length)->j<k->ltS l[j] key=true)->(∀h:k<l.length,ltS l[k] key=false)->frontLt key l=k
 | [],k,hk,_,_=>by
  simp at hk
  subst hk
  rfl
 | s::l,0,_,_,h=>by
  unfold frontLt
  have:=h (by simp)
  simp at this
  rw[if_neg (by simp[this])]
 | s::l,k+1,hk,h1,h2=>by
  unfold frontLt
  have c:=h1 0 (by simp) (by omega)
  simp at c
  rw[if_pos c,frontLt_at key l k (by simpa using hk) (λj e f=>h1 (j+1) (Nat.succ_lt_succ e) (by omega)) (λh=>h2 (Nat.succ_lt_succ h))]
theorem cntLe_next (key:ByteArray)(l:List ByteArray)(k:Nat)(h:k<l.length):cntLe key (l.take (k+1))=cntLe key (l.take k)+(if leS l[k] key then 1 else 0):=by
 unfold cntLe
 rw[zW h,List.countP_append,List.countP_singleton]
theorem cntLe_le (key:ByteArray)(l:List ByteArray):cntLe key l<=l.length:=List.countP_le_length
def findAt (leaf:Bool)(ks:List ByteArray)(key:ByteArray):Nat:=if leaf then frontLt key ks else cntLe key ks
def findIs (leaf:Bool)(ks:List ByteArray)(key:ByteArray):Bool:=leaf && (match ks[frontLt key ks]? with|some s=>s.toList == key.toList|none=>false)
def FindOut (w:World)(x:Nod)(key:ByteArray)(e:Ending)(w':World):Prop:=e = .returned (.tuple #[.int .i64 (findAt x.leaf (nkeys x) key:Int),.bool (findIs x.leaf (nkeys x) key)])/\Below w.heap.size w w'
theorem find_gives (w:World)(x:Nod)(M:Option Addr)(cc:Nat)(N:Option Addr)(O:Nat)(L:Option Addr)(K:Nat)(h:NIs w w.heap.size x M cc N O L K)(hl:x.cells.length<=1000000)(aB:x.keys.length<=1000000)(key:ByteArray) :
  Calls Tryz.prog 70 #[.agg (nodC x M cc N O L K),.string key] w (FindOut w x key):=by
 have E:=BlkIs.new w 43 (nodC x M cc N O L K)
 have hB:Below w.heap.size w (w.alloc (.cells (nodC x M cc N O L K) 43)):=(Below.refl _ w).alloc (zH _) _
 have HK:=keys_gives _ x M cc N O L K (h.grow hB) hl
 have aH:=nkeys_len hl aB
 unfold FindOut
 obtain⟨leaf,cells,keys,kids⟩:=x
 generalize nkeys ⟨leaf,cells,keys,kids⟩=ks at *
 unfold nodC at *
 clear hl aB h
 cases leaf with
 | false =>
  go_enter Tryz.func70,Tryz.ntmps70
  go_wp2_with (first
   | (refine wp_loadW rfl 43 (.tmp 2) rfl w.heap.size rfl rowNod E (by rfl) ?_)
   | (go_at_call 124;refine HK.mono ?_;rintro e T ⟨A,c,rfl,u,B⟩;have k0:T.cell? ⟨w.heap.size,0,none⟩=some (.bool false):=(B.cell (p:=⟨w.heap.size,0,none⟩) E.lt).trans (by rw[E.cell];rfl)))
  have aD:=u.le
  go_loopw [7,18] (λv i wr=>∃(k:Nat),k<=ks.length/\i = .int .i64 k/\v = .int .i64 (cntLe key (ks.take k):Int)/\wr=T) (λ_ i _=>ks.length - (intOf i).toNat)
  case atStart=>exact⟨0,by omega,rfl,rfl,rfl⟩
  case round =>
   obtain⟨k,aA,rfl,rfl,rfl⟩:=hrel
   by_cases H:k<ks.length
   ·obtain⟨g,o,rfl,hg,_⟩:=u.lies (by omega)
    have d0:=str_at u rfl k H
    have C:=cntLe_next key ks k H
    have hm:=cntLe_le key (ks.take k)
    have aC:(ks.take k).length<=k:=List.length_take_le _ _
    generalize ks[k]=s at *
    generalize cntLe key (ks.take k)=m at *
    have HN:=Lib.hid C
    clear C
    have aE:IntKind.i64.wrap ((k:Int)+1)=(k:Int)+1:=wrapN _ (by omega) (by omega)
    have aF:IntKind.i64.wrap ((m:Int)+1)=(m:Int)+1:=wrapN _ (by omega) (by omega)
    by_cases hs:leS s key=true
    ·have U:Op.bytesLess s.toList key.toList=true∨(s.toList == key.toList)=true:=by simpa[leS] using hs
     clear hm aC
     go_wp2
     all_goals first
      | (exfalso;rename_i hx;(rcases U with h|h<;>simp[h] at hx);done)
      | exact⟨⟨k+1,by omega,by simp,by rw[HN.out,if_pos hs];simp,by simp⟩,by simp[intOf];omega⟩
    ·have U:¬ (Op.bytesLess s.toList key.toList=true∨(s.toList == key.toList)=true):=by simpa[leS] using hs
     clear hm aC
     go_wp2
     exact⟨⟨k+1,by omega,by simp,by rw[HN.out,if_neg hs];simp,by simp⟩,by simp[intOf];omega⟩
   ·obtain rfl:k=ks.length:=by omega
    rw[List.take_length]
    go_wp2
    exact bodyPost_ret (results_tmp2 rfl _ _ _) rfl ⟨rfl,hB.trans (B.mono hB.size)⟩
 | true =>
  go_enter Tryz.func70,Tryz.ntmps70
  go_wp2_with (first
   | (refine wp_loadW rfl 43 (.tmp 2) rfl w.heap.size rfl rowNod E (by rfl) ?_)
   | (go_at_call 124;refine HK.mono ?_;rintro e T ⟨A,c,rfl,u,B⟩;have k0:T.cell? ⟨w.heap.size,0,none⟩=some (.bool true):=(B.cell (p:=⟨w.heap.size,0,none⟩) E.lt).trans (by rw[E.cell];rfl)))
  have aD:=u.le
  go_loopw [10] (λi wr=>∃(k:Nat),k<=ks.length/\i = .int .i64 k/\(∀j,(h:j<ks.length)->j<k->ltS ks[j] key=true)/\wr=T) (λi _=>ks.length - (intOf i).toNat)
  case atStart=>exact⟨0,by omega,rfl,λj _ h=>by omega,rfl⟩
  case round =>
   obtain⟨k,aA,rfl,I,rfl⟩:=hrel
   by_cases H:k<ks.length
   ·obtain⟨g,o,rfl,hg,_⟩:=u.lies (by omega)
    have d0:=str_at u rfl k H
    have C:ltS ks[k] key=true->∀j,(h:j<ks.length)->j<k+1->ltS ks[j] key=true:=λh1 j hj aG=>by
     by_cases e:j=k
     ·subst e;exact h1
     ·exact I j hj (by omega)
    have X:ltS ks[k] key=false->frontLt key ks=k:=λh1=>frontLt_at key ks k aA I (λ_=>h1)
    have Z:ks[k]? = some ks[k]:=zM H
    generalize ks[k]=s at *
    have aE:IntKind.i64.wrap ((k:Int)+1)=(k:Int)+1:=wrapN _ (by omega) (by omega)
    cases hs:ltS s key with
    | true =>
     have U:Op.bytesLess s.toList key.toList=true:=hs
     have f:=Lib.hid (C hs)
     clear C X I Z hs
     go_wp2
     exact⟨⟨k+1,by omega,by simp,f.out,by simp⟩,by simp[intOf];omega⟩
    | false =>
     have U:Op.bytesLess s.toList key.toList=false:=hs
     have f:=Lib.hid (X hs)
     have HG:=Lib.hid Z
     clear C X I Z hs
     go_wp2
     go_region
     go_wp2
     have V:findAt true ks key=k:=f.out
     have W:findIs true ks key=(s.toList == key.toList):=by
      unfold findIs
      rw[f.out,HG.out]
      rfl
     exact bodyPost_ret (results_tmp2 rfl _ _ _) rfl ⟨by rw[V,W];rfl,hB.trans (B.drew.mono hB.size)⟩
   ·obtain rfl:k=ks.length:=by omega
    have f:=Lib.hid (frontLt_at key ks ks.length aA I (λh=>absurd h H))
    clear I
    go_wp2
    go_region
    go_wp2
    have V:findAt true ks key=ks.length:=f.out
    have W:findIs true ks key=false:=by
     unfold findIs
     rw[f.out,List.getElem?_eq_none (zH _)]
     rfl
    exact bodyPost_ret (results_tmp2 rfl _ _ _) rfl ⟨by rw[V,W];rfl,hB.trans (B.drew.mono hB.size)⟩
end Go.Proofs.YtpibjkbadnffgaaGreat
