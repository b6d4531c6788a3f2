/- Texts that the proof of CacheHolds leans on, part 14. -/
import Derived.Lib.ConvBytes
import Derived.Test.YtmllnpjldmdaeaaGreatCacheHoldsB13
set_option maxRecDepth 100000
set_option maxHeartbeats 8000000

namespace Go.Proofs.YtmllnpjldmdaeaaGreat
open Go Go.RowKit Lou
def postS (S:Act->World->Prop):Exit->Act->World->Prop
  | .normal,a,w=>S a w
  | .ret,_,_=>False
  | .exit _,_,_=>False
  | .goto _,_,_=>False
  | .panic _,_,_=>False
  | .outgrown,_,_=>False
theorem wp_cutS {P:Program}{C:Code}{Q:Exit->Act->World->Prop}{a:Act}{w:World}(S:Act->World->Prop)(h1:C.wp P (postS S) a w)(h2:∀a w,S a w->Q .normal a w):C.wp P Q a w :=
  wp_mono h1 fun e a w h=>by
    cases e with
    | normal=>exact h2 a w h
    | _=>exact h.elim
section
variable {ρ:Operand->Value}{w:World}{o:Oper}{x y z:Operand}
theorem x_strB {l:List UInt8}(hl:l.length<=1000000)(ho:o.op = .convert 9 44 x)(h1:ρ x = .string (str l)) :
    ∃c w',(execOp ρ o).run Tryz.prog w = .ok (.value (.slice (some ⟨w.heap.size,0,none⟩) l.length c)) w'/\InB w' w'.heap.size (some ⟨w.heap.size,0,none⟩) c l/\Below w.heap.size w w':=by
  have hr:=Go.Lib.run_convert_string_bytes (P:=Tryz.prog) w 9 44 5 (str l) Tryz.underlying9 Tryz.underlying44 Tryz.underlying5
  have h2:=grownCap_ge w (str l).size 0 5
  have h3:=grownCap_le_maxLen w (str l).size 0 5 (by rw[str_size];unfold maxLen;omega)
  have hsz:=Go.Lib.bytesWorld_size w 5 (str l)
  refine⟨grownCap w (str l).size 0 5,Go.Lib.bytesWorld w 5 (str l),?_,⟨by rw[str_size] at h2;exact h2,by unfold maxLen at h3;omega,(fun e=>by cases e),fun h0=>⟨w.heap.size,0,rfl,by rw[hsz];omega,fun j hj => ?_⟩⟩,⟨rfl,rfl,rfl,by rw[hsz];omega,fun k hk=>Go.Lib.bytesWorld_at_old w _ _ k hk⟩⟩
  · simp only[execOp,ho,h1,Sem.run_bind,hr,Result.andThen_ok,Sem.run_pure,str_size]
  · rw[Nat.zero_add,Go.Lib.bytesWorld_cell w 5 (str l) j (by rw[str_size];exact hj),str_data]
    congr 2
    simp[List.getD,hj]
theorem x_loadQ {g k:Nat}{t T:TypeId}{cs:Array Value}(hT:RowTy Tryz.prog T k)(hb:BlkIs w g t cs)(hk:cs.size=k)(ho:o.op = .load T x)(hx:ρ x = .pointer (some ⟨g,0,none⟩)):(execOp ρ o).run Tryz.prog w = .ok (.value (.agg cs)) w:=by
  have:=x_loadM (ρ:=ρ) (o:=o) hT hb.range (by simpa using hk) ho hx
  simpa using this
theorem x_storeQ2 {t T:TypeId}(ho:o.op = .store T x y)(g:Nat){cs cs':Array Value}(hx:ρ x = .pointer (some ⟨g,0,none⟩))(hy:ρ y = .agg cs'){m:Nat}(hT:RowTy Tryz.prog T m)(hb:BlkIs w g t cs)(hn:cs.size=m)(hs:cs'.size=cs.size)(h1:∀v∈cs'.toList,v.oneCell'=true) :
    (execOp ρ o).run Tryz.prog w = .ok .skip (w.setRow g cs'):=by
  unfold execOp
  simp only[ho,hx,hy,Instr.storeAt,Instr.sureAddr,Sem.run_bind,Sem.run_pure,Result.andThen_ok,run_storeW (hn▸hT) hb hs h1]
theorem x_cutB {g p n c a b:Nat}(ho:o.op = .slice 44 x (some y) (some z) none)(h1:ρ x = .slice (some ⟨g,p,none⟩) n c)(h2:ρ y = .int .i64 (a:Int))(h3:ρ z = .int .i64 (b:Int))(hab:b=a+64)(hb:b<=n)(hn:n<=c) :
    (execOp ρ o).run Tryz.prog w = .ok (.value (.slice (some ⟨g,p+a,none⟩) 64 (c - a))) w:=by
  have ht:Tryz.prog.underlying 44=some (.slice (Tryz.prog.elem 44)):=by kernel_rfl
  have ea:(⟨g,p,none⟩:Addr).add a=⟨g,p+a,none⟩:=by cases a<;>simp[Addr.add]
  have e1:a<=b:=by omega
  have e3:b - a=64:=by omega
  have hbc:b<=c:=by omega
  have hbi:(b:Int)<=(c:Int):=by omega
  have e5:¬ c=a:=by omega
  simp[execOp,ho,h1,h2,h3,go_sem,run_sliceAt_slice _ _ _ _ _ _ ht,Result.andThen,e1,hbi,e3,e5,ea]
end
theorem wp_strB {w:World}{ops:Array Oper}{rest:List Oper}{o:Oper}{a:Act}{Q:Exit->Act->World->Prop}{x:Operand}{l:List UInt8}(hg:o.guard=none)(hl:l.length<=1000000)(ho:o.op = .convert 9 44 x)(h1:a.eval x = .string (str l))
    (h:∀c w',InB w' w'.heap.size (some ⟨w.heap.size,0,none⟩) c l->Below w.heap.size w w'->wpList Tryz.prog ops Q rest (a.put o.dst (.slice (some ⟨w.heap.size,0,none⟩) l.length c)) w'):wpList Tryz.prog ops Q (o::rest) a w:=by
  obtain⟨c,w',hr,h2,h3⟩:=x_strB (ρ:=a.eval) hl ho h1
  exact wp_exec hg hr (h c w' h2 h3)
theorem rpart1_gives (w:World)(many:Int)(sy ls:List (Nat×List UInt8))(As:Option Addr)(cs:Nat)(Al:Option Addr)(cl:Nat)(left:Int)(h:RIs w w.heap.size sy ls As cs Al cl)(hn1:sy.length<=400000)(hn2:ls.length<=400000)(at_:Int)(hat:0<=at_/\at_<=1000000)(hl:(lastB (sy++ls) at_).length<=1000) :
    Calls Tryz.prog 69 #[VAL many As sy.length cs Al ls.length cl left,.int .i64 at_,.int .i64 1] w fun e w'=>∃A c,e = .returned (.slice A (lastB (sy++ls) at_).length c)/\InB w' w'.heap.size A c (lastB (sy++ls) at_)/\Below w.heap.size w w':=by
  have b1:=BlkIs.new w 32 #[.int .i64 many,.slice As sy.length cs,.slice Al ls.length cl,.int .i64 left]
  have hB1:Below w.heap.size w (w.alloc (.cells #[.int .i64 many,.slice As sy.length cs,.slice Al ls.length cl,.int .i64 left] 32)):=(Below.refl _ w).alloc (Nat.le_refl _) _
  obtain⟨W1,hW1⟩:∃W1,W1=w.alloc (.cells #[.int .i64 many,.slice As sy.length cs,.slice Al ls.length cl,.int .i64 left] 32):=⟨_,rfl⟩
  rw[<-hW1] at b1 hB1
  have HW1:=Lib.hid hW1.symm
  clear hW1
  have hR1:=h.grow hB1
  have hS:∀W,Below W1.heap.size W1 W->Calls Tryz.prog 120 #[VAL many As sy.length cs Al ls.length cl left,.int .i64 at_] W fun e w'=>e = .returned (.string (str (lastB (sy++ls) at_)))/\Below W.heap.size W w':=fun W hW=>rsector_gives W many sy ls As cs Al cl left (hR1.grow hW) hn1 hn2 at_
  unfold VAL at *
  have hw0:IntKind.i64.wrap (at_+0)=at_:=by rw[Int.add_zero];exact wrap_i64_fr _ (by omega) (by omega)
  generalize hq:lastB (sy++ls) at_=q at *
  have HQ:=Lib.hid hq
  have hstr:(str []:ByteArray)++str q=str q:=ByteArray.ext (by rw[ByteArray.data_append];simp[str])
  have hcast:({ data:=#[] }:ByteArray)=str []:=rfl
  have hld:∀(ρ:Operand->Value) (o:Oper) (x:Operand) (W:World),Below W1.heap.size W1 W->o.op = .load 32 x->ρ x = .pointer (some ⟨w.heap.size,0,none⟩)->(execOp ρ o).run Tryz.prog W = .ok (.value (.agg #[.int .i64 many,.slice As sy.length cs,.slice Al ls.length cl,.int .i64 left])) W:=fun ρ o x W hW q1 q2=>x_loadQ rowRDisk (b1.below hW b1.lt) rfl q1 q2
  clear hq h hR1
  go_enter Tryz.func69,Tryz.ntmps69
  go_wp2
  rw[HW1.out]
  go_loopw [8,7] (fun i v wr=>Below W1.heap.size W1 wr/\((i = .int .i64 0/\v = .string (str []))∨(i = .int .i64 1/\v = .string (str q)))) (fun i _ _=>1 - (intOf i).toNat)
  case atStart=>exact⟨Below.refl _ _,.inl ⟨rfl,rfl⟩⟩
  case round =>
    obtain⟨hB,⟨rfl,rfl⟩|⟨rfl,rfl⟩⟩:=hrel
    · go_wp2_with (first
        | (refine wp_exec rfl (hld _ _ _ _ hB rfl rfl) ?_)
        | (refine wp_exec rfl (x_addS (a:=[]) (b:=q) rfl rfl rfl (by simp;omega) Tryz.underlying9) ?_)
        | (go_at_call 120;refine(hS _ hB).mono ?_;rintro e w2 ⟨rfl,hB2⟩))
      exact⟨⟨hB.trans (hB2.mono hB.size),.inr ⟨rfl,rfl⟩⟩,by simp[intOf]⟩
    · go_wp2_with (refine wp_strB (l:=q) rfl (by omega) rfl rfl ?_;intro c3 w3 hin3 hB3)
      go_ret
      exact⟨_,c3,rfl,hin3,hB1.trans ((hB.trans (hB3.mono hB.size)).mono hB1.size)⟩
theorem rhead_new (w:World)(many:Int):Calls Tryz.prog 36 #[VAL many none 0 0 none 0 0 (-1)] w fun e w'=>e = .returned (.tuple #[.agg zhd.toArray,.bool false])/\Below w.heap.size w w':=by
  have b1:=BlkIs.new w 32 #[.int .i64 many,.slice none 0 0,.slice none 0 0,.int .i64 (-1)]
  have hB1:Below w.heap.size w (((w.alloc (.cells #[.int .i64 many,.slice none 0 0,.slice none 0 0,.int .i64 (-1)] 32)).alloc (.cells zhd.toArray 111)).alloc (.cells zhd.toArray 111)):=(((Below.refl _ w).alloc (Nat.le_refl _) _).alloc (by simp) _).alloc (by simp;omega) _
  have b2:BlkIs (((w.alloc (.cells #[.int .i64 many,.slice none 0 0,.slice none 0 0,.int .i64 (-1)] 32)).alloc (.cells zhd.toArray 111)).alloc (.cells zhd.toArray 111)) (w.heap.size+1) 111 zhd.toArray:=by
    have:=(BlkIs.new (w.alloc (.cells #[.int .i64 many,.slice none 0 0,.slice none 0 0,.int .i64 (-1)] 32)) 111 zhd.toArray).alloc (.cells zhd.toArray 111)
    rwa [World.size_alloc] at this
  have b3:BlkIs (((w.alloc (.cells #[.int .i64 many,.slice none 0 0,.slice none 0 0,.int .i64 (-1)] 32)).alloc (.cells zhd.toArray 111)).alloc (.cells zhd.toArray 111)) (w.heap.size+1+1) 111 zhd.toArray:=by
    have:=BlkIs.new ((w.alloc (.cells #[.int .i64 many,.slice none 0 0,.slice none 0 0,.int .i64 (-1)] 32)).alloc (.cells zhd.toArray 111)) 111 zhd.toArray
    rwa [World.size_alloc,World.size_alloc] at this
  replace b1:=(b1.alloc (.cells zhd.toArray 111)).alloc (.cells zhd.toArray 111)
  obtain⟨W1,hW1⟩:∃W1,W1=(((w.alloc (.cells #[.int .i64 many,.slice none 0 0,.slice none 0 0,.int .i64 (-1)] 32)).alloc (.cells zhd.toArray 111)).alloc (.cells zhd.toArray 111)):=⟨_,rfl⟩
  rw[<-hW1] at b1 b2 b3 hB1
  have HW1:=Lib.hid hW1.symm
  clear hW1
  have hR:∀W,RIs W W.heap.size [] [] none 0 none 0:=fun W=>⟨InG.mt _ _ _,InG.mt _ _ _⟩
  have hP:∀(k:Int) W,0<=k/\k<=5->Calls Tryz.prog 69 #[VAL many none 0 0 none 0 0 (-1),.int .i64 k,.int .i64 1] W fun e w'=>∃A c,e = .returned (.slice A 64 c)/\InB w' w'.heap.size A c zer64/\Below W.heap.size W w':=fun k W hk =>
    rpart1_gives W many [] [] none 0 none 0 (-1) (hR W) (by decide) (by decide) k (by omega) (by show zer64.length<=1000;decide)
  have hDec:∀(A:Option Addr) (c:Nat) (W:World),InB W W.heap.size A c zer64->Calls Tryz.prog 68 #[.slice A 64 c] W fun e w'=>e = .returned (.tuple #[.agg zhd.toArray,.int .i64 150])/\Below W.heap.size W w':=fun A c W hin=>by
    have:=refDecodeHead_gives W A c zer64 hin
    rw[decHV_zer] at this
    exact this
  unfold VAL at *
  clear hR
  go_enter Tryz.func36,Tryz.ntmps36
  go_wp2_with fail
  unfold zhd at HW1
  rw[HW1.out]
  go_loopw [6,5] (fun i v wr=>Below W1.heap.size W1 wr/\v = .bool false/\∃k:Nat,k<=2/\i = .int .i64 (k:Int)) (fun i _ _=>2 - (intOf i).toNat)
  case atStart=>exact⟨Below.refl _ _,rfl,0,by omega,rfl⟩
  case round =>
    obtain⟨hB,rfl,k,hk,rfl⟩:=hrel
    by_cases hlt:k<2
    · have hwk:IntKind.i64.wrap ((k:Int)+1)=(k:Int)+1:=wrap_i64_fr _ (by omega) (by omega)
      have hs:=hB.size
      go_wp2_with (first
        | (refine wp_exec rfl (x_loadQ rowRDisk (b1.below hB b1.lt) rfl rfl rfl) ?_)
        | (go_at_call 69;refine(hP _ _ (by omega)).mono ?_;rintro e w2 ⟨A2,c2,rfl,hin2,hB2⟩)
        | (go_at_call 68;refine(hDec _ _ _ hin2).mono ?_;rintro e w3 ⟨rfl,hB3⟩)
        | (refine wp_storeW rfl 111 (.tmp 7) (.tmp 18) rfl w3.heap.size rfl rfl rowHead (BlkIs.new w3 111 zhd.toArray) (by rfl) (by rfl) zeroHead_one ?_))
      exact⟨⟨hB.trans ((hB2.trans ((hB3.trans ((below_setRow ((Below.refl _ w3).alloc (Nat.le_refl _) _) (Nat.le_refl _) _).mono hB3.size)).mono hB2.size)).mono hs),rfl,k+1,by omega,by simp⟩,by simp[intOf];omega⟩
    · obtain rfl:k=2:=by omega
      have hs:=hB.size
      have c3:=b3.below hB b3.lt
      have c2:=b2.below hB b2.lt
      go_wp2_with (first
        | (refine wp_exec rfl (x_loadQ rowHead c3 rfl rfl rfl) ?_)
        | (refine wp_storeW rfl 111 (.tmp 2) (.tmp 42) rfl (w.heap.size+1) rfl rfl rowHead c2 (by rfl) (by rfl) zeroHead_one ?_))
      exact bodyPost_ret (results_cellW_tmp 2 3 rfl rfl rfl rowHead (c2.setRow _) (by rfl)) rfl ⟨rfl,below_setRow (hB1.trans (hB.mono hB1.size)) (by omega) _⟩
theorem rcount0_gives (w:World)(dv:Array Value)(hd:dv.size=4)(fr pg:Int)(s e:Int)(z:Int):Calls Tryz.prog 40 #[.agg dv,.agg #[.int .i64 fr,.int .i64 pg],.agg #[.int .u64 s,.int .u64 e,.int .i64 z,.int .i64 0]] w fun e w'=>e = .returned (.slice none 0 0)/\Below w.heap.size w w':=by
  obtain⟨l⟩:=dv
  obtain⟨d0,d1,d2,d3,rfl⟩:∃d0 d1 d2 d3,l=[d0,d1,d2,d3]:=by
    match l,hd with
    | [d0,d1,d2,d3],_=>exact⟨d0,d1,d2,d3,rfl⟩
  have b1:=((BlkIs.new w 32 #[d0,d1,d2,d3]).alloc (.cells #[.int .i64 fr,.int .i64 pg] 23)).alloc (.cells #[.int .u64 s,.int .u64 e,.int .i64 z,.int .i64 0] 111)
  have b2:BlkIs (((w.alloc (.cells #[d0,d1,d2,d3] 32)).alloc (.cells #[.int .i64 fr,.int .i64 pg] 23)).alloc (.cells #[.int .u64 s,.int .u64 e,.int .i64 z,.int .i64 0] 111)) (w.heap.size+1) 23 #[.int .i64 fr,.int .i64 pg]:=by
    have:=(BlkIs.new (w.alloc (.cells #[d0,d1,d2,d3] 32)) 23 #[.int .i64 fr,.int .i64 pg]).alloc (.cells #[.int .u64 s,.int .u64 e,.int .i64 z,.int .i64 0] 111)
    rwa [World.size_alloc] at this
  have b3:BlkIs (((w.alloc (.cells #[d0,d1,d2,d3] 32)).alloc (.cells #[.int .i64 fr,.int .i64 pg] 23)).alloc (.cells #[.int .u64 s,.int .u64 e,.int .i64 z,.int .i64 0] 111)) (w.heap.size+1+1) 111 #[.int .u64 s,.int .u64 e,.int .i64 z,.int .i64 0]:=by
    have:=BlkIs.new ((w.alloc (.cells #[d0,d1,d2,d3] 32)).alloc (.cells #[.int .i64 fr,.int .i64 pg] 23)) 111 #[.int .u64 s,.int .u64 e,.int .i64 z,.int .i64 0]
    rwa [World.size_alloc,World.size_alloc] at this
  have hB1:Below w.heap.size w (((w.alloc (.cells #[d0,d1,d2,d3] 32)).alloc (.cells #[.int .i64 fr,.int .i64 pg] 23)).alloc (.cells #[.int .u64 s,.int .u64 e,.int .i64 z,.int .i64 0] 111)):=(((Below.refl _ w).alloc (Nat.le_refl _) _).alloc (by simp) _).alloc (by simp;omega) _
  obtain⟨W1,hW1⟩:∃W1,W1=(((w.alloc (.cells #[d0,d1,d2,d3] 32)).alloc (.cells #[.int .i64 fr,.int .i64 pg] 23)).alloc (.cells #[.int .u64 s,.int .u64 e,.int .i64 z,.int .i64 0] 111)):=⟨_,rfl⟩
  rw[<-hW1] at b1 b2 b3 hB1
  have HW1:=Lib.hid hW1.symm
  clear hW1
  have k2:W1.cell? ⟨w.heap.size+1,0,none⟩=some (.int .i64 fr):=(b2.cell 0).trans rfl
  have k3:W1.cell? ⟨w.heap.size+1+1,3,none⟩=some (.int .i64 0):=(b3.cell 3).trans rfl
  go_enter Tryz.func40,Tryz.ntmps40
  go_wp2_with fail
  rw[HW1.out]
  go_loopw [9,8,7] (fun i v u wr=>i = .int .i64 0/\v = .int .i64 0/\u = .slice none 0 0/\wr=W1) (fun _ _ _ _=>0)
  case atStart=>exact⟨rfl,rfl,rfl,rfl⟩
  case round =>
    obtain⟨rfl,rfl,rfl,rfl⟩:=hrel
    by_cases hfr:0<fr
    · go_wp2
      go_ret
      exact⟨rfl,hB1⟩
    · go_wp2
      go_ret
      exact⟨rfl,hB1⟩
theorem rwrites1_gives (w:World)(many:Int)(hm:2<=many)(A:Option Addr)(cb:Nat)(b:List UInt8)(hin:InB w w.heap.size A cb b)(hb64:b.length=64) :
    Calls Tryz.prog 38 #[VAL many none 0 0 none 0 0 (-1),.int .i64 1,.slice A 64 cb] w fun e w'=>∃A' c',e = .returned (.tuple #[VAL many none 0 0 A' 1 c' (-1),.int .i64 0])/\RIs w' w'.heap.size [] [(1,b)] none 0 A' c'/\Below w.heap.size w w':=by
  have hle:=hin.le
  rw[hb64] at hle
  obtain⟨g,p,rfl,hg,hcs⟩:=hin.lies (by omega)
  have b1:=(BlkIs.new w 32 #[.int .i64 many,.slice none 0 0,.slice none 0 0,.int .i64 (-1)]).alloc (.cells zeroR 32)
  have b2:BlkIs ((w.alloc (.cells #[.int .i64 many,.slice none 0 0,.slice none 0 0,.int .i64 (-1)] 32)).alloc (.cells zeroR 32)) (w.heap.size+1) 32 zeroR:=by
    have:=BlkIs.new (w.alloc (.cells #[.int .i64 many,.slice none 0 0,.slice none 0 0,.int .i64 (-1)] 32)) 32 zeroR
    rwa [World.size_alloc] at this
  have hB1:Below w.heap.size w ((w.alloc (.cells #[.int .i64 many,.slice none 0 0,.slice none 0 0,.int .i64 (-1)] 32)).alloc (.cells zeroR 32)):=((Below.refl _ w).alloc (Nat.le_refl _) _).alloc (by simp) _
  obtain⟨W1,hW1⟩:∃W1,W1=((w.alloc (.cells #[.int .i64 many,.slice none 0 0,.slice none 0 0,.int .i64 (-1)] 32)).alloc (.cells zeroR 32)):=⟨_,rfl⟩
  rw[<-hW1] at b1 b2 hB1
  have s1:W1.heap.size=w.heap.size+1+1:=by rw[hW1];simp
  have HW1:=Lib.hid hW1.symm
  have in1:=(hin.below hB1).more hB1.size
  have HWR:∀W,Calls Tryz.prog 72 #[VAL many none 0 0 none 0 0 (-1),.int .i64 1,.string (str b)] W fun e w'=>∃A' c',e = .returned (.tuple #[VAL many none 0 0 A' 1 c' (-1),.int .i64 0])/\RIs w' w'.heap.size [] [(1,b)] none 0 A' c'/\Below W.heap.size W w':=fun W =>
    rwrite_ok W many [] [] none 0 none 0 (-1) ⟨InG.mt _ _ _,InG.mt _ _ _⟩ (by decide) (by decide) (by decide) (by decide) 1 b (by unfold rwE;rw[if_neg (by omega),if_neg (by omega),if_neg (by decide)])
  unfold VAL zeroR at *
  clear hW1
  go_enter Tryz.func38,Tryz.ntmps38
  go_wp2_with fail
  rw[HW1.out]
  go_loopw [8] (fun i wr=>(i = .int .i64 0/\wr=W1)∨(i = .int .i64 1/\∃A' c',BlkIs wr w.heap.size 32 #[.int .i64 many,.slice none 0 0,.slice A' 1 c',.int .i64 (-1)]/\BlkIs wr (w.heap.size+1) 32 #[.int .i64 0,.slice none 0 0,.slice none 0 0,.int .i64 0]/\RIs wr wr.heap.size [] [(1,b)] none 0 A' c'/\Below w.heap.size w wr)) (fun i _=>1 - (intOf i).toNat)
  case atStart=>exact .inl ⟨rfl,rfl⟩
  case round =>
    rcases hrel with⟨rfl,rfl⟩|⟨rfl,A',c',c1,c2,hR,hB⟩
    · go_wp2_with fail
      have hS0:Below wr.heap.size wr wr.drew:=(Below.refl _ _).drew
      have hld:∀(ρ:Operand->Value) (o:Oper) (x:Operand) (W:World),Below wr.heap.size wr W->o.op = .load 32 x->ρ x = .pointer (some ⟨w.heap.size,0,none⟩)->(execOp ρ o).run Tryz.prog W = .ok (.value (.agg #[.int .i64 many,.slice none 0 0,.slice none 0 0,.int .i64 (-1)])) W:=fun ρ o x W hW q1 q2=>x_loadQ rowRDisk (b1.below hW b1.lt) rfl q1 q2
      have hst:∀(ρ:Operand->Value) (o:Oper) (x:Operand) (W:World),Below wr.heap.size wr W->o.op = .convert 44 9 x->ρ x = .slice (some ⟨g,p+0,none⟩) 64 (cb - 0)->(execOp ρ o).run Tryz.prog W = .ok (.value (.string (str b))) W:=fun ρ o x W hW q1 q2=>x_sStr (in1.below hW) hb64 q1 q2
      refine wp_cutS (fun a W=>∃(q:Nat) (A':Option Addr) (c':Nat),(∃u7 u11 u12 u13 u14 u15 u16 u17 u18 u19 u20 u21 u22 u23 u24 u25 u26 u27 u28 u29 u30 u31 u32 u33 u34 u35 u36 u37 u38,a = { tmps:=#[.agg #[.int .i64 many,.slice none 0 0,.slice none 0 0,.int .i64 (-1)],.int .i64 1,.slice (some ⟨g,p,none⟩) 64 cb,.pointer (some ⟨w.heap.size,0,none⟩),undef,undef,.pointer (some ⟨w.heap.size+1,0,none⟩),u7,.int .i64 0,.pointer (some ⟨q,0,none⟩),.int .i64 0,u11,u12,u13,u14,u15,u16,u17,u18,u19,u20,u21,u22,u23,u24,u25,u26,u27,u28,u29,u30,u31,u32,u33,u34,u35,u36,u37,u38,undef],defers:=[] })/\BlkIs W q 32 #[.int .i64 many,.slice none 0 0,.slice A' 1 c',.int .i64 (-1)]/\RIs W W.heap.size [] [(1,b)] none 0 A' c'/\Below wr.heap.size wr W) ?_ ?_
      · refine RegF.start (fun W=>Below wr.heap.size wr W) 99 (by kernel_rfl) ?_
        refine RegF.take0 0 (.agg #[.int .i64 many,.slice none 0 0,.slice none 0 0,.int .i64 (-1)]) rfl (by kernel_rfl) (by kernel_rfl) (by kernel_rfl) rfl (fun _ _ _ h=>h) hS0 (RegF.yld rfl (fun W hW=>by exact hld _ _ _ _ hW rfl rfl)) ?_
        simp only[List.getElem_toArray,List.getElem_cons_zero,Act.put,List.setIfInBounds_toArray,List.set_cons_zero,List.set_cons_succ]
        refine RegF.take0 1 (.int .i64 1) rfl (by kernel_rfl) (by kernel_rfl) (by kernel_rfl) rfl (fun _ _ _ h=>h) hS0 (RegF.yld rfl (fun W hW=>by go_simp)) ?_
        simp only[List.getElem_toArray,List.getElem_cons_succ,List.getElem_cons_zero,Act.put,List.setIfInBounds_toArray,List.set_cons_zero,List.set_cons_succ]
        refine RegF.take0 2 (.int .i64 0) rfl (by kernel_rfl) (by kernel_rfl) (by kernel_rfl) rfl (fun _ _ _ h=>h) hS0 (RegF.yld rfl (fun W hW=>by go_simp)) ?_
        simp only[List.getElem_toArray,List.getElem_cons_succ,List.getElem_cons_zero,Act.put,List.setIfInBounds_toArray,List.set_cons_zero,List.set_cons_succ]
        refine RegF.take0 3 (.int .i64 1) rfl (by kernel_rfl) (by kernel_rfl) (by kernel_rfl) rfl (fun _ _ _ h=>h) hS0 (RegF.yld rfl (fun W hW=>by go_simp;rfl)) ?_
        simp only[List.getElem_toArray,List.getElem_cons_succ,List.getElem_cons_zero,Act.put,List.setIfInBounds_toArray,List.set_cons_zero,List.set_cons_succ]
        refine RegF.take0 4 (.slice (some ⟨g,p,none⟩) 64 cb) rfl (by kernel_rfl) (by kernel_rfl) (by kernel_rfl) rfl (fun _ _ _ h=>h) hS0 (RegF.yld rfl (fun W hW=>by go_simp)) ?_
        simp only[List.getElem_toArray,List.getElem_cons_succ,List.getElem_cons_zero,Act.put,List.setIfInBounds_toArray,List.set_cons_zero,List.set_cons_succ]
        refine RegF.take0 5 (.int .i64 0) rfl (by kernel_rfl) (by kernel_rfl) (by kernel_rfl) rfl (fun _ _ _ h=>h) hS0 (RegF.yld rfl (fun W hW=>by go_simp)) ?_
        simp only[List.getElem_toArray,List.getElem_cons_succ,List.getElem_cons_zero,Act.put,List.setIfInBounds_toArray,List.set_cons_zero,List.set_cons_succ]
        refine RegF.take0 6 (.int .i64 0) rfl (by kernel_rfl) (by kernel_rfl) (by kernel_rfl) rfl (fun _ _ _ h=>h) hS0 (RegF.yld rfl (fun W hW=>by go_simp;rfl)) ?_
        simp only[List.getElem_toArray,List.getElem_cons_succ,List.getElem_cons_zero,Act.put,List.setIfInBounds_toArray,List.set_cons_zero,List.set_cons_succ]
        refine RegF.take0 7 (.int .i64 0) rfl (by kernel_rfl) (by kernel_rfl) (by kernel_rfl) rfl (fun _ _ _ h=>h) hS0 (RegF.yld rfl (fun W hW=>by go_simp)) ?_
        simp only[List.getElem_toArray,List.getElem_cons_succ,List.getElem_cons_zero,Act.put,List.setIfInBounds_toArray,List.set_cons_zero,List.set_cons_succ]
        refine RegF.take0 8 (.int .i64 0) rfl (by kernel_rfl) (by kernel_rfl) (by kernel_rfl) rfl (fun _ _ _ h=>h) hS0 (RegF.yld rfl (fun W hW=>by go_simp;rfl)) ?_
        simp only[List.getElem_toArray,List.getElem_cons_succ,List.getElem_cons_zero,Act.put,List.setIfInBounds_toArray,List.set_cons_zero,List.set_cons_succ]
        refine RegF.take0 9 (.int .i64 64) rfl (by kernel_rfl) (by kernel_rfl) (by kernel_rfl) rfl (fun _ _ _ h=>h) hS0 (RegF.yld rfl (fun W hW=>by go_simp;rfl)) ?_
        simp only[List.getElem_toArray,List.getElem_cons_succ,List.getElem_cons_zero,Act.put,List.setIfInBounds_toArray,List.set_cons_zero,List.set_cons_succ]
        refine RegF.take0 10 (.slice (some ⟨g,p+0,none⟩) 64 (cb - 0)) rfl (by kernel_rfl) (by kernel_rfl) (by kernel_rfl) rfl (fun _ _ _ h=>h) hS0 (RegF.yld rfl (fun W hW=>by exact x_cutB (a:=0) (b:=64) rfl rfl rfl rfl (by omega) (by omega) hle)) ?_
        simp only[List.getElem_toArray,List.getElem_cons_succ,List.getElem_cons_zero,Act.put,List.setIfInBounds_toArray,List.set_cons_zero,List.set_cons_succ]
        refine RegF.take0 11 (.string (str b)) rfl (by kernel_rfl) (by kernel_rfl) (by kernel_rfl) rfl (fun _ _ _ h=>h) hS0 (RegF.yld rfl (fun W hW=>by exact hst _ _ _ _ hW rfl rfl)) ?_
        simp only[List.getElem_toArray,List.getElem_cons_succ,List.getElem_cons_zero,Act.put,List.setIfInBounds_toArray,List.set_cons_zero,List.set_cons_succ]
        refine RegF.two 12 16 (by kernel_rfl) ?_ ?_
        · refine RegF.opC 72 #[.tmp 19,.tmp 22,.tmp 30] #[32,3,9] rfl rfl rfl (enters_of Tryz.func72 (by kernel_rfl) rfl) #[.agg #[.int .i64 many,.slice none 0 0,.slice none 0 0,.int .i64 (-1)],.int .i64 1,.string (str b)] (by simp only[List.map_toArray,List.map_cons,List.map_nil];rfl) ((HWR _).mono ?_)
          rintro e w2 ⟨A',c',rfl,hR,hB2⟩
          have hS2:Below wr.heap.size wr w2:=hS0.trans (hB2.mono hS0.size)
          refine⟨_,rfl,fun _=>hS2,?_⟩
          simp only[List.getElem_toArray,List.getElem_cons_succ,List.getElem_cons_zero,Act.put,List.setIfInBounds_toArray,List.set_cons_zero,List.set_cons_succ]
          refine RegF.take0 13 (.tuple #[.agg #[.int .i64 many,.slice none 0 0,.slice A' 1 c',.int .i64 (-1)],.int .i64 0]) rfl (by kernel_rfl) (by kernel_rfl) (by kernel_rfl) rfl (fun _ _ _ h=>h) hS2 (RegF.yld rfl (fun W hW=>by go_simp)) ?_
          simp only[List.getElem_toArray,List.getElem_cons_succ,List.getElem_cons_zero,Act.put,List.setIfInBounds_toArray,List.set_cons_zero,List.set_cons_succ]
          refine RegF.take0 14 (.agg #[.int .i64 many,.slice none 0 0,.slice A' 1 c',.int .i64 (-1)]) rfl (by kernel_rfl) (by kernel_rfl) (by kernel_rfl) rfl (fun _ _ _ h=>h) hS2 (RegF.yld rfl (fun W hW=>by go_simp)) ?_
          simp only[List.getElem_toArray,List.getElem_cons_succ,List.getElem_cons_zero,Act.put,List.setIfInBounds_toArray,List.set_cons_zero,List.set_cons_succ]
          refine RegF.take0 15 (.int .i64 0) rfl (by kernel_rfl) (by kernel_rfl) (by kernel_rfl) rfl (fun _ _ _ h=>h) hS2 (RegF.yld rfl (fun W hW=>by go_simp)) ?_
          simp only[List.getElem_toArray,List.getElem_cons_succ,List.getElem_cons_zero,Act.put,List.setIfInBounds_toArray,List.set_cons_zero,List.set_cons_succ]
          have hB3:Below w2.heap.size w2 (w2.alloc (.cells zeroR 32)):=(Below.refl _ _).alloc (Nat.le_refl _) _
          have n3:=BlkIs.new w2 32 zeroR
          unfold zeroR at hB3 n3
          refine RegF.one 16 (by kernel_rfl) (RegF.opV (w':=w2.alloc (.cells #[.int .i64 0,.slice none 0 0,.slice none 0 0,.int .i64 0] 32)) (.pointer (some ⟨w2.heap.size,0,none⟩)) rfl rfl (by go_simp) ⟨fun _=>hS2.trans (hB3.mono hS2.size),?_⟩)
          simp only[List.getElem_toArray,List.getElem_cons_succ,List.getElem_cons_zero,Act.put,List.setIfInBounds_toArray,List.set_cons_zero,List.set_cons_succ]
          have hB4:=below_setRow hB3 (Nat.le_refl _) #[.int .i64 many,.slice none 0 0,.slice A' 1 c',.int .i64 (-1)]
          have n4:=n3.setRow #[.int .i64 many,.slice none 0 0,.slice A' 1 c',.int .i64 (-1)]
          obtain⟨w4,hw4⟩:∃w4,w4=(w2.alloc (.cells #[.int .i64 0,.slice none 0 0,.slice none 0 0,.int .i64 0] 32)).setRow w2.heap.size #[.int .i64 many,.slice none 0 0,.slice A' 1 c',.int .i64 (-1)]:=⟨_,rfl⟩
          have hr4:=hw4
          rw[<-hw4] at hB4 n4
          have hS4:=hS2.trans (hB4.mono hS2.size)
          have hR4:=hR.grow hB4
          refine RegF.one 17 (by kernel_rfl) (RegF.opS (w':=w4) rfl rfl (by rw[hr4];exact x_storeQ2 rfl w2.heap.size rfl rfl rowRDisk n3 rfl rfl (four_oneR rfl rfl rfl rfl)) ⟨fun _=>hS4,?_⟩)
          simp only[List.getElem_toArray,List.getElem_cons_succ,List.getElem_cons_zero,Act.put]
          refine RegF.one 18 (by kernel_rfl) (RegF.opV (w':=w4) (.int .i64 0) rfl rfl (by go_simp) ⟨fun _=>hS4,RegF.done (by kernel_rfl) ?_⟩)
          simp only[List.getElem_toArray,List.getElem_cons_succ,List.getElem_cons_zero,Act.put,List.setIfInBounds_toArray,List.set_cons_zero,List.set_cons_succ]
          exact⟨w2.heap.size,A',c',by repeat (first|exact rfl|apply Exists.intro),n4,hR4,hS4⟩
        · have hB3:Below wr.drew.heap.size wr.drew (wr.drew.alloc (.cells zeroR 32)):=(Below.refl _ _).alloc (Nat.le_refl _) _
          have n3:=BlkIs.new wr.drew 32 zeroR
          unfold zeroR at hB3 n3
          have hS3:Below wr.heap.size wr (wr.drew.alloc (.cells #[.int .i64 0,.slice none 0 0,.slice none 0 0,.int .i64 0] 32)):=hS0.trans (hB3.mono hS0.size)
          refine RegF.opV (w':=wr.drew.alloc (.cells #[.int .i64 0,.slice none 0 0,.slice none 0 0,.int .i64 0] 32)) (.pointer (some ⟨wr.drew.heap.size,0,none⟩)) rfl rfl (by go_simp) ⟨fun _=>hS3,?_⟩
          simp only[List.getElem_toArray,List.getElem_cons_succ,List.getElem_cons_zero,Act.put,List.setIfInBounds_toArray,List.set_cons_zero,List.set_cons_succ]
          refine RegF.one 12 (by kernel_rfl) ?_
          refine RegF.opC 72 #[.tmp 19,.tmp 22,.tmp 30] #[32,3,9] rfl rfl rfl (enters_of Tryz.func72 (by kernel_rfl) rfl) #[.agg #[.int .i64 many,.slice none 0 0,.slice none 0 0,.int .i64 (-1)],.int .i64 1,.string (str b)] (by simp only[List.map_toArray,List.map_cons,List.map_nil];rfl) ((HWR _).mono ?_)
          rintro e w2 ⟨A',c',rfl,hR,hB2⟩
          have hS2:Below wr.heap.size wr w2:=hS3.trans (hB2.mono hS3.size)
          have n2:=n3.below hB2 n3.lt
          have n2l:wr.heap.size<=wr.drew.heap.size:=hS0.size
          generalize wr.drew.heap.size=q at *
          refine⟨_,rfl,fun _=>hS2,?_⟩
          simp only[List.getElem_toArray,List.getElem_cons_succ,List.getElem_cons_zero,Act.put,List.setIfInBounds_toArray,List.set_cons_zero,List.set_cons_succ]
          refine RegF.take0 13 (.tuple #[.agg #[.int .i64 many,.slice none 0 0,.slice A' 1 c',.int .i64 (-1)],.int .i64 0]) rfl (by kernel_rfl) (by kernel_rfl) (by kernel_rfl) rfl (fun _ _ _ h=>h) hS2 (RegF.yld rfl (fun W hW=>by go_simp)) ?_
          simp only[List.getElem_toArray,List.getElem_cons_succ,List.getElem_cons_zero,Act.put,List.setIfInBounds_toArray,List.set_cons_zero,List.set_cons_succ]
          refine RegF.take0 14 (.agg #[.int .i64 many,.slice none 0 0,.slice A' 1 c',.int .i64 (-1)]) rfl (by kernel_rfl) (by kernel_rfl) (by kernel_rfl) rfl (fun _ _ _ h=>h) hS2 (RegF.yld rfl (fun W hW=>by go_simp)) ?_
          simp only[List.getElem_toArray,List.getElem_cons_succ,List.getElem_cons_zero,Act.put,List.setIfInBounds_toArray,List.set_cons_zero,List.set_cons_succ]
          refine RegF.take0 15 (.int .i64 0) rfl (by kernel_rfl) (by kernel_rfl) (by kernel_rfl) rfl (fun _ _ _ h=>h) hS2 (RegF.yld rfl (fun W hW=>by go_simp)) ?_
          simp only[List.getElem_toArray,List.getElem_cons_succ,List.getElem_cons_zero,Act.put,List.setIfInBounds_toArray,List.set_cons_zero,List.set_cons_succ]
          have hB4:Below wr.heap.size w2 (w2.setRow q #[.int .i64 many,.slice none 0 0,.slice A' 1 c',.int .i64 (-1)]):=below_setRow (Below.refl _ _) n2l _
          have n4:=n2.setRow #[.int .i64 many,.slice none 0 0,.slice A' 1 c',.int .i64 (-1)]
          obtain⟨w4,hw4⟩:∃w4,w4=w2.setRow q #[.int .i64 many,.slice none 0 0,.slice A' 1 c',.int .i64 (-1)]:=⟨_,rfl⟩
          have hr4:=hw4
          rw[<-hw4] at hB4 n4
          have hS4:=hS2.trans hB4
          have hR4:RIs w4 w4.heap.size [] [(1,b)] none 0 A' c':=by rw[hr4];exact hR.grownT n2 (noText4 _ _ _ _ _ _ _ _) (setRow_grownBy w2 q _)
          refine RegF.one 17 (by kernel_rfl) (RegF.opS (w':=w4) rfl rfl (by rw[hr4];exact x_storeQ2 rfl q rfl rfl rowRDisk n2 rfl rfl (four_oneR rfl rfl rfl rfl)) ⟨fun _=>hS4,?_⟩)
          simp only[List.getElem_toArray,List.getElem_cons_succ,List.getElem_cons_zero,Act.put]
          refine RegF.one 18 (by kernel_rfl) (RegF.opV (w':=w4) (.int .i64 0) rfl rfl (by go_simp) ⟨fun _=>hS4,RegF.done (by kernel_rfl) ?_⟩)
          simp only[List.getElem_toArray,List.getElem_cons_succ,List.getElem_cons_zero,Act.put,List.setIfInBounds_toArray,List.set_cons_zero,List.set_cons_succ]
          exact⟨q,A',c',by repeat (first|exact rfl|apply Exists.intro),n4,hR4,hS4⟩
      · rintro a W ⟨q,A',c',⟨u7,u11,u12,u13,u14,u15,u16,u17,u18,u19,u20,u21,u22,u23,u24,u25,u26,u27,u28,u29,u30,u31,u32,u33,u34,u35,u36,u37,u38,rfl⟩,hq,hR,hBW⟩
        have c1:=b1.below hBW b1.lt
        have c2:=b2.below hBW b2.lt
        have hne:¬ q=w.heap.size:=fun e=>by
          subst e
          have h1:W.heap[w.heap.size]? = some (.cells _ _ (0,0)):=hq
          have h2:W.heap[w.heap.size]? = some (.cells _ _ (0,0)):=c1
          rw[h1] at h2
          injection h2 with h2
          injection h2 with h2 _ _
          simp at h2
        have n1:=c1.setRow #[.int .i64 many,.slice none 0 0,.slice A' 1 c',.int .i64 (-1)]
        have hgr:=setRow_grownBy W w.heap.size #[.int .i64 many,.slice none 0 0,.slice A' 1 c',.int .i64 (-1)]
        have n2:=c2.grown hgr (fun e=>by injection e with e;omega)
        have hR2:RIs (W.setRow w.heap.size #[.int .i64 many,.slice none 0 0,.slice A' 1 c',.int .i64 (-1)]) (W.setRow w.heap.size #[.int .i64 many,.slice none 0 0,.slice A' 1 c',.int .i64 (-1)]).heap.size [] [(1,b)] none 0 A' c':=hR.grownT c1 (noText4 _ _ _ _ _ _ _ _) hgr
        have hBw:=below_setRow (hB1.trans (hBW.mono hB1.size)) (Nat.le_refl _) #[.int .i64 many,.slice none 0 0,.slice A' 1 c',.int .i64 (-1)]
        have HF:Hid (∃A' c',BlkIs (W.setRow w.heap.size #[.int .i64 many,.slice none 0 0,.slice A' 1 c',.int .i64 (-1)]) w.heap.size 32 #[.int .i64 many,.slice none 0 0,.slice A' 1 c',.int .i64 (-1)]):=Lib.hid ⟨A',c',n1⟩
        clear hgr
        go_wp2_with (first
          | (refine wp_exec rfl (x_loadQ rowRDisk hq rfl rfl rfl) ?_)
          | (refine wp_storeW rfl 32 (.tmp 3) (.tmp 38) rfl w.heap.size rfl rfl rowRDisk c1 (by rfl) (by rfl) (four_oneR rfl rfl rfl rfl) ?_))
        exact⟨.inr ⟨rfl,A',c',n1,n2,hR2,hBw⟩,by simp[intOf]⟩
    · go_wp2_with (first
        | (refine wp_exec rfl (x_loadQ rowRDisk c1 rfl rfl rfl) ?_)
        | (refine wp_storeW rfl 32 (.tmp 6) (.tmp 39) rfl (w.heap.size+1) rfl rfl rowRDisk c2 (by rfl) (by rfl) (four_oneR rfl rfl rfl rfl) ?_))
      have hgr:=setRow_grownBy wr (w.heap.size+1) #[.int .i64 many,.slice none 0 0,.slice A' 1 c',.int .i64 (-1)]
      exact bodyPost_ret (results_cellW_tmp 6 7 rfl rfl rfl rowRDisk (c2.setRow _) (by rfl)) rfl ⟨A',c',rfl,hR.grownT c2 (noText4 _ _ _ _ _ _ _ _) hgr,below_setRow hB (by omega) _⟩
theorem rowRLog:RowTy Tryz.prog 36 10:=⟨⟨_,Tryz.underlying36,rfl⟩,by kernel_rfl⟩
def rlgC (many:Int)(As:Option Addr)(ns cs:Nat)(Al:Option Addr)(nl cl:Nat)(left fr pg:Int)(sr ep:Nat)(hd:Int)(Af:Option Addr)(nf cf:Nat):Array Value :=
  #[.int .i64 many,.slice As ns cs,.slice Al nl cl,.int .i64 left,.int .i64 fr,.int .i64 pg,.int .u64 (sr:Int),.int .u64 (ep:Int),.int .i64 hd,.slice Af nf cf]
def zeroLog:Array Value:=#[.int .i64 0,.slice none 0 0,.slice none 0 0,.int .i64 0,.int .i64 0,.int .i64 0,.int .u64 0,.int .u64 0,.int .i64 0,.slice none 0 0]
theorem rnew7_gives (w:World)(fr pg:Int)(many:Nat)(HSec:∀W,Calls Tryz.prog 16 #[.agg #[.int .i64 fr,.int .i64 pg]] W fun e w'=>e = .returned (.int .i64 (many:Int))/\Below W.heap.size W w') :
    Calls Tryz.prog 20 #[.agg #[.int .i64 fr,.int .i64 pg]] w fun e w'=>e = .returned (VAL (many:Int) none 0 0 none 0 0 (-1))/\Below w.heap.size w w':=by
  have b1:=(BlkIs.new w 23 #[.int .i64 fr,.int .i64 pg]).alloc (.cells zeroR 32)
  have b2:BlkIs ((w.alloc (.cells #[.int .i64 fr,.int .i64 pg] 23)).alloc (.cells zeroR 32)) (w.heap.size+1) 32 zeroR:=by
    have:=BlkIs.new (w.alloc (.cells #[.int .i64 fr,.int .i64 pg] 23)) 32 zeroR
    rwa [World.size_alloc] at this
  have hB1:Below w.heap.size w ((w.alloc (.cells #[.int .i64 fr,.int .i64 pg] 23)).alloc (.cells zeroR 32)):=((Below.refl _ w).alloc (Nat.le_refl _) _).alloc (by simp) _
  obtain⟨W1,hW1⟩:∃W1,W1=((w.alloc (.cells #[.int .i64 fr,.int .i64 pg] 23)).alloc (.cells zeroR 32)):=⟨_,rfl⟩
  rw[<-hW1] at b1 b2 hB1
  have HW1:=Lib.hid hW1.symm
  have hRN:=rnew_gives
  unfold VAL zeroR at *
  clear hW1
  go_enter Tryz.func20,Tryz.ntmps20
  go_wp2_with fail
  rw[HW1.out]
  go_wp2_with (first
    | (refine wp_exec rfl (x_loadQ rowPlan b1 rfl rfl rfl) ?_)
    | (go_at_call 16;refine(HSec _).mono ?_;rintro e w2 ⟨rfl,hB2⟩)
    | (go_at_call 41;refine(hRN w2 _).mono ?_;rintro e w3 ⟨rfl,hB3⟩;have c2:=(b2.below hB2 b2.lt).below hB3 (Nat.lt_of_lt_of_le b2.lt hB2.size))
    | (refine wp_storeW rfl 32 (.tmp 2) (.tmp 5) rfl (w.heap.size+1) rfl rfl rowRDisk c2 (by rfl) (by rfl) (four_oneR rfl rfl rfl rfl) ?_))
  exact bodyPost_ret_by (results_cellW 2 rfl rfl rowRDisk (c2.setRow _) (by rfl)) rfl ⟨rfl,below_setRow (hB1.trans ((hB2.trans (hB3.mono hB2.size)).mono hB1.size)) (by omega) _⟩
theorem noTextL (many:Int)(As:Option Addr)(ns cs:Nat)(Al:Option Addr)(nl cl:Nat)(left fr pg:Int)(sr ep:Nat)(hd:Int)(Af:Option Addr)(nf cf:Nat):∀(i:Nat) (s:ByteArray),(rlgC many As ns cs Al nl cl left fr pg sr ep hd Af nf cf)[i]? ≠ some (Value.string s):=fun i s=>by
  unfold rlgC
  match i with
  | 0=>simp
  | 1=>simp
  | 2=>simp
  | 3=>simp
  | 4=>simp
  | 5=>simp
  | 6=>simp
  | 7=>simp
  | 8=>simp
  | 9=>simp
  | i+10=>simp
theorem rlgC_one (many:Int)(As:Option Addr)(ns cs:Nat)(Al:Option Addr)(nl cl:Nat)(left fr pg:Int)(sr ep:Nat)(hd:Int)(Af:Option Addr)(nf cf:Nat):∀v∈(rlgC many As ns cs Al nl cl left fr pg sr ep hd Af nf cf).toList,v.oneCell'=true:=fun v hv=>by
  unfold rlgC at hv
  simp at hv
  rcases hv with rfl|rfl|rfl|rfl|rfl|rfl|rfl|rfl|rfl|rfl<;>rfl
theorem ropen_new (w:World)(fr pg:Int)(many:Nat)(hm:2<=many) :
    Calls Tryz.prog 19 #[VAL (many:Int) none 0 0 none 0 0 (-1),.agg #[.int .i64 fr,.int .i64 pg]] w fun e w'=>∃A' c',e = .returned (.tuple #[.agg (rlgC (many:Int) A' 1 c' none 0 0 (-1) fr pg 1 1 0 none 0 0),.int .i64 0])/\RIs w' w'.heap.size [(1,hEnc 1 1 0 0)] [] A' c' none 0/\Below w.heap.size w w':=by
  obtain⟨W1,hW1⟩:∃W1,W1=(((w.alloc (.cells #[.int .i64 (many:Int),.slice none 0 0,.slice none 0 0,.int .i64 (-1)] 32)).alloc (.cells #[.int .i64 fr,.int .i64 pg] 23)).alloc (.cells zeroLog 36)):=⟨_,rfl⟩
  have b2:BlkIs W1 w.heap.size 32 #[.int .i64 (many:Int),.slice none 0 0,.slice none 0 0,.int .i64 (-1)]:=by rw[hW1];exact((BlkIs.new w _ _).alloc _).alloc _
  have b3:BlkIs W1 (w.heap.size+1) 23 #[.int .i64 fr,.int .i64 pg]:=by
    have:=(BlkIs.new (w.alloc (.cells #[.int .i64 (many:Int),.slice none 0 0,.slice none 0 0,.int .i64 (-1)] 32)) 23 #[.int .i64 fr,.int .i64 pg]).alloc (.cells zeroLog 36)
    rw[World.size_alloc] at this
    rw[hW1]
    exact this
  have b4:BlkIs W1 (w.heap.size+1+1) 36 zeroLog:=by
    have:=BlkIs.new ((w.alloc (.cells #[.int .i64 (many:Int),.slice none 0 0,.slice none 0 0,.int .i64 (-1)] 32)).alloc (.cells #[.int .i64 fr,.int .i64 pg] 23)) 36 zeroLog
    rw[World.size_alloc,World.size_alloc] at this
    rw[hW1]
    exact this
  have hB1:Below w.heap.size w W1:=by rw[hW1];exact(((Below.refl _ w).alloc (Nat.le_refl _) _).alloc (by simp) _).alloc (by simp;omega) _
  have s1:W1.heap.size=w.heap.size+1+1+1:=by rw[hW1];simp
  have HW1:=Lib.hid hW1.symm
  have hH:=rhead_new W1 (many:Int)
  have hE:∀W,Calls Tryz.prog 37 #[.agg #[.int .u64 1,.int .u64 1,.int .i64 0,.int .i64 0]] W fun e w'=>∃A c,e = .returned (.tuple #[.slice A 64 c,.int .i64 0])/\InB w' w'.heap.size A c (hEnc 1 1 0 0)/\Below W.heap.size W w':=fun W=>refEncodeHead_gives 1 1 0 0 W (by decide) (by decide)
  have hl64:(hEnc 1 1 0 0).length=64:=headW_length 1 1 0 0
  generalize hEnc 1 1 0 0=hb at *
  have hWr:=fun W A c (hin:InB W W.heap.size A c hb)=>rwrites1_gives W (many:Int) (by omega) A c hb hin hl64
  have hSy:∀(W:World) (A:Option Addr) (c:Nat),RIs W W.heap.size [] [(1,hb)] none 0 A c->Calls Tryz.prog 39 #[VAL (many:Int) none 0 0 A 1 c (-1)] W fun e w'=>∃A' c',e = .returned (.tuple #[VAL (many:Int) A' 1 c' none 0 0 (-1),.int .i64 0])/\RIs w' w'.heap.size [(1,hb)] [] A' c' none 0/\Below W.heap.size W w':=fun W A c h=>rsync_ok W (many:Int) [] [(1,hb)] none 0 A c (-1) h (by simp) (by simp) (by decide) (by decide) (by decide)
  have hCt:=fun W (A:Option Addr) (c:Nat)=>rcount0_gives W #[.int .i64 (many:Int),.slice A 1 c,.slice none 0 0,.int .i64 (-1)] rfl fr pg 1 1 0
  unfold VAL zeroLog zhd at *
  clear hW1 hl64
  go_enter Tryz.func19,Tryz.ntmps19
  go_wp2_with fail
  rw[HW1.out]
  have k23:W1.cell? ⟨w.heap.size,3,none⟩=some (.int .i64 (-1)):=(b2.cell 3).trans rfl
  go_wp2_with (first
    | (refine wp_exec rfl (x_loadQ rowRDisk b2 rfl rfl rfl) ?_)
    | (go_at_call 36;refine hH.mono ?_;rintro e w2 ⟨rfl,hB2⟩
       obtain⟨v2,hv2⟩:∃v2,v2=w2.alloc (.cells #[.int .u64 0,.int .u64 0,.int .i64 0,.int .i64 0] 111):=⟨_,rfl⟩
       have n0:=BlkIs.new w2 111 #[.int .u64 0,.int .u64 0,.int .i64 0,.int .i64 0]
       have hB3:Below w2.heap.size w2 v2:=by rw[hv2];exact(Below.refl _ _).alloc (Nat.le_refl _) _
       rw[<-hv2] at n0
       have n1:=n0.setRow #[.int .u64 0,.int .u64 0,.int .i64 0,.int .i64 0]
       have hB4:=below_setRow hB3 (Nat.le_refl _) #[.int .u64 0,.int .u64 0,.int .i64 0,.int .i64 0]
       have HV2:=Lib.hid hv2.symm
       clear hv2)
    | (rw[HV2.out];refine wp_storeW rfl 111 (.tmp 6) (.tmp 20) rfl w2.heap.size rfl rfl rowHead n0 (by rfl) (by rfl) zeroHead_one ?_
       generalize v2.setRow w2.heap.size #[.int .u64 0,.int .u64 0,.int .i64 0,.int .i64 0]=v3 at *
       have n2:=n1.setRow #[.int .u64 1,.int .u64 1,.int .i64 0,.int .i64 0]
       have hB5:=below_setRow hB4 (Nat.le_refl _) #[.int .u64 1,.int .u64 1,.int .i64 0,.int .i64 0])
    | (refine wp_storeW rfl 111 (.tmp 6) (.tmp 24) rfl w2.heap.size rfl rfl rowHead n1 (by rfl) (by rfl) (four_oneR rfl rfl rfl rfl) ?_
       generalize v3.setRow w2.heap.size #[.int .u64 1,.int .u64 1,.int .i64 0,.int .i64 0]=v4 at *)
    | (refine wp_exec rfl (x_loadQ rowHead n2 rfl rfl rfl) ?_)
    | (go_at_call 37;refine(hE _).mono ?_;rintro e w5 ⟨A5,c5,rfl,hin5,hB6⟩
       have hU4:=hB2.trans (hB5.mono hB2.size)
       have hU5:=hU4.trans (hB6.mono hU4.size)
       have b25:=b2.below hU5 b2.lt
       have n5:=n2.below hB6 n2.lt)
    | (refine wp_exec rfl (x_loadQ rowRDisk b25 rfl rfl rfl) ?_)
    | (go_at_call 38;refine(hWr _ _ _ hin5).mono ?_;rintro e w6 ⟨A6,c6,rfl,hR6,hB7⟩
       have hU6:=hU5.trans (hB7.mono hU5.size)
       have n6:=n5.below hB7 n5.lt
       obtain⟨v6,hv6⟩:∃v6,v6=w6.alloc (.cells #[.int .i64 0,.slice none 0 0,.slice none 0 0,.int .i64 0] 32):=⟨_,rfl⟩
       have m0:=BlkIs.new w6 32 #[.int .i64 0,.slice none 0 0,.slice none 0 0,.int .i64 0]
       have hB8:Below w6.heap.size w6 v6:=by rw[hv6];exact(Below.refl _ _).alloc (Nat.le_refl _) _
       rw[<-hv6] at m0
       have m1:=m0.setRow #[.int .i64 (many:Int),.slice none 0 0,.slice A6 1 c6,.int .i64 (-1)]
       have hB9:=below_setRow hB8 (Nat.le_refl _) #[.int .i64 (many:Int),.slice none 0 0,.slice A6 1 c6,.int .i64 (-1)]
       have HV6:=Lib.hid hv6.symm
       clear hv6)
    | (rw[HV6.out];refine wp_storeW rfl 32 (.tmp 10) (.tmp 34) rfl w6.heap.size rfl rfl rowRDisk m0 (by rfl) (by rfl) (four_oneR rfl rfl rfl rfl) ?_
       generalize v6.setRow w6.heap.size #[.int .i64 (many:Int),.slice none 0 0,.slice A6 1 c6,.int .i64 (-1)]=v7 at *
       have hR7:=hR6.grow hB9
       have n7:=n6.below hB9 n6.lt
       have hU7:=hU6.trans (hB9.mono hU6.size))
    | (refine wp_exec rfl (x_loadQ rowRDisk m1 rfl rfl rfl) ?_)
    | (go_at_call 39;refine(hSy _ _ _ hR7).mono ?_;rintro e w8 ⟨A8,c8,rfl,hR8,hB10⟩
       have hU8:=hU7.trans (hB10.mono hU7.size)
       have m2:=m1.below hB10 m1.lt
       have m3:=m2.setRow #[.int .i64 (many:Int),.slice A8 1 c8,.slice none 0 0,.int .i64 (-1)]
       have hg9:=setRow_grownBy w8 w6.heap.size #[.int .i64 (many:Int),.slice A8 1 c8,.slice none 0 0,.int .i64 (-1)]
       have hR9:=hR8.grownT m2 (noText4 _ _ _ _ _ _ _ _) hg9
       have b28:=b2.below hU8 b2.lt
       have b38:=b3.below hU8 b3.lt
       have b48:=b4.below hU8 b4.lt
       have hz6:W1.heap.size<=w6.heap.size:=hU6.size
       have b29:=b28.grown hg9 (fun e=>by injection e with e;omega)
       have b39:=b38.grown hg9 (fun e=>by injection e with e;omega)
       have b49:=b48.grown hg9 (fun e=>by injection e with e;omega)
       have n8:=n7.below hB10 n7.lt
       have n9:=n8.grown hg9 (fun e=>by injection e with e;have:=n6.lt;omega)
       have hU9:=hU8.trans (grown_below hg9 hU8.size (fun r e=>by injection e with e;omega)))
    | (refine wp_storeW rfl 32 (.tmp 10) (.tmp 41) rfl w6.heap.size rfl rfl rowRDisk m2 (by rfl) (by rfl) (four_oneR rfl rfl rfl rfl) ?_
       generalize w8.setRow w6.heap.size #[.int .i64 (many:Int),.slice A8 1 c8,.slice none 0 0,.int .i64 (-1)]=v9 at *
       have hg10:=setRow_grownBy v9 w.heap.size #[.int .i64 (many:Int),.slice A8 1 c8,.slice none 0 0,.int .i64 (-1)]
       have hR10:=hR9.grownT b29 (noText4 _ _ _ _ _ _ _ _) hg10
       have b210:=b29.setRow #[.int .i64 (many:Int),.slice A8 1 c8,.slice none 0 0,.int .i64 (-1)]
       have b310:=b39.grown hg10 (fun e=>by injection e with e;omega)
       have b410:=b49.grown hg10 (fun e=>by injection e with e;omega)
       have n10:=n9.grown hg10 (fun e=>by injection e with e;have:=hB2.size;omega)
       have hL10:=(hB1.trans (hU9.mono hB1.size)).trans (grown_below hg10 (by have:=hU9.size;omega) (fun r e=>by injection e with e;omega))
       have k210:=b210.cell 3)
    | (refine wp_exec rfl (x_loadQ rowRDisk m3 rfl rfl rfl) ?_)
    | (refine wp_storeW rfl 32 (.tmp 2) (.tmp 48) rfl w.heap.size rfl rfl rowRDisk b29 (by rfl) (by rfl) (four_oneR rfl rfl rfl rfl) ?_
       generalize v9.setRow w.heap.size #[.int .i64 (many:Int),.slice A8 1 c8,.slice none 0 0,.int .i64 (-1)]=v10 at *))
  have hBd:Below v10.heap.size v10 v10.drew:=(Below.refl _ _).drew
  have hw10:w.heap.size+1+1<v10.heap.size:=b410.lt
  have hS0:=And.intro (b210.below hBd b210.lt) (And.intro (b310.below hBd b310.lt) (n10.below hBd n10.lt))
  refine RegF.start (fun W=>BlkIs W w.heap.size 32 #[.int .i64 (many:Int),.slice A8 1 c8,.slice none 0 0,.int .i64 (-1)]/\BlkIs W (w.heap.size+1) 23 #[.int .i64 fr,.int .i64 pg]/\BlkIs W w2.heap.size 111 #[.int .u64 1,.int .u64 1,.int .i64 0,.int .i64 0]) 99 (by kernel_rfl) ?_
  refine RegF.take0 0 (.agg #[.int .i64 (many:Int),.slice A8 1 c8,.slice none 0 0,.int .i64 (-1)]) rfl (by kernel_rfl) (by kernel_rfl) (by kernel_rfl) rfl (fun _ _ _ h=>h) hS0 (RegF.yld rfl (fun W hW=>by exact x_loadQ rowRDisk hW.1 rfl rfl rfl)) ?_
  simp only[List.getElem_toArray,List.getElem_cons_zero,Act.put,List.setIfInBounds_toArray,List.set_cons_zero,List.set_cons_succ]
  refine RegF.take0 1 (.agg #[.int .i64 fr,.int .i64 pg]) rfl (by kernel_rfl) (by kernel_rfl) (by kernel_rfl) rfl (fun _ _ _ h=>h) hS0 (RegF.yld rfl (fun W hW=>by exact x_loadQ rowPlan hW.2.1 rfl rfl rfl)) ?_
  simp only[List.getElem_toArray,List.getElem_cons_succ,List.getElem_cons_zero,Act.put,List.setIfInBounds_toArray,List.set_cons_zero,List.set_cons_succ]
  refine RegF.take0 2 (.pointer (some ⟨w2.heap.size,0,none⟩)) rfl (by kernel_rfl) (by kernel_rfl) (by kernel_rfl) rfl (fun _ _ _ h=>h) hS0 (RegF.yld rfl (fun W hW=>by go_simp)) ?_
  simp only[List.getElem_toArray,List.getElem_cons_succ,List.getElem_cons_zero,Act.put,List.setIfInBounds_toArray,List.set_cons_zero,List.set_cons_succ]
  refine RegF.take0 3 (.int .u64 1) rfl (by kernel_rfl) (by kernel_rfl) (by kernel_rfl) rfl (fun _ _ _ h=>h) hS0 (RegF.yld rfl (fun W hW=>by have q:W.cell? ⟨w2.heap.size,0,none⟩=some (.int .u64 1):=(hW.2.2.cell 0).trans rfl;clear hW;go_simp)) ?_
  simp only[List.getElem_toArray,List.getElem_cons_succ,List.getElem_cons_zero,Act.put,List.setIfInBounds_toArray,List.set_cons_zero,List.set_cons_succ]
  refine RegF.take0 4 (.pointer (some ⟨w2.heap.size,1,none⟩)) rfl (by kernel_rfl) (by kernel_rfl) (by kernel_rfl) rfl (fun _ _ _ h=>h) hS0 (RegF.yld rfl (fun W hW=>by go_simp)) ?_
  simp only[List.getElem_toArray,List.getElem_cons_succ,List.getElem_cons_zero,Act.put,List.setIfInBounds_toArray,List.set_cons_zero,List.set_cons_succ]
  refine RegF.take0 5 (.int .u64 1) rfl (by kernel_rfl) (by kernel_rfl) (by kernel_rfl) rfl (fun _ _ _ h=>h) hS0 (RegF.yld rfl (fun W hW=>by have q:W.cell? ⟨w2.heap.size,1,none⟩=some (.int .u64 1):=(hW.2.2.cell 1).trans rfl;clear hW;go_simp)) ?_
  simp only[List.getElem_toArray,List.getElem_cons_succ,List.getElem_cons_zero,Act.put,List.setIfInBounds_toArray,List.set_cons_zero,List.set_cons_succ]
  refine RegF.take0 6 (.pointer (some ⟨w2.heap.size,2,none⟩)) rfl (by kernel_rfl) (by kernel_rfl) (by kernel_rfl) rfl (fun _ _ _ h=>h) hS0 (RegF.yld rfl (fun W hW=>by go_simp)) ?_
  simp only[List.getElem_toArray,List.getElem_cons_succ,List.getElem_cons_zero,Act.put,List.setIfInBounds_toArray,List.set_cons_zero,List.set_cons_succ]
  refine RegF.take0 7 (.int .i64 0) rfl (by kernel_rfl) (by kernel_rfl) (by kernel_rfl) rfl (fun _ _ _ h=>h) hS0 (RegF.yld rfl (fun W hW=>by have q:W.cell? ⟨w2.heap.size,2,none⟩=some (.int .i64 0):=(hW.2.2.cell 2).trans rfl;clear hW;go_simp)) ?_
  simp only[List.getElem_toArray,List.getElem_cons_succ,List.getElem_cons_zero,Act.put,List.setIfInBounds_toArray,List.set_cons_zero,List.set_cons_succ]
  refine RegF.take0 8 (.agg #[.int .i64 (many:Int),.slice A8 1 c8,.slice none 0 0,.int .i64 (-1)]) rfl (by kernel_rfl) (by kernel_rfl) (by kernel_rfl) rfl (fun _ _ _ h=>h) hS0 (RegF.yld rfl (fun W hW=>by exact x_loadQ rowRDisk hW.1 rfl rfl rfl)) ?_
  simp only[List.getElem_toArray,List.getElem_cons_succ,List.getElem_cons_zero,Act.put,List.setIfInBounds_toArray,List.set_cons_zero,List.set_cons_succ]
  refine RegF.take0 9 (.agg #[.int .i64 fr,.int .i64 pg]) rfl (by kernel_rfl) (by kernel_rfl) (by kernel_rfl) rfl (fun _ _ _ h=>h) hS0 (RegF.yld rfl (fun W hW=>by exact x_loadQ rowPlan hW.2.1 rfl rfl rfl)) ?_
  simp only[List.getElem_toArray,List.getElem_cons_succ,List.getElem_cons_zero,Act.put,List.setIfInBounds_toArray,List.set_cons_zero,List.set_cons_succ]
  refine RegF.take0 10 (.agg #[.int .u64 1,.int .u64 1,.int .i64 0,.int .i64 0]) rfl (by kernel_rfl) (by kernel_rfl) (by kernel_rfl) rfl (fun _ _ _ h=>h) hS0 (RegF.yld rfl (fun W hW=>by exact x_loadQ rowHead hW.2.2 rfl rfl rfl)) ?_
  simp only[List.getElem_toArray,List.getElem_cons_succ,List.getElem_cons_zero,Act.put,List.setIfInBounds_toArray,List.set_cons_zero,List.set_cons_succ]
  refine RegF.one 11 (by kernel_rfl) ?_
  refine RegF.opC 40 #[.tmp 62,.tmp 63,.tmp 64] #[32,23,111] rfl rfl rfl (enters_of Tryz.func40 (by kernel_rfl) rfl) #[.agg #[.int .i64 (many:Int),.slice A8 1 c8,.slice none 0 0,.int .i64 (-1)],.agg #[.int .i64 fr,.int .i64 pg],.agg #[.int .u64 1,.int .u64 1,.int .i64 0,.int .i64 0]] (by simp only[List.map_toArray,List.map_cons,List.map_nil];rfl) ((hCt _ A8 c8).mono ?_)
  rintro e w11 ⟨rfl,hB11⟩
  have hBx:=hBd.trans (hB11.mono hBd.size)
  have hS1:=And.intro (b210.below hBx b210.lt) (And.intro (b310.below hBx b310.lt) (n10.below hBx n10.lt))
  refine⟨_,rfl,fun _=>hS1,?_⟩
  simp only[List.getElem_toArray,List.getElem_cons_succ,List.getElem_cons_zero,Act.put,List.setIfInBounds_toArray,List.set_cons_zero,List.set_cons_succ]
  refine RegF.take0 12 (.agg (rlgC (many:Int) A8 1 c8 none 0 0 (-1) fr pg 1 1 0 none 0 0)) rfl (by kernel_rfl) (by kernel_rfl) (by kernel_rfl) rfl (fun _ _ _ h=>h) hS1 (RegF.yld rfl (fun W hW=>by unfold rlgC;go_simp)) ?_
  simp only[List.getElem_toArray,List.getElem_cons_succ,List.getElem_cons_zero,Act.put,List.setIfInBounds_toArray,List.set_cons_zero,List.set_cons_succ]
  have b411:=b410.below hBx b410.lt
  have hR11:=hR10.grow hBx
  have hz2:=hB2.size
  have hg12:=setRow_grownBy w11 (w.heap.size+1+1) (rlgC (many:Int) A8 1 c8 none 0 0 (-1) fr pg 1 1 0 none 0 0)
  have hR12:=hR11.grownT b411 (noTextL (0:Int) none 0 0 none 0 0 0 0 0 0 0 0 none 0 0) hg12
  have b412:=b411.setRow (rlgC (many:Int) A8 1 c8 none 0 0 (-1) fr pg 1 1 0 none 0 0)
  have hL12:=below_setRow (hL10.trans (hBx.mono hL10.size)) (show w.heap.size<=w.heap.size+1+1 by omega) (rlgC (many:Int) A8 1 c8 none 0 0 (-1) fr pg 1 1 0 none 0 0)
  have hS2:=And.intro (hS1.1.grown hg12 (fun e=>by injection e with e;omega)) (And.intro (hS1.2.1.grown hg12 (fun e=>by injection e with e;omega)) (hS1.2.2.grown hg12 (fun e=>by injection e with e;omega)))
  refine RegF.one 13 (by kernel_rfl) (RegF.opS (w':=w11.setRow (w.heap.size+1+1) (rlgC (many:Int) A8 1 c8 none 0 0 (-1) fr pg 1 1 0 none 0 0)) rfl rfl (by exact x_storeQ2 rfl (w.heap.size+1+1) rfl rfl rowRLog b411 rfl rfl (rlgC_one _ _ _ _ _ _ _ _ _ _ _ _ _ _ _ _)) ⟨fun _=>hS2,?_⟩)
  simp only[List.getElem_toArray,List.getElem_cons_succ,List.getElem_cons_zero,Act.put]
  generalize w11.setRow (w.heap.size+1+1) (rlgC (many:Int) A8 1 c8 none 0 0 (-1) fr pg 1 1 0 none 0 0)=w12 at *
  refine RegF.one 14 (by kernel_rfl) (RegF.opV (w':=w12) (.int .i64 0) rfl rfl (by go_simp) ⟨fun _=>hS2,RegF.done (by kernel_rfl) ?_⟩)
  simp only[List.getElem_toArray,List.getElem_cons_succ,List.getElem_cons_zero,Act.put,List.setIfInBounds_toArray,List.set_cons_zero,List.set_cons_succ]
  clear hS0 hS1 hS2
  go_wp2
  exact bodyPost_ret (results_cellW_tmp 4 5 rfl rfl rfl rowRLog b412 rfl) rfl ⟨A8,c8,rfl,hR12,hL12⟩
theorem fopen_new2 {W0:World}(w:World)(d many:Nat)(fr pg:Int)(hup:Below W0.heap.size W0 w)(hd:W0.heap.size<=d)(hD:DkIs w d many (fun _=>zer64) [] 0 false)(hpl:planOk fr pg=true)(hm:(many:Int)=2+9*fr+8*pg)(hmax:many<=1000000) :
    Calls Tryz.prog 17 #[.pointer (some ⟨d,0,none⟩),.agg #[.int .i64 fr,.int .i64 pg]] w fun e w'=>∃f l,e = .returned (.tuple #[.pointer (some ⟨f,0,none⟩),.int .i64 0])/\FhIs W0 d f l many fr pg ⟨laid (fun _=>zer64) (wrL 1 (hEnc 1 1 0 0) 1),[],0,false⟩ ⟨1,1,0,[]⟩ w'/\w.heap.size<=f/\w.heap.size<=l:=by
  have hdl:=hD.lt
  have hB0:Below w.heap.size w (w.alloc (.cells #[.int .i64 fr,.int .i64 pg] 23)):=(Below.refl _ w).alloc (Nat.le_refl _) _
  have b0:=BlkIs.new w 23 #[.int .i64 fr,.int .i64 pg]
  have hs:=hup.size
  refine(fopenW_gives w d fr pg (fun l w2=>w.heap.size<=l/\DkIs w2 d many (laid (fun _=>zer64) (wrL 1 (hEnc 1 1 0 0) 1)) [] 0 false/\BlkIs w2 l 142 (lgC (some ⟨d,0,none⟩) fr pg 1 1 0 none 0 0)/\Below W0.heap.size W0 w2) ((open_newG _ fr pg d many 0 (hD.grow hB0) hpl hm hmax (by decide) (by decide)).mono ?_)).mono ?_
  · rintro e w2 ⟨l,rfl,hl,hD2,hb2,hg2⟩
    refine⟨l,rfl,b0.grown hg2 (fun e=>by injection e with e;omega),by simp at hl;omega,hD2,hb2,(hup.trans (hB0.mono hs)).trans (grown_below hg2 (by simp;omega) (fun r e=>by injection e with e;rw[<-e];exact hd))⟩
  · rintro e w' ⟨l,w2,rfl,⟨hl,hD2,hb2,hB2⟩,rfl⟩
    have ha:Below w2.heap.size w2 (w2.alloc (.cells (flFC l fr pg) 108)):=(Below.refl _ _).alloc (Nat.le_refl _) _
    exact⟨_,l,rfl,⟨hB2.trans (ha.mono hB2.size),hD2.grow ha,LogIs.grow ⟨by omega,none,0,[],hb2,FrsIs.mt _ _,rfl⟩ ha,BlkIs.new _ _ _,hd,by omega⟩,by have:=hb2.lt;omega,hl⟩
theorem LI.nz {G:Nat->List UInt8}{S:LgS}{hz:Nat}(h:LI G S hz):∃k,¬ G k=zer64:=⟨S.sr % 2,fun e=>by
  have h1:=isHead_headW (s:=S.sr) (e:=S.ep) (z:=hz) (c:=S.fs.length) h.on.sr h.on.ep h.on.hzl h.on.hn
  rw[<-h.on.hd,e,isHead_zer] at h1
  cases h1⟩
theorem StP.nz {fr pg:Int}{G:Nat->List UInt8}{S:LgS}{i:Nat}(h:StP fr pg G S i):∃k,¬ G k=zer64:=by
  obtain⟨hz,h⟩:=h.li
  exact h.nz
theorem rowRCache:RowTy Tryz.prog 39 14:=⟨⟨_,Tryz.underlying39,rfl⟩,by kernel_rfl⟩
def rcaC (lg:Array Value)(room:Int)(Ar:Option Addr)(nr cr:Nat)(hit miss:Int):Array Value:=lg++#[.int .i64 room,.slice Ar nr cr,.int .i64 hit,.int .i64 miss]
def zeroCa:Array Value:=zeroLog++#[.int .i64 0,.slice none 0 0,.int .i64 0,.int .i64 0]
theorem cnew_bad (w:World)(f l d:Nat)(fr pg room:Int)(S:LgS)(hb:BlkIs w f 108 (flFC l fr pg))(hL:LogIs w l d fr pg S)(hr:¬ (2<=room/\room<=2000)) :
    Calls Tryz.prog 18 #[.pointer (some ⟨f,0,none⟩),.int .i64 room] w fun e w'=>e = .returned (.tuple #[.pointer none,.int .i64 2])/\w=w':=by
  have HD:=fdisk_gives hb hL
  by_cases h1:room<2
  · go_enter Tryz.func18,Tryz.ntmps18
    go_wp2_with (go_at_call 35;refine HD.mono ?_;rintro e w' ⟨rfl,rfl⟩)
    exact bodyPost_ret (results_tmp2 rfl _ _ _) rfl ⟨rfl,rfl⟩
  · have h2:2000<room:=by omega
    go_enter Tryz.func18,Tryz.ntmps18
    go_wp2_with (go_at_call 35;refine HD.mono ?_;rintro e w' ⟨rfl,rfl⟩)
    exact bodyPost_ret (results_tmp2 rfl _ _ _) rfl ⟨rfl,rfl⟩
def NewOut (W0:World)(d f l many P:Nat)(fr pg room:Int)(S:LgS)(s:DS)(W:World)(e:Ending)(w':World):Prop :=
  ((2<=room/\room<=2000)/\∃a r,e = .returned (.tuple #[.pointer (some ⟨a,0,none⟩),.int .i64 0])/\CsIs W0 d f l a r many P fr pg room s S ⟨0,0,0,fun _=>none⟩ w'/\(∀k,sysMu d l a r (fun _=>none) k->k=d∨k=l∨W.heap.size<=k)/\Below W.heap.size W w') ∨
  (¬ (2<=room/\room<=2000)/\e = .returned (.tuple #[.pointer none,.int .i64 2])/\W=w')
theorem cnew_out {W0 W:World}{d f l many P:Nat}{fr pg room:Int}{S:LgS}{s:DS}(h:FhIs W0 d f l many fr pg s S W)(hz:∃k,¬ s.g k=zer64)(hy:∀x∈S.fs,x.y.length=512) :
    Calls Tryz.prog 18 #[.pointer (some ⟨f,0,none⟩),.int .i64 room] W (NewOut W0 d f l many P fr pg room S s W):=by
  have hs:=h.up.size
  by_cases hr:2<=room/\room<=2000
  · refine(cnew_gives W f l d P fr pg room S h.fb h.lg hr).mono ?_
    rintro e w' ⟨a,r,rfl,h1,h2,h3,h4⟩
    refine .inl ⟨hr,a,r,rfl,⟨h.grow h4,h3,fun k hk => ?_,hz,hy⟩,fun k hk => ?_,h4⟩
    · rcases hk with rfl|rfl|⟨j,v,hv,_⟩
      · omega
      · omega
      · cases hv
    · rcases hk with e|e|e|e|⟨j,v,hv,_⟩
      · exact .inl e
      · exact .inr (.inl e)
      · exact .inr (.inr (by rw[e];exact h1))
      · exact .inr (.inr (by rw[e];exact h2))
      · cases hv
  · refine(cnew_bad W f l d fr pg room S h.fb h.lg hr).mono ?_
    rintro e w' ⟨rfl,rfl⟩
    exact .inr ⟨hr,rfl,rfl⟩
theorem rcaC_one (lg:Array Value)(room:Int)(Ar:Option Addr)(nr cr:Nat)(hit miss:Int)(h:∀v∈lg.toList,v.oneCell'=true):∀v∈(rcaC lg room Ar nr cr hit miss).toList,v.oneCell'=true:=fun v hv=>by
  unfold rcaC at hv
  rw[Array.toList_append,List.mem_append] at hv
  rcases hv with hv|hv
  · exact h v hv
  · simp at hv
    rcases hv with rfl|rfl|rfl|rfl<;>rfl
theorem noTextCa0:∀(i:Nat) (s:ByteArray),(zeroCa)[i]? ≠ some (Value.string s):=fun i s=>by
  unfold zeroCa zeroLog
  match i with
  | 0=>simp
  | 1=>simp
  | 2=>simp
  | 3=>simp
  | 4=>simp
  | 5=>simp
  | 6=>simp
  | 7=>simp
  | 8=>simp
  | 9=>simp
  | 10=>simp
  | 11=>simp
  | 12=>simp
  | 13=>simp
  | i+14=>simp
theorem results4 {fn:Func}{P:Program}{a:Act}{w:World}{g:Nat}{T t:TypeId}{cs:Array Value}{u v x:Value}(i j k m:Tmp)(h:fn.results=#[.tmp i,.tmp j,.cell k T,.tmp m])(hi:a.eval (.tmp i)=u)(hj:a.eval (.tmp j)=v)(hk:a.eval (.tmp k) = .pointer (some ⟨g,0,none⟩))(hm:a.eval (.tmp m)=x){n:Nat}(hT:RowTy P T n)(hb:BlkIs w g t cs)(hn:cs.size=n) :
    (results fn a.tmps).run P w = .ok (.tuple #[u,v,.agg cs,x]) w:=by
  have e:a.tmps.getD k undef = .pointer (some ⟨g,0,none⟩):=hk
  have e2:a.tmps.getD m undef=x:=hm
  have e3:a.tmps.getD i undef=u:=hi
  have e4:a.tmps.getD j undef=v:=hj
  unfold results
  simp only[h]
  simp[<-Array.getD_eq_getD_getElem?,e,e2,e3,e4,asAddr,run_loadW (hn▸hT) hb,Result.andThen]
theorem begun8_gives (W0 w:World)(hup:Below W0.heap.size W0 w)(fr pg room:Int)(hpl:planOk fr pg=true)(many P:Nat)(hmany:(many:Int)=2+9*fr+8*pg)(hmax:many<=40000)(hP:(P:Int)=pg) :
    Calls Tryz.prog 6 #[.agg #[.int .i64 fr,.int .i64 pg],.int .i64 room] w fun e w'=>∃d f l cv dv A' c' b,e = .returned (.tuple #[cv,dv,.agg (rcaC (rlgC (many:Int) A' 1 c' none 0 0 (-1) fr pg 1 1 0 none 0 0) room none 0 0 0 0),.bool b])/\RIs w' w'.heap.size [(1,hEnc 1 1 0 0)] [] A' c' none 0/\dv = .pointer (some ⟨d,0,none⟩)/\w.heap.size<=d/\w.heap.size<=l/\w.heap.size<=f /\
      ((b=true/\(2<=room/\room<=2000)/\∃a r,cv = .pointer (some ⟨a,0,none⟩)/\w.heap.size<=a/\w.heap.size<=r/\CsIs W0 d f l a r many P fr pg room ⟨laid (fun _=>zer64) (wrL 1 (hEnc 1 1 0 0) 1),[],0,false⟩ ⟨1,1,0,[]⟩ ⟨0,0,0,fun _=>none⟩ w') ∨
       (b=false/\¬ (2<=room/\room<=2000)/\cv = .pointer none))/\Below w.heap.size w w':=by
  have hpr:=(planOk_iff fr pg).1 hpl
  have hm1:1<=many:=by omega
  have hm2:2<=many:=by omega
  have HSec:∀W,Calls Tryz.prog 16 #[.agg #[.int .i64 fr,.int .i64 pg]] W fun e w'=>e = .returned (.int .i64 (many:Int))/\Below W.heap.size W w':=fun W=>by
    rw[hmany]
    exact refSectors_gives fr pg W hpr.1 hpr.2
  obtain⟨W1,hW1⟩:∃W1,W1=(w.alloc (.cells #[.int .i64 fr,.int .i64 pg] 23)).alloc (.cells zeroCa 39):=⟨_,rfl⟩
  have b2:BlkIs W1 w.heap.size 23 #[.int .i64 fr,.int .i64 pg]:=by rw[hW1];exact(BlkIs.new w _ _).alloc _
  have b6:BlkIs W1 (w.heap.size+1) 39 zeroCa:=by
    have:=BlkIs.new (w.alloc (.cells #[.int .i64 fr,.int .i64 pg] 23)) 39 zeroCa
    rw[World.size_alloc] at this
    rw[hW1]
    exact this
  have hB1:Below w.heap.size w W1:=by rw[hW1];exact((Below.refl _ w).alloc (Nat.le_refl _) _).alloc (by simp) _
  have s1:W1.heap.size=w.heap.size+1+1:=by rw[hW1];simp
  have HW1:=Lib.hid hW1.symm
  have hw0:=hup.size
  have hU1:=hup.trans (hB1.mono hw0)
  have hz:∃k,¬ laid (fun _=>zer64) (wrL 1 (hEnc 1 1 0 0) 1) k=zer64:=(StP.begun (fr:=fr) (pg:=pg) (by omega) (by omega)).nz
  have HOp:∀W d,Below W1.heap.size W1 W->W1.heap.size<=d->DkIs W d many (fun _=>zer64) [] 0 false->_:=fun W d hW hd hD=>fopen_new2 (W0:=W1) W d many fr pg hW hd hD hpl hmany (by omega)
  have HMN:=Lib.hid hmany
  have HPL:=Lib.hid hpl
  clear hW1 hmany hpl
  unfold zeroCa zeroLog at HW1
  go_enter Tryz.func6,Tryz.ntmps6
  go_wp2_with fail
  simp only[List.append_toArray,List.cons_append,List.nil_append] at HW1
  rw[HW1.out]
  go_wp2_with (first
    | (refine wp_exec rfl (x_loadQ rowPlan (by first|exact b2|exact b22) rfl rfl rfl) ?_)
    | (go_at_call 16;refine(HSec _).mono ?_;rintro e w2 ⟨rfl,hB2⟩)
    | (go_at_call 15;refine(new_gives _ many hm1 hmax).mono ?_;rintro e w3 ⟨d,rfl,hd2,hD3,hB23⟩;have hB3:=hB2.trans (hB23.mono hB2.size);have b22:=b2.below hB3 b2.lt)
    | (go_at_call 17;refine(HOp _ d hB3 (Nat.le_trans hB2.size hd2) hD3).mono ?_;rintro e w4' ⟨f,l,rfl,hF4,hf4,hl4⟩))
  have hF4':FhIs W0 d f l many fr pg ⟨laid (fun _=>zer64) (wrL 1 (hEnc 1 1 0 0) 1),[],0,false⟩ ⟨1,1,0,[]⟩ w4':=⟨hU1.trans (hF4.up.mono hU1.size),hF4.dk,hF4.lg,hF4.fb,Nat.le_trans hU1.size hF4.gd,Nat.le_trans hU1.size hF4.gl⟩
  refine(cnew_out (P:=P) (room:=room) hF4' hz (fun x hx=>by cases hx)).mono ?_
  rintro e w4 hN
  have hup4:=hF4.up
  have hz3:=hB3.size
  have hz4:=hup4.size
  have hz2:=hB2.size
  obtain⟨cv,x,b,rfl,hxb,hwx,hB45,hout⟩:∃(cv:Value) (x:Int) (b:Bool),e = .returned (.tuple #[cv,.int .i64 x])/\(x == 0)=b/\IntKind.i64.wrap x=x/\Below w4'.heap.size w4' w4/\((b=true/\(2<=room/\room<=2000)/\∃a r,cv = .pointer (some ⟨a,0,none⟩)/\w.heap.size<=a/\w.heap.size<=r/\CsIs W0 d f l a r many P fr pg room ⟨laid (fun _=>zer64) (wrL 1 (hEnc 1 1 0 0) 1),[],0,false⟩ ⟨1,1,0,[]⟩ ⟨0,0,0,fun _=>none⟩ w4)∨(b=false/\¬ (2<=room/\room<=2000)/\cv = .pointer none)):=by
    rcases hN with⟨hr,a,r,rfl,hC,hn,hB⟩|⟨hr,rfl,rfl⟩
    · refine⟨_,0,true,rfl,rfl,by decide,hB,.inl ⟨rfl,hr,a,r,rfl,?_,?_,hC⟩⟩
      · rcases hn a (.inr (.inr (.inl rfl))) with e|e|e<;>omega
      · rcases hn r (.inr (.inr (.inr (.inl rfl)))) with e|e|e<;>omega
    · exact⟨_,2,false,rfl,rfl,by decide,Below.refl _ _,.inr ⟨rfl,hr,rfl⟩⟩
  have hB14:Below W1.heap.size W1 w4:=hup4.trans (hB45.mono hz4)
  have hz5:=hB14.size
  have b24:BlkIs w4 w.heap.size 23 #[.int .i64 fr,.int .i64 pg]:=b2.below hB14 b2.lt
  have b64:BlkIs w4 (w.heap.size+1) 39 zeroCa:=b6.below hB14 b6.lt
  have hBw4:=hB1.trans (hB14.mono hB1.size)
  have hS0:Below w4.heap.size w4 w4.drew:=(Below.refl _ _).drew
  clear HOp hB2 hB23 hD3 hF4 hF4' hup4 hB45
  have hld:∀(ρ:Operand->Value) (o:Oper) (x:Operand) (W:World),Below w4.heap.size w4 W->o.op = .load 23 x->ρ x = .pointer (some ⟨w.heap.size,0,none⟩)->(execOp ρ o).run Tryz.prog W = .ok (.value (.agg #[.int .i64 fr,.int .i64 pg])) W:=fun ρ o x W hW q1 q2=>x_loadQ rowPlan (b24.below hW b24.lt) rfl q1 q2
  go_wp2_with fail
  refine wp_cutS (fun a W=>∃(q:Nat) (A':Option Addr) (c':Nat),(∃u0 u3 u16 u17 u18 u19 u20 u21 u22 u23 u24 u25 u26 u27 u28 u29 u30 u31 u32 u33 u34 u35 u36 u37 u38 u39 u40 u41 u42 u43 u44 u45 u46 u47 u48 u49 u50 u51 u52 u53 u54 u55 u56,a = { tmps:=#[u0,.int .i64 room,.pointer (some ⟨w.heap.size,0,none⟩),u3,.pointer none,.pointer none,.pointer (some ⟨w.heap.size+1,0,none⟩),.bool false,.pointer (some ⟨d,0,none⟩),.int .i64 0,.pointer (some ⟨f,0,none⟩),.int .i64 0,cv,.int .i64 x,.pointer (some ⟨q,0,none⟩),.int .i64 0,u16,u17,u18,u19,u20,u21,u22,u23,u24,u25,u26,u27,u28,u29,u30,u31,u32,u33,u34,u35,u36,u37,u38,u39,u40,u41,u42,u43,u44,u45,u46,u47,u48,u49,u50,u51,u52,u53,u54,u55,u56],defers:=[] })/\BlkIs W q 36 (rlgC (many:Int) A' 1 c' none 0 0 (-1) fr pg 1 1 0 none 0 0)/\RIs W W.heap.size [(1,hEnc 1 1 0 0)] [] A' c' none 0/\Below w4.heap.size w4 W/\w4.heap.size<=q) ?_ ?_
  · refine RegF.start (fun W=>Below w4.heap.size w4 W) 99 (by kernel_rfl) ?_
    refine RegF.take0 0 (.agg #[.int .i64 fr,.int .i64 pg]) rfl (by kernel_rfl) (by kernel_rfl) (by kernel_rfl) rfl (fun _ _ _ h=>h) hS0 (RegF.yld rfl (fun W hW=>by exact hld _ _ _ _ hW rfl rfl)) ?_
    simp only[List.getElem_toArray,List.getElem_cons_zero,Act.put,List.setIfInBounds_toArray,List.set_cons_zero,List.set_cons_succ]
    refine RegF.take0 2 (.agg #[.int .i64 fr,.int .i64 pg]) rfl (by kernel_rfl) (by kernel_rfl) (by kernel_rfl) rfl (fun _ _ _ h=>h) hS0 (RegF.yld rfl (fun W hW=>by exact hld _ _ _ _ hW rfl rfl)) ?_
    simp only[List.getElem_toArray,List.getElem_cons_succ,List.getElem_cons_zero,Act.put,List.setIfInBounds_toArray,List.set_cons_zero,List.set_cons_succ]
    refine RegF.two 1 7 (by kernel_rfl) ?_ ?_
    · refine RegF.opC 20 #[.tmp 35] #[23] rfl rfl rfl (enters_of Tryz.func20 (by kernel_rfl) rfl) #[.agg #[.int .i64 fr,.int .i64 pg]] (by simp only[List.map_toArray,List.map_cons,List.map_nil];rfl) ((rnew7_gives _ fr pg many HSec).mono ?_)
      rintro e x1 ⟨rfl,hX1⟩
      have hS1:=hS0.trans (hX1.mono hS0.size)
      refine⟨_,rfl,fun _=>hS1,?_⟩
      simp only[List.getElem_toArray,List.getElem_cons_succ,List.getElem_cons_zero,Act.put,List.setIfInBounds_toArray,List.set_cons_zero,List.set_cons_succ]
      refine RegF.two 3 7 (by kernel_rfl) ?_ ?_
      · refine RegF.opC 19 #[.tmp 36,.tmp 37] #[32,23] rfl rfl rfl (enters_of Tryz.func19 (by kernel_rfl) rfl) #[VAL (many:Int) none 0 0 none 0 0 (-1),.agg #[.int .i64 fr,.int .i64 pg]] (by simp only[List.map_toArray,List.map_cons,List.map_nil];rfl) ((ropen_new _ fr pg many hm2).mono ?_)
        rintro e x3 ⟨A',c',rfl,hR,hX3⟩
        have hS3:=hS1.trans (hX3.mono hS1.size)
        refine⟨_,rfl,fun _=>hS3,?_⟩
        simp only[List.getElem_toArray,List.getElem_cons_succ,List.getElem_cons_zero,Act.put,List.setIfInBounds_toArray,List.set_cons_zero,List.set_cons_succ]
        refine RegF.take0 4 (.tuple #[.agg (rlgC (many:Int) A' 1 c' none 0 0 (-1) fr pg 1 1 0 none 0 0),.int .i64 0]) rfl (by kernel_rfl) (by kernel_rfl) (by kernel_rfl) rfl (fun _ _ _ h=>h) hS3 (RegF.yld rfl (fun W hW=>by go_simp)) ?_
        simp only[List.getElem_toArray,List.getElem_cons_succ,List.getElem_cons_zero,Act.put,List.setIfInBounds_toArray,List.set_cons_zero,List.set_cons_succ]
        refine RegF.take0 5 (.agg (rlgC (many:Int) A' 1 c' none 0 0 (-1) fr pg 1 1 0 none 0 0)) rfl (by kernel_rfl) (by kernel_rfl) (by kernel_rfl) rfl (fun _ _ _ h=>h) hS3 (RegF.yld rfl (fun W hW=>by go_simp)) ?_
        simp only[List.getElem_toArray,List.getElem_cons_succ,List.getElem_cons_zero,Act.put,List.setIfInBounds_toArray,List.set_cons_zero,List.set_cons_succ]
        refine RegF.take0 6 (.int .i64 0) rfl (by kernel_rfl) (by kernel_rfl) (by kernel_rfl) rfl (fun _ _ _ h=>h) hS3 (RegF.yld rfl (fun W hW=>by go_simp)) ?_
        simp only[List.getElem_toArray,List.getElem_cons_succ,List.getElem_cons_zero,Act.put,List.setIfInBounds_toArray,List.set_cons_zero,List.set_cons_succ]
        have hA7:Below x3.heap.size x3 (x3.alloc (.cells zeroLog 36)):=(Below.refl _ _).alloc (Nat.le_refl _) _
        have n7:=BlkIs.new x3 36 zeroLog
        have hSA:=hS3.trans (hA7.mono hS3.size)
        refine RegF.one 7 (by kernel_rfl) (RegF.opV (w':=x3.alloc (.cells zeroLog 36)) (.pointer (some ⟨x3.heap.size,0,none⟩)) rfl rfl (by unfold zeroLog;go_simp) ⟨fun _=>hSA,?_⟩)
        simp only[List.getElem_toArray,List.getElem_cons_succ,List.getElem_cons_zero,Act.put,List.setIfInBounds_toArray,List.set_cons_zero,List.set_cons_succ]
        have hRA:=hR.grow hA7
        have hq:w4.heap.size<=x3.heap.size:=hS3.size
        generalize x3.heap.size=q at *
        generalize x3.alloc (.cells zeroLog 36)=x7 at *
        have m8:=n7.setRow (rlgC (many:Int) A' 1 c' none 0 0 (-1) fr pg 1 1 0 none 0 0)
        have hg8:=setRow_grownBy x7 q (rlgC (many:Int) A' 1 c' none 0 0 (-1) fr pg 1 1 0 none 0 0)
        have hR8:=hRA.grownT n7 (noTextL 0 none 0 0 none 0 0 0 0 0 0 0 0 none 0 0) hg8
        have hS8:=hSA.trans (grown_below hg8 hSA.size (fun r e=>by injection e with e;omega))
        refine RegF.one 8 (by kernel_rfl) (RegF.opS (w':=x7.setRow q (rlgC (many:Int) A' 1 c' none 0 0 (-1) fr pg 1 1 0 none 0 0)) rfl rfl (by exact x_storeQ2 rfl q rfl rfl rowRLog n7 rfl rfl (rlgC_one _ _ _ _ _ _ _ _ _ _ _ _ _ _ _ _)) ⟨fun _=>hS8,?_⟩)
        simp only[List.getElem_toArray,List.getElem_cons_succ,List.getElem_cons_zero,Act.put]
        generalize x7.setRow q (rlgC (many:Int) A' 1 c' none 0 0 (-1) fr pg 1 1 0 none 0 0)=x8 at *
        refine RegF.one 9 (by kernel_rfl) (RegF.opV (w':=x8) (.int .i64 0) rfl rfl (by go_simp) ⟨fun _=>hS8,RegF.done (by kernel_rfl) ?_⟩)
        simp only[List.getElem_toArray,List.getElem_cons_succ,List.getElem_cons_zero,Act.put,List.setIfInBounds_toArray,List.set_cons_zero,List.set_cons_succ]
        exact⟨q,A',c',by repeat (first|exact rfl|apply Exists.intro),m8,hR8,hS8,hq⟩
      · have hA7:Below x1.heap.size x1 (x1.alloc (.cells zeroLog 36)):=(Below.refl _ _).alloc (Nat.le_refl _) _
        have n7:=BlkIs.new x1 36 zeroLog
        have hSA:=hS1.trans (hA7.mono hS1.size)
        refine RegF.opV (w':=x1.alloc (.cells zeroLog 36)) (.pointer (some ⟨x1.heap.size,0,none⟩)) rfl rfl (by unfold zeroLog;go_simp) ⟨fun _=>hSA,?_⟩
        simp only[List.getElem_toArray,List.getElem_cons_succ,List.getElem_cons_zero,Act.put,List.setIfInBounds_toArray,List.set_cons_zero,List.set_cons_succ]
        have hq:w4.heap.size<=x1.heap.size:=hS1.size
        have hql:=n7.lt
        generalize x1.heap.size=q at *
        generalize x1.alloc (.cells zeroLog 36)=x7 at *
        refine RegF.one 3 (by kernel_rfl) ?_
        refine RegF.opC 19 #[.tmp 36,.tmp 37] #[32,23] rfl rfl rfl (enters_of Tryz.func19 (by kernel_rfl) rfl) #[VAL (many:Int) none 0 0 none 0 0 (-1),.agg #[.int .i64 fr,.int .i64 pg]] (by simp only[List.map_toArray,List.map_cons,List.map_nil];rfl) ((ropen_new _ fr pg many hm2).mono ?_)
        rintro e x3 ⟨A',c',rfl,hR,hX3⟩
        have hS3:=hSA.trans (hX3.mono hSA.size)
        refine⟨_,rfl,fun _=>hS3,?_⟩
        simp only[List.getElem_toArray,List.getElem_cons_succ,List.getElem_cons_zero,Act.put,List.setIfInBounds_toArray,List.set_cons_zero,List.set_cons_succ]
        refine RegF.take0 4 (.tuple #[.agg (rlgC (many:Int) A' 1 c' none 0 0 (-1) fr pg 1 1 0 none 0 0),.int .i64 0]) rfl (by kernel_rfl) (by kernel_rfl) (by kernel_rfl) rfl (fun _ _ _ h=>h) hS3 (RegF.yld rfl (fun W hW=>by go_simp)) ?_
        simp only[List.getElem_toArray,List.getElem_cons_succ,List.getElem_cons_zero,Act.put,List.setIfInBounds_toArray,List.set_cons_zero,List.set_cons_succ]
        refine RegF.take0 5 (.agg (rlgC (many:Int) A' 1 c' none 0 0 (-1) fr pg 1 1 0 none 0 0)) rfl (by kernel_rfl) (by kernel_rfl) (by kernel_rfl) rfl (fun _ _ _ h=>h) hS3 (RegF.yld rfl (fun W hW=>by go_simp)) ?_
        simp only[List.getElem_toArray,List.getElem_cons_succ,List.getElem_cons_zero,Act.put,List.setIfInBounds_toArray,List.set_cons_zero,List.set_cons_succ]
        refine RegF.take0 6 (.int .i64 0) rfl (by kernel_rfl) (by kernel_rfl) (by kernel_rfl) rfl (fun _ _ _ h=>h) hS3 (RegF.yld rfl (fun W hW=>by go_simp)) ?_
        simp only[List.getElem_toArray,List.getElem_cons_succ,List.getElem_cons_zero,Act.put,List.setIfInBounds_toArray,List.set_cons_zero,List.set_cons_succ]
        have n8:=n7.below hX3 hql
        have m8:=n8.setRow (rlgC (many:Int) A' 1 c' none 0 0 (-1) fr pg 1 1 0 none 0 0)
        have hg8:=setRow_grownBy x3 q (rlgC (many:Int) A' 1 c' none 0 0 (-1) fr pg 1 1 0 none 0 0)
        have hR8:=hR.grownT n8 (noTextL 0 none 0 0 none 0 0 0 0 0 0 0 0 none 0 0) hg8
        have hS8:=hS3.trans (grown_below hg8 hS3.size (fun r e=>by injection e with e;omega))
        refine RegF.one 8 (by kernel_rfl) (RegF.opS (w':=x3.setRow q (rlgC (many:Int) A' 1 c' none 0 0 (-1) fr pg 1 1 0 none 0 0)) rfl rfl (by exact x_storeQ2 rfl q rfl rfl rowRLog n8 rfl rfl (rlgC_one _ _ _ _ _ _ _ _ _ _ _ _ _ _ _ _)) ⟨fun _=>hS8,?_⟩)
        simp only[List.getElem_toArray,List.getElem_cons_succ,List.getElem_cons_zero,Act.put]
        generalize x3.setRow q (rlgC (many:Int) A' 1 c' none 0 0 (-1) fr pg 1 1 0 none 0 0)=x8 at *
        refine RegF.one 9 (by kernel_rfl) (RegF.opV (w':=x8) (.int .i64 0) rfl rfl (by go_simp) ⟨fun _=>hS8,RegF.done (by kernel_rfl) ?_⟩)
        simp only[List.getElem_toArray,List.getElem_cons_succ,List.getElem_cons_zero,Act.put,List.setIfInBounds_toArray,List.set_cons_zero,List.set_cons_succ]
        exact⟨q,A',c',by repeat (first|exact rfl|apply Exists.intro),m8,hR8,hS8,hq⟩
    · have hA7:Below w4.drew.heap.size w4.drew (w4.drew.alloc (.cells zeroLog 36)):=(Below.refl _ _).alloc (Nat.le_refl _) _
      have n7:=BlkIs.new w4.drew 36 zeroLog
      have hSA:=hS0.trans (hA7.mono hS0.size)
      refine RegF.opV (w':=w4.drew.alloc (.cells zeroLog 36)) (.pointer (some ⟨w4.drew.heap.size,0,none⟩)) rfl rfl (by unfold zeroLog;go_simp) ⟨fun _=>hSA,?_⟩
      simp only[List.getElem_toArray,List.getElem_cons_succ,List.getElem_cons_zero,Act.put,List.setIfInBounds_toArray,List.set_cons_zero,List.set_cons_succ]
      have hq:w4.heap.size<=w4.drew.heap.size:=hS0.size
      have hql:=n7.lt
      generalize w4.drew.heap.size=q at *
      generalize w4.drew.alloc (.cells zeroLog 36)=x7 at *
      refine RegF.one 1 (by kernel_rfl) ?_
      refine RegF.opC 20 #[.tmp 35] #[23] rfl rfl rfl (enters_of Tryz.func20 (by kernel_rfl) rfl) #[.agg #[.int .i64 fr,.int .i64 pg]] (by simp only[List.map_toArray,List.map_cons,List.map_nil];rfl) ((rnew7_gives _ fr pg many HSec).mono ?_)
      rintro e x1 ⟨rfl,hX1⟩
      have hS1:=hSA.trans (hX1.mono hSA.size)
      refine⟨_,rfl,fun _=>hS1,?_⟩
      simp only[List.getElem_toArray,List.getElem_cons_succ,List.getElem_cons_zero,Act.put,List.setIfInBounds_toArray,List.set_cons_zero,List.set_cons_succ]
      have n71:=n7.below hX1 hql
      have hql1:=n71.lt
      refine RegF.one 3 (by kernel_rfl) ?_
      refine RegF.opC 19 #[.tmp 36,.tmp 37] #[32,23] rfl rfl rfl (enters_of Tryz.func19 (by kernel_rfl) rfl) #[VAL (many:Int) none 0 0 none 0 0 (-1),.agg #[.int .i64 fr,.int .i64 pg]] (by simp only[List.map_toArray,List.map_cons,List.map_nil];rfl) ((ropen_new _ fr pg many hm2).mono ?_)
      rintro e x3 ⟨A',c',rfl,hR,hX3⟩
      have hS3:=hS1.trans (hX3.mono hS1.size)
      refine⟨_,rfl,fun _=>hS3,?_⟩
      simp only[List.getElem_toArray,List.getElem_cons_succ,List.getElem_cons_zero,Act.put,List.setIfInBounds_toArray,List.set_cons_zero,List.set_cons_succ]
      refine RegF.take0 4 (.tuple #[.agg (rlgC (many:Int) A' 1 c' none 0 0 (-1) fr pg 1 1 0 none 0 0),.int .i64 0]) rfl (by kernel_rfl) (by kernel_rfl) (by kernel_rfl) rfl (fun _ _ _ h=>h) hS3 (RegF.yld rfl (fun W hW=>by go_simp)) ?_
      simp only[List.getElem_toArray,List.getElem_cons_succ,List.getElem_cons_zero,Act.put,List.setIfInBounds_toArray,List.set_cons_zero,List.set_cons_succ]
      refine RegF.take0 5 (.agg (rlgC (many:Int) A' 1 c' none 0 0 (-1) fr pg 1 1 0 none 0 0)) rfl (by kernel_rfl) (by kernel_rfl) (by kernel_rfl) rfl (fun _ _ _ h=>h) hS3 (RegF.yld rfl (fun W hW=>by go_simp)) ?_
      simp only[List.getElem_toArray,List.getElem_cons_succ,List.getElem_cons_zero,Act.put,List.setIfInBounds_toArray,List.set_cons_zero,List.set_cons_succ]
      refine RegF.take0 6 (.int .i64 0) rfl (by kernel_rfl) (by kernel_rfl) (by kernel_rfl) rfl (fun _ _ _ h=>h) hS3 (RegF.yld rfl (fun W hW=>by go_simp)) ?_
      simp only[List.getElem_toArray,List.getElem_cons_succ,List.getElem_cons_zero,Act.put,List.setIfInBounds_toArray,List.set_cons_zero,List.set_cons_succ]
      have n8:=n71.below hX3 hql1
      have m8:=n8.setRow (rlgC (many:Int) A' 1 c' none 0 0 (-1) fr pg 1 1 0 none 0 0)
      have hg8:=setRow_grownBy x3 q (rlgC (many:Int) A' 1 c' none 0 0 (-1) fr pg 1 1 0 none 0 0)
      have hR8:=hR.grownT n8 (noTextL 0 none 0 0 none 0 0 0 0 0 0 0 0 none 0 0) hg8
      have hS8:=hS3.trans (grown_below hg8 hS3.size (fun r e=>by injection e with e;omega))
      refine RegF.one 8 (by kernel_rfl) (RegF.opS (w':=x3.setRow q (rlgC (many:Int) A' 1 c' none 0 0 (-1) fr pg 1 1 0 none 0 0)) rfl rfl (by exact x_storeQ2 rfl q rfl rfl rowRLog n8 rfl rfl (rlgC_one _ _ _ _ _ _ _ _ _ _ _ _ _ _ _ _)) ⟨fun _=>hS8,?_⟩)
      simp only[List.getElem_toArray,List.getElem_cons_succ,List.getElem_cons_zero,Act.put]
      generalize x3.setRow q (rlgC (many:Int) A' 1 c' none 0 0 (-1) fr pg 1 1 0 none 0 0)=x8 at *
      refine RegF.one 9 (by kernel_rfl) (RegF.opV (w':=x8) (.int .i64 0) rfl rfl (by go_simp) ⟨fun _=>hS8,RegF.done (by kernel_rfl) ?_⟩)
      simp only[List.getElem_toArray,List.getElem_cons_succ,List.getElem_cons_zero,Act.put,List.setIfInBounds_toArray,List.set_cons_zero,List.set_cons_succ]
      exact⟨q,A',c',by repeat (first|exact rfl|apply Exists.intro),m8,hR8,hS8,hq⟩
  · rintro a W ⟨q,A',c',⟨u0,u3,u16,u17,u18,u19,u20,u21,u22,u23,u24,u25,u26,u27,u28,u29,u30,u31,u32,u33,u34,u35,u36,u37,u38,u39,u40,u41,u42,u43,u44,u45,u46,u47,u48,u49,u50,u51,u52,u53,u54,u55,u56,rfl⟩,hq,hR,hBW,hql⟩
    have hBd:Below W.heap.size W W.drew:=(Below.refl _ _).drew
    have hS1:W.drew.heap.size=W.drew.heap.size/\BlkIs W.drew q 36 (rlgC (many:Int) A' 1 c' none 0 0 (-1) fr pg 1 1 0 none 0 0):=⟨rfl,hq.below hBd hq.lt⟩
    go_wp2_with fail
    refine RegF.start (fun W=>BlkIs W q 36 (rlgC (many:Int) A' 1 c' none 0 0 (-1) fr pg 1 1 0 none 0 0)) 99 (by kernel_rfl) ?_
    refine RegF.take0 0 (cv) rfl (by kernel_rfl) (by kernel_rfl) (by kernel_rfl) rfl (fun _ _ _ h=>h) hS1.2 (RegF.yld rfl (fun W hW=>by go_simp)) ?_
    simp only[List.getElem_toArray,List.getElem_cons_zero,Act.put,List.setIfInBounds_toArray,List.set_cons_zero,List.set_cons_succ]
    refine RegF.take0 1 (.pointer (some ⟨d,0,none⟩)) rfl (by kernel_rfl) (by kernel_rfl) (by kernel_rfl) rfl (fun _ _ _ h=>h) hS1.2 (RegF.yld rfl (fun W hW=>by go_simp)) ?_
    simp only[List.getElem_toArray,List.getElem_cons_succ,List.getElem_cons_zero,Act.put,List.setIfInBounds_toArray,List.set_cons_zero,List.set_cons_succ]
    refine RegF.take0 2 (.agg (rlgC (many:Int) A' 1 c' none 0 0 (-1) fr pg 1 1 0 none 0 0)) rfl (by kernel_rfl) (by kernel_rfl) (by kernel_rfl) rfl (fun _ _ _ h=>h) hS1.2 (RegF.yld rfl (fun W hW=>by exact x_loadQ rowRLog hW rfl rfl rfl)) ?_
    simp only[List.getElem_toArray,List.getElem_cons_succ,List.getElem_cons_zero,Act.put,List.setIfInBounds_toArray,List.set_cons_zero,List.set_cons_succ]
    refine RegF.take0 3 (.int .i64 room) rfl (by kernel_rfl) (by kernel_rfl) (by kernel_rfl) rfl (fun _ _ _ h=>h) hS1.2 (RegF.yld rfl (fun W hW=>by go_simp)) ?_
    simp only[List.getElem_toArray,List.getElem_cons_succ,List.getElem_cons_zero,Act.put,List.setIfInBounds_toArray,List.set_cons_zero,List.set_cons_succ]
    refine RegF.take0 4 (.agg (rcaC (rlgC (many:Int) A' 1 c' none 0 0 (-1) fr pg 1 1 0 none 0 0) room none 0 0 0 0)) rfl (by kernel_rfl) (by kernel_rfl) (by kernel_rfl) rfl (fun _ _ _ h=>h) hS1.2 (RegF.yld rfl (fun W hW=>by unfold rcaC rlgC;simp only[List.append_toArray,List.cons_append,List.nil_append];go_simp)) ?_
    simp only[List.getElem_toArray,List.getElem_cons_succ,List.getElem_cons_zero,Act.put,List.setIfInBounds_toArray,List.set_cons_zero,List.set_cons_succ]
    refine RegF.take0 5 (.int .i64 0) rfl (by kernel_rfl) (by kernel_rfl) (by kernel_rfl) rfl (fun _ _ _ h=>h) hS1.2 (RegF.yld rfl (fun W hW=>by go_simp)) ?_
    simp only[List.getElem_toArray,List.getElem_cons_succ,List.getElem_cons_zero,Act.put,List.setIfInBounds_toArray,List.set_cons_zero,List.set_cons_succ]
    refine RegF.take0 7 (.int .i64 0) rfl (by kernel_rfl) (by kernel_rfl) (by kernel_rfl) rfl (fun _ _ _ h=>h) hS1.2 (RegF.yld rfl (fun W hW=>by go_simp)) ?_
    simp only[List.getElem_toArray,List.getElem_cons_succ,List.getElem_cons_zero,Act.put,List.setIfInBounds_toArray,List.set_cons_zero,List.set_cons_succ]
    refine RegF.take0 10 (.int .i64 x) rfl (by kernel_rfl) (by kernel_rfl) (by kernel_rfl) rfl (fun _ _ _ h=>h) hS1.2 (RegF.yld rfl (fun W hW=>by go_simp)) ?_
    simp only[List.getElem_toArray,List.getElem_cons_succ,List.getElem_cons_zero,Act.put,List.setIfInBounds_toArray,List.set_cons_zero,List.set_cons_succ]
    refine RegF.take0 13 (.int .i64 0) rfl (by kernel_rfl) (by kernel_rfl) (by kernel_rfl) rfl (fun _ _ _ h=>h) hS1.2 (RegF.yld rfl (fun W hW=>by go_simp)) ?_
    simp only[List.getElem_toArray,List.getElem_cons_succ,List.getElem_cons_zero,Act.put,List.setIfInBounds_toArray,List.set_cons_zero,List.set_cons_succ]
    refine RegF.one 6 (by kernel_rfl) ?_
    refine RegF.opC 8 #[.tmp 46] #[45] rfl rfl rfl (enters_of Tryz.func8 (by kernel_rfl) rfl) #[.int .i64 0] (by simp only[List.map_toArray,List.map_cons,List.map_nil];rfl) ((num8_gives 0 _).mono ?_)
    rintro e x1 ⟨rfl,rfl⟩
    refine⟨_,rfl,fun _=>hS1.2,?_⟩
    simp only[List.getElem_toArray,List.getElem_cons_succ,List.getElem_cons_zero,Act.put,List.setIfInBounds_toArray,List.set_cons_zero,List.set_cons_succ]
    refine RegF.one 8 (by kernel_rfl) ?_
    refine RegF.opC 8 #[.tmp 48] #[45] rfl rfl rfl (enters_of Tryz.func8 (by kernel_rfl) rfl) #[.int .i64 0] (by simp only[List.map_toArray,List.map_cons,List.map_nil];rfl) ((num8_gives 0 _).mono ?_)
    rintro e x1 ⟨rfl,rfl⟩
    refine⟨_,rfl,fun _=>hS1.2,?_⟩
    simp only[List.getElem_toArray,List.getElem_cons_succ,List.getElem_cons_zero,Act.put,List.setIfInBounds_toArray,List.set_cons_zero,List.set_cons_succ]
    refine RegF.take0 9 (.int .i64 0) rfl (by kernel_rfl) (by kernel_rfl) (by kernel_rfl) rfl (fun _ _ _ h=>h) hS1.2 (RegF.yld rfl (fun W hW=>by go_simp;rfl)) ?_
    simp only[List.getElem_toArray,List.getElem_cons_succ,List.getElem_cons_zero,Act.put,List.setIfInBounds_toArray,List.set_cons_zero,List.set_cons_succ]
    refine RegF.one 11 (by kernel_rfl) ?_
    refine RegF.opC 8 #[.tmp 51] #[45] rfl rfl rfl (enters_of Tryz.func8 (by kernel_rfl) rfl) #[.int .i64 x] (by simp only[List.map_toArray,List.map_cons,List.map_nil];rfl) ((num8_gives x _).mono ?_)
    rintro e x1 ⟨rfl,rfl⟩
    refine⟨_,rfl,fun _=>hS1.2,?_⟩
    simp only[List.getElem_toArray,List.getElem_cons_succ,List.getElem_cons_zero,Act.put,List.setIfInBounds_toArray,List.set_cons_zero,List.set_cons_succ]
    refine RegF.take0 12 (.int .i64 x) rfl (by kernel_rfl) (by kernel_rfl) (by kernel_rfl) rfl (fun _ _ _ h=>h) hS1.2 (RegF.yld rfl (fun W hW=>by go_simp)) ?_
    simp only[List.getElem_toArray,List.getElem_cons_succ,List.getElem_cons_zero,Act.put,List.setIfInBounds_toArray,List.set_cons_zero,List.set_cons_succ]
    refine RegF.take0 14 (.int .i64 x) rfl (by kernel_rfl) (by kernel_rfl) (by kernel_rfl) rfl (fun _ _ _ h=>h) hS1.2 (RegF.yld rfl (fun W hW=>by go_simp)) ?_
    simp only[List.getElem_toArray,List.getElem_cons_succ,List.getElem_cons_zero,Act.put,List.setIfInBounds_toArray,List.set_cons_zero,List.set_cons_succ]
    refine RegF.take0 15 (.bool b) rfl (by kernel_rfl) (by kernel_rfl) (by kernel_rfl) rfl (fun _ _ _ h=>h) hS1.2 (RegF.yld rfl (fun W hW=>by go_simp)) ?_
    simp only[List.getElem_toArray,List.getElem_cons_succ,List.getElem_cons_zero,Act.put,List.setIfInBounds_toArray,List.set_cons_zero,List.set_cons_succ]
    refine RegF.one 16 (by kernel_rfl) (RegF.opV (w':=W.drew) cv rfl rfl (by go_simp) ⟨fun _=>hS1.2,?_⟩)
    simp only[List.getElem_toArray,List.getElem_cons_succ,List.getElem_cons_zero,Act.put,List.setIfInBounds_toArray,List.set_cons_zero,List.set_cons_succ]
    refine RegF.one 17 (by kernel_rfl) (RegF.opV (w':=W.drew) (.pointer (some ⟨d,0,none⟩)) rfl rfl (by go_simp) ⟨fun _=>hS1.2,?_⟩)
    simp only[List.getElem_toArray,List.getElem_cons_succ,List.getElem_cons_zero,Act.put,List.setIfInBounds_toArray,List.set_cons_zero,List.set_cons_succ]
    have b6d:=(b64.below hBW b64.lt).below hBd (Nat.lt_of_lt_of_le b64.lt hBW.size)
    have hg8:=setRow_grownBy W.drew (w.heap.size+1) (rcaC (rlgC (many:Int) A' 1 c' none 0 0 (-1) fr pg 1 1 0 none 0 0) room none 0 0 0 0)
    have m8:=b6d.setRow (rcaC (rlgC (many:Int) A' 1 c' none 0 0 (-1) fr pg 1 1 0 none 0 0) room none 0 0 0 0)
    have hqne:w.heap.size+1≠q:=by have:=b64.lt;omega
    have hS2:=hS1.2.grown hg8 (fun e=>by injection e with e;omega)
    have hRd:RIs W.drew W.drew.heap.size [(1,hEnc 1 1 0 0)] [] A' c' none 0:=hR.grow hBd
    have hR8:=hRd.grownT b6d (noTextCa0) hg8
    have hBall:=hBw4.trans ((hBW.trans (hBd.mono hBW.size)).mono hBw4.size)
    have hB8:=hBall.trans (grown_below hg8 hBall.size (fun r e=>by injection e with e;omega))
    have hBC:Below (w.heap.size+1+1) w4 (W.drew.setRow (w.heap.size+1) (rcaC (rlgC (many:Int) A' 1 c' none 0 0 (-1) fr pg 1 1 0 none 0 0) room none 0 0 0 0))∨True:=.inr trivial
    have hK8:GrowBut (fun k=>k=w.heap.size+1) w4 (W.drew.setRow (w.heap.size+1) (rcaC (rlgC (many:Int) A' 1 c' none 0 0 (-1) fr pg 1 1 0 none 0 0) room none 0 0 0 0)):=(GrowBut.below (hBW.trans (hBd.mono hBW.size))).trans (GrowBut.grown hg8 (fun r e=>by injection e with e;exact .inl e.symm))
    refine RegF.one 18 (by kernel_rfl) (RegF.opS (w':=W.drew.setRow (w.heap.size+1) (rcaC (rlgC (many:Int) A' 1 c' none 0 0 (-1) fr pg 1 1 0 none 0 0) room none 0 0 0 0)) rfl rfl (by exact x_storeQ2 rfl (w.heap.size+1) rfl rfl rowRCache b6d rfl rfl (rcaC_one _ _ _ _ _ _ _ (rlgC_one _ _ _ _ _ _ _ _ _ _ _ _ _ _ _ _))) ⟨fun _=>hS2,?_⟩)
    simp only[List.getElem_toArray,List.getElem_cons_succ,List.getElem_cons_zero,Act.put]
    generalize W.drew.setRow (w.heap.size+1) (rcaC (rlgC (many:Int) A' 1 c' none 0 0 (-1) fr pg 1 1 0 none 0 0) room none 0 0 0 0)=x8 at *
    refine RegF.one 19 (by kernel_rfl) (RegF.opV (w':=x8) (.bool b) rfl rfl (by go_simp) ⟨fun _=>hS2,RegF.done (by kernel_rfl) ?_⟩)
    simp only[List.getElem_toArray,List.getElem_cons_succ,List.getElem_cons_zero,Act.put,List.setIfInBounds_toArray,List.set_cons_zero,List.set_cons_succ]
    clear hS1 hS2 hq hS0 hld
    go_wp2
    refine bodyPost_ret (results4 4 5 6 7 rfl rfl rfl rfl rfl rowRCache m8 rfl) rfl ⟨d,f,l,cv,_,A',c',b,rfl,hR8,rfl,by omega,by omega,by omega,?_,hB8⟩
    rcases hout with⟨rfl,hr,a,r,rfl,ha,hrr,hC⟩|⟨rfl,hr,rfl⟩
    · refine .inl ⟨rfl,hr,a,r,rfl,ha,hrr,?_⟩
      exact CfIs.other hC b64 (by show 14<=64;decide) (fun n e=>by cases e) (by omega) (by decide) (by decide) (by decide) (by decide) (by decide) hK8
    · exact .inr ⟨rfl,hr,rfl⟩
section
variable {W0 W:World}{d f l a r many P:Nat}{fr pg room:Int}{s:DS}{S:LgS}{c:CaSt}
theorem swrite_gives (h:CsIs W0 d f l a r many P fr pg room s S c W)(hc:c.Ok 900000)(hroom:2<=room)(hP:P<=1000)(hPg:(P:Int)=pg)(page:Int)(A:Option Addr)(k:Nat)(y:List UInt8)(hy:y.length=512)(hin:InB W W.heap.size A k y) :
    Calls Tryz.prog 9 #[.pointer (some ⟨a,0,none⟩),.int .i64 page,.slice A 512 k] W fun e w'=>∃x c',e = .returned (.int .i64 x)/\WrP P room pg c page y W.heap.size x c'/\CsIs W0 d f l a r many P fr pg room s S c' w'/\GrowBut (caMu a r c.V) W w':=by
  have hnow:=hc.now
  by_cases hp:page<0∨pg<=page
  · refine(cwrite_range W a f l r fr pg room c.now c.hh c.mm h.ca.cb h.fh.fb page A k hp).mono ?_
    rintro e w' ⟨rfl,hB⟩
    exact⟨4,c,rfl,.inl ⟨hp,rfl,rfl⟩,CfIs.grow h hB,GrowBut.below hB⟩
  · refine(cwrite_gives W a f l r P fr pg room c.now c.hh c.mm c.V h.ca h.fh.fb hP hPg (by omega) hroom page (by omega) A k y hy hin).mono ?_
    rintro e w' ⟨⟨h1,h2,rfl,h3⟩|⟨V1,b,A1,c1,h1,rfl,h2⟩,hG⟩
    · have hW:WrP P room pg c page y W.heap.size 160 c:=.inr (.inl ⟨by omega,h1,h2,rfl,rfl⟩)
      exact⟨160,c,rfl,hW,CfIs.turn h hG h3 (fun k hk => .inl hk),hG⟩
    · have hW:WrP P room pg c page y W.heap.size 0 ⟨c.now+1,c.hh,c.mm,updV V1 page (some ⟨b,c.now+1,A1,c1,y,true⟩)⟩:=.inr (.inr ⟨by omega,V1,b,A1,c1,h1,rfl,rfl⟩)
      exact⟨0,_,rfl,hW,CfIs.turn h hG h2 hW.names,hG⟩
theorem sdrop_gives (h:CsIs W0 d f l a r many P fr pg room s S c W) :
    Calls Tryz.prog 12 #[.pointer (some ⟨a,0,none⟩)] W fun e w'=>e = .returned (.int .i64 0)/\CsIs W0 d f l a r many P fr pg room s S ⟨c.now,c.hh,c.mm,dropV c.V⟩ w'/\GrowBut (caMu a r c.V) W w':=by
  refine(cdrop_gives h.ca).mono ?_
  rintro e w' ⟨rfl,h1,hG⟩
  exact⟨rfl,CfIs.turn h hG h1 (fun k hk => .inl (caMu_sub (fun k v e=>(dropV_of e).1) k hk)),hG⟩
variable {G:Nat->List UInt8}{i:Nat}
theorem nx_plain (hS:StP fr pg G S i)(hp:PgIn pg S)(hi:i<=900)(hpl:planOk fr pg=true)(z:Int):∀n xs pw x s' S',ComOut fr pg P ⟨G,[],0,false⟩ S n xs pw z x s' S'->(∀k,k<n->(pw k).1=(xs k).1)->(∀k,k<n->(pw k).2.length=512)->(∃k,¬ s'.g k=zer64)/\∀x∈S'.fs,x.y.length=512:=fun n xs pw x s' S' hC hx hy=>by
  obtain⟨G',rfl,hS',_⟩:=com_plain hS hp hi hpl hx hy hC
  exact⟨hS'.nz,hS'.y⟩
theorem scommit_gives (h:CsIs W0 d f l a r many P fr pg room ⟨G,[],0,false⟩ S c W)(hc:c.Ok 900000)(hroom:2<=room)(hfull:FullV c.V)(hS:StP fr pg G S i)(hp:PgIn pg S)(hi:i<=900)(hpl:planOk fr pg=true)(hm:(many:Int)=2+9*fr+8*pg)(hmax:many<=100000)(hP:(P:Int)=pg)(hP2:P<=1000)(z:Int) :
    Calls Tryz.prog 11 #[.pointer (some ⟨a,0,none⟩),.int .i64 z] W fun e w'=>∃x s' S' c',e = .returned (.int .i64 x)/\CmRes fr pg P room ⟨G,[],0,false⟩ S c z W.heap.size x s' S' c'/\CsIs W0 d f l a r many P fr pg room s' S' c' w'/\GrowBut (sysMu d l a r c.V) W w':=by
  have hpr:=(planOk_iff fr pg).1 hpl
  have hfs:=hS.fs
  exact(callsIn_wide (n:=12)).1 (ccommit_in 12 (by decide) h (fileTold_free rfl (Nat.zero_le _) (by omega) hS.y hpl hm (by omega)) hc hroom hfull (okF_free G) (Nat.zero_le _) hS hp hi hpl hm hmax hP hP2 z (nx_plain hS hp hi hpl z))
theorem sread_free (h:CsIs W0 d f l a r many P fr pg room ⟨G,[],0,false⟩ S c W)(hc:c.Ok 900000)(hroom:2<=room)(hS:StP fr pg G S i)(hpl:planOk fr pg=true)(hm:(many:Int)=2+9*fr+8*pg)(hmax:many<=100000)(hP:(P:Int)=pg)(hP2:P<=1000)(page:Int) :
    Calls Tryz.prog 7 #[.pointer (some ⟨a,0,none⟩),.int .i64 page] W fun e w'=>∃x c',RdP P room c page (fileR fr pg ⟨G,[],0,false⟩ S page) W.heap.size x c'/\RdE x e w'/\CsIs W0 d f l a r many P fr pg room ⟨G,[],0,false⟩ S c' w'/\GrowBut (caMu a r c.V) W w':=by
  have hpr:=(planOk_iff fr pg).1 hpl
  have hfs:=hS.fs
  exact sread_gives h (fileTold_free rfl (Nat.zero_le _) (by omega) hS.y hpl hm (by omega)) hc hroom hP2 hP page
end
theorem keys3 {V:RowsV}{p0 p1 p2:Bool}(h0:(V 0).isSome=p0)(h1:(V 1).isSome=p1)(h2:(V 2).isSome=p2):(keysV (ptrV V) 3).length=(if p0 then 1 else 0)+(if p1 then 1 else 0)+(if p2 then 1 else 0):=by
  have e:∀k,(ptrV V k).isSome=(V k).isSome:=fun k=>by unfold ptrV;cases V k<;>rfl
  have hr:List.range 3=[0,1,2]:=rfl
  unfold keysV
  rw[hr]
  have f0:(ptrV V ((0:Nat):Int)).isSome=p0:=(e _).trans h0
  have f1:(ptrV V ((1:Nat):Int)).isSome=p1:=(e _).trans h1
  have f2:(ptrV V ((2:Nat):Int)).isSome=p2:=(e _).trans h2
  simp only[List.filter,f0,f1,f2]
  cases p0<;>cases p1<;>cases p2<;>rfl
def seq8 (k:Nat):Int:=match k with|1=>1|3=>2|_=>0
def o08 (k:Nat):Option Int:=match k with|0=>none|1=>some 1|2=>some 1|_=>some 3
def o18 (k:Nat):Option Int:=match k with|2=>some 2|3=>some 2|_=>none
def o28 (k:Nat):Option Int:=match k with|4=>some 4|_=>none
structure Q8 (k:Nat)(c:CaSt):Prop where
  now:c.now=(k:Int)
  hh:c.hh=if 3<=k then 1 else 0
  mm:c.mm=match k with|0=>0|1=>1|2=>2|3=>2|_=>3
  v0:(c.V 0).map RowV.at_=o08 k
  v1:(c.V 1).map RowV.at_=o18 k
  v2:(c.V 2).map RowV.at_=o28 k
  dom:∀j v,c.V j=some v->(j=0∨j=1∨j=2)/\v.d=false/\v.y.length=512
theorem map_upd (V:RowsV)(k j:Int)(v:RowV):(updV V k (some v) j).map RowV.at_=if j=k then some v.at_ else (V j).map RowV.at_:=by
  unfold updV
  split<;>rfl
theorem isSome_map {o:Option RowV}{p:Option Int}(h:o.map RowV.at_=p):o.isSome=p.isSome:=by rw[<-h];cases o<;>rfl
theorem some_map {o:Option RowV}{z:Int}(h:o.map RowV.at_=some z):∃v,o=some v/\v.at_=z:=by
  cases o with
  | none=>cases h
  | some v=>exact⟨v,rfl,by injection h⟩
theorem none_map {o:Option RowV}(h:o.map RowV.at_=none):o=none:=by
  cases o with
  | none=>rfl
  | some v=>cases h
theorem dom_upd {V V1:RowsV}{page:Int}{v:RowV}(h:∀j u,V1 j=some u->(j=0∨j=1∨j=2)/\u.d=false/\u.y.length=512)(hp:page=0∨page=1∨page=2)(hd:v.d=false)(hy:v.y.length=512):∀j u,updV V1 page (some v) j=some u->(j=0∨j=1∨j=2)/\u.d=false/\u.y.length=512:=fun j u hu=>by
  unfold updV at hu
  split at hu
  · rename_i e
    injection hu with hu
    subst hu
    exact⟨by rw[e];exact hp,hd,hy⟩
  · exact h j u hu
theorem step8 {k:Nat}{c c':CaSt}{R x:Int ⊕ List UInt8}{sz:Nat}(hk:k<4)(h:Q8 k c)(hR:RdP 3 2 c (seq8 k) R sz x c')(hRy:∃y,R = .inr y/\y.length=512):(∃y,x = .inr y)/\Q8 (k+1) c':=by
  obtain⟨h1,h2,h3,h4,h5,h6,h7⟩:=h
  obtain⟨y0,hy0,hyl⟩:=hRy
  have hn:=keys3 (isSome_map h4) (isSome_map h5) (isSome_map h6)
  have hseq:seq8 k=0∨seq8 k=1∨seq8 k=2:=by
    match k,hk with
    | 0,_=>exact .inl rfl
    | 1,_=>exact .inr (.inl rfl)
    | 2,_=>exact .inl rfl
    | 3,_=>exact .inr (.inr rfl)
  rcases hR with⟨v,g1,rfl,rfl⟩|⟨g1,er,g2,_,_⟩|⟨g1,y,g2,g3,_,_⟩|⟨g1,y,V1,b,A1,c1,g2,g3,g4,rfl,rfl⟩
  · refine⟨⟨_,rfl⟩,?_⟩
    have hd:=h7 _ v g1
    match k,hk with
    | 0,_=>exact absurd (none_map h4) (by rw[show c.V 0=some v from g1];simp)
    | 1,_=>exact absurd (none_map h5) (by rw[show c.V 1=some v from g1];simp)
    | 2,_ =>
      refine⟨by simp only[h1];rfl,by simp only[h2];rfl,by simp only[h3],?_,?_,?_,?_⟩
      · simp only[map_upd,h1];rfl
      · simp only[map_upd];exact h5
      · simp only[map_upd];exact h6
      · exact dom_upd (V:=c.V) h7 (.inl rfl) hd.2.1 hd.2.2
    | 3,_=>exact absurd (none_map h6) (by rw[show c.V 2=some v from g1];simp)
  · rw[hy0] at g2;cases g2
  · exfalso
    obtain⟨g5,g6⟩:=g3
    match k,hk with
    | 0,_=>have hn':(keysV (ptrV c.V) 3).length=0:=hn;omega
    | 1,_=>have hn':(keysV (ptrV c.V) 3).length=1:=hn;omega
    | 2,_ =>
      obtain⟨v,hv,_⟩:=some_map h4
      have:=g6 0 v hv
      rw[(h7 0 v hv).2.1] at this
      cases this
    | 3,_ =>
      obtain⟨v,hv,_⟩:=some_map h4
      have:=g6 0 v hv
      rw[(h7 0 v hv).2.1] at this
      cases this
  · refine⟨⟨_,rfl⟩,?_⟩
    rw[hy0] at g2
    injection g2 with g2
    subst g2
    match k,hk with
    | 0,_ =>
      rcases g3 with⟨_,rfl⟩|⟨g5,_⟩
      · refine⟨by simp only[h1];rfl,by simp only[h2];rfl,by simp only[h3];rfl,?_,?_,?_,?_⟩
        · simp only[map_upd,h1];rfl
        · simp only[map_upd];exact h5
        · simp only[map_upd];exact h6
        · exact dom_upd (V:=c.V) h7 (.inl rfl) rfl hyl
      · have hn':(keysV (ptrV c.V) 3).length=0:=hn;omega
    | 1,_ =>
      rcases g3 with⟨_,rfl⟩|⟨g5,_⟩
      · refine⟨by simp only[h1];rfl,by simp only[h2];rfl,by simp only[h3];rfl,?_,?_,?_,?_⟩
        · simp only[map_upd];exact h4
        · simp only[map_upd,h1];rfl
        · simp only[map_upd];exact h6
        · exact dom_upd (V:=c.V) h7 (.inr (.inl rfl)) rfl hyl
      · have hn':(keysV (ptrV c.V) 3).length=1:=hn;omega
    | 2,_ =>
      obtain⟨v,hv,_⟩:=some_map h4
      rw[show c.V 0=none from g1] at hv
      cases hv
    | 3,_ =>
      rcases g3 with⟨g5,_⟩|⟨_,k0,v0,g5,g6,g7,rfl⟩
      · have hn':(keysV (ptrV c.V) 3).length=2:=hn;omega
      · obtain⟨u0,hu0,e0⟩:=some_map h4
        obtain⟨u1,hu1,e1⟩:=some_map h5
        have hk0:k0=1:=by
          rcases(h7 k0 v0 g5).1 with rfl|rfl|rfl
          · have:=g7 1 u1 hu1 (h7 1 u1 hu1).2.1
            rw[hu0] at g5
            injection g5 with g5
            subst g5
            omega
          · rfl
          · rw[show c.V 2=none from g1] at g5;cases g5
        subst hk0
        refine⟨by simp only[h1];rfl,by simp only[h2];rfl,by simp only[h3];rfl,?_,?_,?_,?_⟩
        · simp only[map_upd]
          show (updV c.V 1 none 0).map RowV.at_=_
          rw[updV_ne (by decide)]
          exact h4
        · simp only[map_upd]
          show (updV c.V 1 none 1).map RowV.at_=_
          rw[updV_self]
          rfl
        · simp only[map_upd,h1];rfl
        · refine dom_upd (V:=c.V) (fun j u hu => ?_) (.inr (.inr rfl)) rfl hyl
          unfold updV at hu
          split at hu
          · cases hu
          · exact h7 j u hu
structure Q9 (c:CaSt):Prop where
  s0:∃v,c.V 0=some v/\v.d=true
  s1:c.V 1=none
  s2:∃v,c.V 2=some v/\v.d=true
  dom:∀j v,c.V j=some v->j=0∨j=1∨j=2
theorem last8 {c c':CaSt}{R x:Int ⊕ List UInt8}{sz:Nat}(h:Q9 c)(hR:RdP 3 2 c 1 R sz x c')(hRy:∃y,R = .inr y/\y.length=512):x = .inl 160:=by
  obtain⟨⟨v0,e0,d0⟩,e1,⟨v2,e2,d2⟩,hd⟩:=h
  obtain⟨y0,hy0,hyl⟩:=hRy
  have hn:=keys3 (V:=c.V) (p0:=true) (p1:=false) (p2:=true) (by rw[e0];rfl) (by rw[e1];rfl) (by rw[e2];rfl)
  simp at hn
  rcases hR with⟨v,g1,_,_⟩|⟨g1,er,g2,_,_⟩|⟨g1,y,g2,g3,rfl,_⟩|⟨g1,y,V1,b,A1,c1,g2,g3,g4,rfl,rfl⟩
  · rw[e1] at g1;cases g1
  · rw[hy0] at g2;cases g2
  · rfl
  · exfalso
    rcases g3 with⟨g5,_⟩|⟨_,k0,w0,g5,g6,g7,_⟩
    · omega
    · rcases hd k0 w0 g5 with rfl|rfl|rfl
      · rw[e0] at g5;injection g5 with g5;subst g5;rw[d0] at g6;cases g6
      · rw[e1] at g5;cases g5
      · rw[e2] at g5;injection g5 with g5;subst g5;rw[d2] at g6;cases g6
theorem wr8 {c c':CaSt}{p x:Int}{y:List UInt8}{sz:Nat}(hp:0<=p/\p<3)(hv:∃v,c.V p=some v)(h:WrP 3 2 3 c p y sz x c'):x=0/\∃v,v.d=true/\c'.V=updV c.V p (some v)/\c'.now=c.now+1/\c'.hh=c.hh/\c'.mm=c.mm:=by
  obtain⟨v,hv⟩:=hv
  rcases h with⟨h1,_,_⟩|⟨_,h1,_⟩|⟨_,V1,b,A1,c1,h1,rfl,rfl⟩
  · omega
  · rw[hv] at h1;cases h1
  · rcases h1 with⟨u,_,_,rfl⟩|⟨h1,_⟩
    · exact⟨rfl,_,rfl,rfl,rfl,rfl,rfl⟩
    · rw[hv] at h1;cases h1
theorem page8_at (v:UInt8)(x:Int)(hx:(v.toNat:Int)=x)(W:World):Calls Tryz.prog 10 #[.int .u8 x] W fun e w'=>∃A c,e = .returned (.slice A 512 c)/\InB w' w'.heap.size A c (pgL v)/\Below W.heap.size W w':=by
  subst hx
  refine(page8_gives W v).mono ?_
  rintro e w' ⟨y,rfl,own,hB⟩
  obtain⟨A,c,rfl,hin⟩:=own.inB
  exact⟨A,c,by rw[pgL_length],hin,hB⟩
theorem seq8_get {k:Nat}(hk:k<4):(#[.int .i64 0,.int .i64 1,.int .i64 0,.int .i64 2]:Array Value)[k]? = some (.int .i64 (seq8 k)):=by
  match k,hk with
  | 0,_=>rfl
  | 1,_=>rfl
  | 2,_=>rfl
  | 3,_=>rfl
theorem seq8_in {k:Nat}(hk:k<4):0<=seq8 k/\seq8 k<3:=by
  match k,hk with
  | 0,_=>exact⟨by decide,by decide⟩
  | 1,_=>exact⟨by decide,by decide⟩
  | 2,_=>exact⟨by decide,by decide⟩
  | 3,_=>exact⟨by decide,by decide⟩
theorem Q8.zero:Q8 0 ⟨0,0,0,fun _=>none⟩:=⟨rfl,rfl,rfl,rfl,rfl,rfl,fun j v h=>by cases h⟩
theorem Q8.ok {k:Nat}{c:CaSt}(h:Q8 k c)(hk:k<=4):c.Ok 900000:=by
  have h1:=h.now
  have h2:=h.hh
  have h3:=h.mm
  refine⟨by omega,by split at h2<;>omega,?_⟩
  match k,hk with
  | 0,_=>have h3':c.mm=0:=h3;omega
  | 1,_=>have h3':c.mm=1:=h3;omega
  | 2,_=>have h3':c.mm=2:=h3;omega
  | 3,_=>have h3':c.mm=2:=h3;omega
  | 4,_=>have h3':c.mm=3:=h3;omega
theorem Q8.nine {c c1 c2:CaSt}(h:Q8 4 c){v0 v2:RowV}(d0:v0.d=true)(d2:v2.d=true)(h1:c1.V=updV c.V 0 (some v0))(h2:c2.V=updV c1.V 2 (some v2)):Q9 c2:=by
  refine⟨⟨v0,?_,d0⟩,?_,⟨v2,?_,d2⟩,fun j v hj => ?_⟩
  · rw[h2,updV_ne (by decide),h1,updV_self]
  · rw[h2,updV_ne (by decide),h1,updV_ne (by decide)]
    exact none_map h.v1
  · rw[h2,updV_self]
  · rw[h2] at hj
    unfold updV at hj
    split at hj
    · exact .inr (.inr ‹_›)
    · rw[h1] at hj
      unfold updV at hj
      split at hj
      · exact .inl ‹_›
      · exact(h.dom j v hj).1
theorem works8_gives (w:World):Calls Tryz.prog 5 #[] w fun e w'=>e = .returned (.bool true)/\Below w.heap.size w w':=by
  have H0:=begun8_gives w w (Below.refl _ _) 5 3 2 (by decide) 71 3 (by decide) (by decide) rfl
  obtain⟨G,hGe⟩:∃G,G=laid (fun _=>zer64) (wrL 1 (hEnc 1 1 0 0) 1):=⟨_,rfl⟩
  have hS:StP 5 3 G ⟨1,1,0,[]⟩ 0:=by rw[hGe];exact StP.begun (by decide) (by decide)
  rw[<-hGe] at H0
  clear hGe
  have hR:∀p,0<=p/\p<3->∃y,fileR 5 3 ⟨G,[],0,false⟩ ⟨1,1,0,[]⟩ p = .inr y/\y.length=512:=fun p hp=>by
    obtain⟨hz,hL⟩:=hS.li
    exact⟨_,fileR_in rfl hp,fpY_len hL.len hS.y _ _⟩
  have HRd:∀{d f l a r:Nat} {c:CaSt} {W:World},CsIs w d f l a r 71 3 5 3 2 ⟨G,[],0,false⟩ ⟨1,1,0,[]⟩ c W->c.Ok 900000->∀page,_:=fun h hc page=>sread_free h hc (by decide) hS (by decide) (by decide) (by decide) rfl (by decide) page
  have HWr:∀{d f l a r:Nat} {c:CaSt} {W:World},CsIs w d f l a r 71 3 5 3 2 ⟨G,[],0,false⟩ ⟨1,1,0,[]⟩ c W->c.Ok 900000->∀page A k y,y.length=512->InB W W.heap.size A k y->_:=fun h hc page A k y hy hin=>swrite_gives h hc (by decide) (by decide) rfl page A k y hy hin
  obtain⟨Y1,hY1e⟩:∃Y1,Y1=pgL 1:=⟨_,rfl⟩
  have hY1:Y1.length=512:=by rw[hY1e];exact pgL_length _
  have HPa:∀W,_:=fun W=>page8_at 1 1 rfl W
  rw[<-hY1e] at HPa
  clear hY1e
  obtain⟨Y2,hY2e⟩:∃Y1,Y1=pgL 2:=⟨_,rfl⟩
  have hY2:Y2.length=512:=by rw[hY2e];exact pgL_length _
  have HPb:∀W,_:=fun W=>page8_at 2 2 rfl W
  rw[<-hY2e] at HPb
  clear hY2e
  go_enter Tryz.func5,Tryz.ntmps5
  go_wp2_with (first
    | (go_at_call 6;refine H0.mono ?_;rintro e w1 ⟨d,f,l,cv,dv,A',c',b,rfl,hR1,rfl,hd,hl,hf,hout,hB1⟩;obtain⟨a,r,rfl,rfl,ha,hr,hC1⟩:∃a r,b=true/\cv = .pointer (some ⟨a,0,none⟩)/\w.heap.size<=a/\w.heap.size<=r/\CsIs w d f l a r 71 3 5 3 2 ⟨G,[],0,false⟩ ⟨1,1,0,[]⟩ ⟨0,0,0,fun _=>none⟩ w1:=(by rcases hout with⟨h1,_,a,r,h2,h3,h4,h5⟩|⟨_,h2,_⟩;exact⟨a,r,h1,h2,h3,h4,h5⟩;exact absurd ⟨by decide,by decide⟩ h2);have bz:=BlkIs.new w1 39 zeroCa;unfold zeroCa zeroLog at bz;simp only[List.append_toArray,List.cons_append,List.nil_append] at bz)
    | (refine wp_storeW rfl 39 (.tmp 3) (.tmp 21) rfl w1.heap.size rfl rfl rowRCache bz (by rfl) (by rfl) (rcaC_one _ _ _ _ _ _ _ (rlgC_one _ _ _ _ _ _ _ _ _ _ _ _ _ _ _ _)) ?_)
    | fail)
  go_loopw [27] (fun i wr=>∃(k:Nat) (c:CaSt),k<=4/\i = .int .i64 (k:Int)/\Q8 k c/\CsIs w d f l a r 71 3 5 3 2 ⟨G,[],0,false⟩ ⟨1,1,0,[]⟩ c wr/\BlkIs wr (w1.heap.size+1) 3 #[.int .i64 0,.int .i64 1,.int .i64 0,.int .i64 2]) (fun i _=>4 - (intOf i).toNat)
  case atStart =>
    refine⟨0,⟨0,0,0,fun _=>none⟩,by omega,rfl,Q8.zero,CfIs.grow hC1 ((below_setRow ((Below.refl _ w1).alloc (Nat.le_refl _) _) (Nat.le_refl _) _).alloc (by simp[World.setRow]) _),?_⟩
    have:=BlkIs.new ((w1.alloc (Obj.cells #[Value.int IntKind.i64 0,Value.slice none 0 0,Value.slice none 0 0,Value.int IntKind.i64 0,
                  Value.int IntKind.i64 0,Value.int IntKind.i64 0,Value.int IntKind.u64 0,Value.int IntKind.u64 0,
                  Value.int IntKind.i64 0,Value.slice none 0 0,Value.int IntKind.i64 0,Value.slice none 0 0,
                  Value.int IntKind.i64 0,Value.int IntKind.i64 0] 39)).setRow w1.heap.size (rcaC (rlgC 71 A' 1 c' none 0 0 (-1) 5 3 1 1 0 none 0 0) 2 none 0 0 0 0)) 3 #[.int .i64 0,.int .i64 1,.int .i64 0,.int .i64 2]
    simp only[World.setRow,Array.size_modify,World.size_alloc] at this
    exact this
  case round =>
    obtain⟨k,c,hk,rfl,hQ,hC,hq⟩:=hrel
    clear hC1 hR1 bz hout hB1
    by_cases hlt:k<4
    · have hck:wr.cell? ⟨w1.heap.size+1,k,none⟩=some (.int .i64 (seq8 k)):=(hq.cell k).trans (seq8_get hlt)
      have HR1:=HRd hC (hQ.ok hk) (seq8 k)
      have hnq:¬ caMu a r c.V (w1.heap.size+1):=hC.ca.notTy hq (by decide) (by decide)
      have hseq:=seq8_in hlt
      go_wp2_with (first
        | (go_at_call 7;refine HR1.mono ?_;rintro e w2 ⟨x,c2,hx,hxe,hC2,hG2⟩;obtain⟨⟨y,rfl⟩,hQ2⟩:=step8 hlt hQ hx (hR _ hseq);obtain⟨A2,c3,rfl,hin2,_⟩:=hxe;have hq2:=hG2.blk hq hnq)
        | (go_at_call 8;refine(num8_gives 0 _).mono ?_;rintro e w3 ⟨rfl,rfl⟩))
      exact⟨⟨k+1,c2,by omega,by simp,hQ2,hC2,hq2⟩,by simp[intOf];omega⟩
    · obtain rfl:k=4:=by omega
      have HC:=ccounts_gives hC.ca
      have hhh:c.hh=1:=hQ.hh
      have hmm:c.mm=3:=hQ.mm
      have hv1:(c.V 1).isSome=false:=isSome_map hQ.v1
      have hv0:∃v,c.V 0=some v:=by obtain⟨v,h,_⟩:=some_map (z:=3) hQ.v0;exact⟨v,h⟩
      have hv2:∃v,c.V 2=some v:=by obtain⟨v,h,_⟩:=some_map (z:=4) hQ.v2;exact⟨v,h⟩
      have hok:=hQ.ok hk
      have hok4:c.Ok 100:=⟨by have:=hQ.now;omega,by omega,by omega⟩
      rw[hhh,hmm] at HC
      go_wp2_with (first
        | (go_at_call 13;refine HC.mono ?_;rintro e w2 ⟨rfl,hB2⟩;have hC2:=CfIs.grow hC hB2;have HH:=chas_gives hC2.ca 1;rw[hv1] at HH)
        | (go_at_call 14;refine HH.mono ?_;rintro e w3 ⟨rfl,rfl⟩)
        | (go_at_call 10;have hgo:=hC5;clear hgo;refine(HPb _).mono ?_;rintro e w6 ⟨A6,c6,rfl,hin6,hB6⟩;have hC6:=CfIs.grow hC5 hB6;have hv22:∃v,c5.V 2=some v:=(by rw[hV5,updV_ne (by decide)];exact hv2))
        | (go_at_call 10;refine(HPa _).mono ?_;rintro e w4 ⟨A4,c4,rfl,hin4,hB4⟩;have hC4:=CfIs.grow hC2 hB4)
        | (go_at_call 9;have hgo:=hC6;clear hgo;refine(HWr hC6 (hok5.more (by omega)) 2 A6 c6 Y2 hY2 hin6).mono ?_;rintro e w7 ⟨x7,c7,rfl,hx7,hC7,hG7⟩;have hok7:=hx7.ok hok5;obtain⟨rfl,v7,hd7,hV7,hn7,hh7,hm7⟩:=wr8 ⟨by decide,by decide⟩ hv22 hx7)
        | (go_at_call 9;refine(HWr hC4 hok 0 A4 c4 Y1 hY1 hin4).mono ?_;rintro e w5 ⟨x5,c5,rfl,hx5,hC5,hG5⟩;have hok5:=hx5.ok hok4;obtain⟨rfl,v5,hd5,hV5,hn5,hh5,hm5⟩:=wr8 ⟨by decide,by decide⟩ hv0 hx5)
        | (go_at_call 7;refine(HRd hC7 (hok7.more (by omega)) 1).mono ?_;rintro e w8 ⟨x8,c8,hx8,hxe8,hC8,hG8⟩;obtain rfl:=last8 (hQ.nine hd5 hd7 hV5 hV7) hx8 (hR 1 ⟨by decide,by decide⟩);obtain rfl:=hxe8)
        | (go_at_call 8;refine(num8_gives _ _).mono ?_;rintro e w9 ⟨rfl,rfl⟩))
      go_ret
      exact⟨rfl,hC8.fh.up⟩
structure PairS (W0:World)(d1 f1 l1 a1 r1 d2 f2 l2 a2 r2 many P:Nat)(fr pg rm1 rm2:Int)(G1:Nat->List UInt8)(S1:LgS)(c1:CaSt)(G2:Nat->List UInt8)(S2:LgS)(c2:CaSt)(W:World):Prop where
  h1:CsIs W0 d1 f1 l1 a1 r1 many P fr pg rm1 ⟨G1,[],0,false⟩ S1 c1 W
  h2:CsIs W0 d2 f2 l2 a2 r2 many P fr pg rm2 ⟨G2,[],0,false⟩ S2 c2 W
  ap:Apart (sysMu d1 l1 a1 r1 c1.V) (sysMu d2 l2 a2 r2 c2.V) f1 f2
section
variable {W0 W W':World}{d1 f1 l1 a1 r1 d2 f2 l2 a2 r2 many P:Nat}{fr pg rm1 rm2:Int}{G1 G1' G2:Nat->List UInt8}{S1 S1' S2:LgS}{c1 c1' c2:CaSt}{i:Nat}
theorem PairS.symm (h:PairS W0 d1 f1 l1 a1 r1 d2 f2 l2 a2 r2 many P fr pg rm1 rm2 G1 S1 c1 G2 S2 c2 W):PairS W0 d2 f2 l2 a2 r2 d1 f1 l1 a1 r1 many P fr pg rm2 rm1 G2 S2 c2 G1 S1 c1 W:=⟨h.h2,h.h1,h.ap.symm⟩
theorem PairS.grow (h:PairS W0 d1 f1 l1 a1 r1 d2 f2 l2 a2 r2 many P fr pg rm1 rm2 G1 S1 c1 G2 S2 c2 W)(hB:Below W.heap.size W W'):PairS W0 d1 f1 l1 a1 r1 d2 f2 l2 a2 r2 many P fr pg rm1 rm2 G1 S1 c1 G2 S2 c2 W':=⟨CfIs.grow h.h1 hB,CfIs.grow h.h2 hB,h.ap⟩
theorem PairS.turn1 (h:PairS W0 d1 f1 l1 a1 r1 d2 f2 l2 a2 r2 many P fr pg rm1 rm2 G1 S1 c1 G2 S2 c2 W)(hG:GrowBut (sysMu d1 l1 a1 r1 c1.V) W W')(hC:CsIs W0 d1 f1 l1 a1 r1 many P fr pg rm1 ⟨G1',[],0,false⟩ S1' c1' W')(hN:∀k,caMu a1 r1 c1'.V k->caMu a1 r1 c1.V k∨W.heap.size<=k):PairS W0 d1 f1 l1 a1 r1 d2 f2 l2 a2 r2 many P fr pg rm1 rm2 G1' S1' c1' G2 S2 c2 W':=by
  refine⟨hC,CfIs.keep h.h2 hG (CfIs.sm h.h1) (CfIs.ge h.h1) (fun k hk=>⟨fun hs=>h.ap k (.inl hk) (.inl hs),fun e=>h.ap k (.inl hk) (.inr e)⟩),h.ap.turn (W:=W) (fun k hk => ?_) (fun k hk => ?_)⟩
  · rcases hk with hk|hk|hk
    · exact .inl (.inl hk)
    · exact .inl (.inr (.inl hk))
    · exact(hN k hk).elim (fun e => .inl (.inr (.inr e))) .inr
  · rcases hk with hk|rfl
    · exact CfIs.lts h.h2 k hk
    · exact h.h2.fh.fb.lt
theorem GrowBut.sys {d l a r:Nat}{V:RowsV}(h:GrowBut (caMu a r V) W W'):GrowBut (sysMu d l a r V) W W':=h.more (fun k hk _ => .inr (.inr hk))
theorem PairS.begin (h1:CsIs W0 d1 f1 l1 a1 r1 many P fr pg rm1 ⟨G1,[],0,false⟩ S1 c1 W)(h2:CsIs W0 d2 f2 l2 a2 r2 many P fr pg rm2 ⟨G2,[],0,false⟩ S2 ⟨0,0,0,fun _=>none⟩ W')(hB:Below W.heap.size W W')(hd:W.heap.size<=d2)(hl:W.heap.size<=l2)(hf:W.heap.size<=f2)(ha:W.heap.size<=a2)(hr:W.heap.size<=r2):PairS W0 d1 f1 l1 a1 r1 d2 f2 l2 a2 r2 many P fr pg rm1 rm2 G1 S1 c1 G2 S2 ⟨0,0,0,fun _=>none⟩ W':=by
  refine⟨CfIs.grow h1 hB,h2,fun k hk h3 => ?_⟩
  have h4:k<W.heap.size:=by
    rcases hk with hk|rfl
    · exact CfIs.lts h1 k hk
    · exact h1.fh.fb.lt
  rcases h3 with(rfl|rfl|rfl|rfl|⟨j,v,e,_⟩)|rfl
  · omega
  · omega
  · omega
  · omega
  · cases e
  · omega
theorem pread1 (h:PairS W0 d1 f1 l1 a1 r1 d2 f2 l2 a2 r2 many P fr pg rm1 rm2 G1 S1 c1 G2 S2 c2 W)(hc:c1.Ok 900000)(hroom:2<=rm1)(hS:StP fr pg G1 S1 i)(hpl:planOk fr pg=true)(hm:(many:Int)=2+9*fr+8*pg)(hmax:many<=100000)(hP:(P:Int)=pg)(hP2:P<=1000)(page:Int) :
    Calls Tryz.prog 7 #[.pointer (some ⟨a1,0,none⟩),.int .i64 page] W fun e w'=>∃x c',RdP P rm1 c1 page (fileR fr pg ⟨G1,[],0,false⟩ S1 page) W.heap.size x c'/\RdE x e w'/\PairS W0 d1 f1 l1 a1 r1 d2 f2 l2 a2 r2 many P fr pg rm1 rm2 G1 S1 c' G2 S2 c2 w'/\GrowBut (caMu a1 r1 c1.V) W w':=by
  refine(sread_free h.h1 hc hroom hS hpl hm hmax hP hP2 page).mono ?_
  rintro e w' ⟨x,c',hx,hxe,hC,hG⟩
  exact⟨x,c',hx,hxe,h.turn1 hG.sys hC hx.names,hG⟩
theorem pwrite1 (h:PairS W0 d1 f1 l1 a1 r1 d2 f2 l2 a2 r2 many P fr pg rm1 rm2 G1 S1 c1 G2 S2 c2 W)(hc:c1.Ok 900000)(hroom:2<=rm1)(hP:P<=1000)(hPg:(P:Int)=pg)(page:Int)(A:Option Addr)(k:Nat)(y:List UInt8)(hy:y.length=512)(hin:InB W W.heap.size A k y) :
    Calls Tryz.prog 9 #[.pointer (some ⟨a1,0,none⟩),.int .i64 page,.slice A 512 k] W fun e w'=>∃x c' n,e = .returned (.int .i64 x)/\WrP P rm1 pg c1 page y n x c'/\PairS W0 d1 f1 l1 a1 r1 d2 f2 l2 a2 r2 many P fr pg rm1 rm2 G1 S1 c' G2 S2 c2 w'/\GrowBut (sysMu d1 l1 a1 r1 c1.V) W w':=by
  refine(swrite_gives h.h1 hc hroom hP hPg page A k y hy hin).mono ?_
  rintro e w' ⟨x,c',rfl,hx,hC,hG⟩
  exact⟨x,c',_,rfl,hx,h.turn1 hG.sys hC hx.names,hG.sys⟩
theorem dropV_sub {V:RowsV}{a r:Nat}:∀k,caMu a r (dropV V) k->caMu a r V k:=caMu_sub (fun k v e=>(dropV_of e).1)
theorem pdrop1 (h:PairS W0 d1 f1 l1 a1 r1 d2 f2 l2 a2 r2 many P fr pg rm1 rm2 G1 S1 c1 G2 S2 c2 W) :
    Calls Tryz.prog 12 #[.pointer (some ⟨a1,0,none⟩)] W fun e w'=>e = .returned (.int .i64 0)/\PairS W0 d1 f1 l1 a1 r1 d2 f2 l2 a2 r2 many P fr pg rm1 rm2 G1 S1 ⟨c1.now,c1.hh,c1.mm,dropV c1.V⟩ G2 S2 c2 w'/\GrowBut (sysMu d1 l1 a1 r1 c1.V) W w':=by
  refine(sdrop_gives h.h1).mono ?_
  rintro e w' ⟨rfl,hC,hG⟩
  exact⟨rfl,h.turn1 hG.sys hC (fun k hk => .inl (dropV_sub k hk)),hG.sys⟩
theorem pcommit1 (h:PairS W0 d1 f1 l1 a1 r1 d2 f2 l2 a2 r2 many P fr pg rm1 rm2 G1 S1 c1 G2 S2 c2 W){N:Nat}(hcN:c1.Ok N)(hN:N<=900)(hroom:2<=rm1)(hS:StP fr pg G1 S1 i)(hp:PgIn pg S1)(hi:i<=900)(hpl:planOk fr pg=true)(hm:(many:Int)=2+9*fr+8*pg)(hmax:many<=100000)(hP:(P:Int)=pg)(hP2:P<=1000)(hpg:pg<=200)(hR:RowsOk P (fileY G1 fr S1) (rowsR c1.V))(z:Int) :
    Calls Tryz.prog 11 #[.pointer (some ⟨a1,0,none⟩),.int .i64 z] W fun e w'=>∃x G1' S1' c',e = .returned (.int .i64 x)/\StP fr pg G1' S1' (i+2)/\PgIn pg S1'/\c'.Ok (N+1)/\CmT fr pg P z G1 S1 (rowsR c1.V) x G1' S1' (rowsR c'.V)/\PairS W0 d1 f1 l1 a1 r1 d2 f2 l2 a2 r2 many P fr pg rm1 rm2 G1' S1' c' G2 S2 c2 w'/\GrowBut (sysMu d1 l1 a1 r1 c1.V) W w':=by
  refine(scommit_gives h.h1 (hcN.more (by omega)) hroom hR.full hS hp hi hpl hm hmax hP hP2 z).mono ?_
  rintro e w' ⟨x,s',S',c',rfl,hx,hC,hG⟩
  have hn:=hx.names (a:=a1) (r:=r1)
  obtain⟨G',rfl,hS',hp',hok,hT⟩:=hx.plain hS hp hi hpl hpg hP hR hcN
  exact⟨x,G',S',c',rfl,hS',hp',hok,hT,h.turn1 hG hC hn,hG⟩
end
structure AcT where
  what:Int
  page:Int
  size:Int
  b:UInt8
deriving Inhabited
def acT (x:AcT):List Value:=[.int .i64 x.what,.int .i64 x.page,.int .i64 x.size,.int .u8 (x.b.toNat:Int)]
def actV (xs:List AcT):List Value:=(xs.map acT).flatten
theorem actV_elem:∀(xs:List AcT) (j:Nat) (h:j<xs.length),((actV xs).drop (j*4)).take 4=acT xs[j]
  | x::xs,0,_=>by
    have e:actV (x::xs)=acT x++actV xs:=rfl
    rw[e]
    rfl
  | x::xs,j+1,h=>by
    have e:actV (x::xs)=acT x++actV xs:=rfl
    rw[e,show (j+1)*4=4+j*4 by omega,<-List.drop_drop]
    exact actV_elem xs j (by simpa using h)
theorem acT_one (x:AcT):∀v∈acT x,v.oneCell'=true:=by
  intro v hv
  simp[acT] at hv
  rcases hv with rfl|rfl|rfl|rfl<;>rfl
theorem rowAcT:RowTy Tryz.prog 43 4:=⟨⟨_,Tryz.underlying43,rfl⟩,by kernel_rfl⟩
theorem wp_storeBox {w:World}{ops:Array Oper}{rest:List Oper}{o:Oper}{a:Act}{Q:Exit->Act->World->Prop}(hgd:o.guard=none)(T:TypeId)(x y:Operand)(ho:o.op = .store T x y){t:TypeId}{cs cs':Array Value}(hx:a.eval x = .pointer (some ⟨w.heap.size,0,none⟩))(hy:a.eval y = .agg cs'){n:Nat}(hT:RowTy Tryz.prog T n)(hn:cs.size=n)(hs:cs'.size=cs.size)(h1:∀v∈cs'.toList,v.oneCell'=true)
    (h:∀w',Below w.heap.size w w'->BlkIs w' w.heap.size t cs'->wpList Tryz.prog ops Q rest (a.put o.dst undef) w'):wpList Tryz.prog ops Q (o::rest) a (w.alloc (.cells cs t)) :=
  wp_storeW hgd T x y ho w.heap.size hx hy hT (BlkIs.new w t cs) hn hs h1 (h _ (below_setRow ((Below.refl _ w).alloc (Nat.le_refl _) _) (Nat.le_refl _) _) ((BlkIs.new w t cs).setRow cs'))
theorem StP.more {fr pg:Int}{G:Nat->List UInt8}{S:LgS}{i j:Nat}(h:StP fr pg G S i)(hij:i<=j):StP fr pg G S j:=⟨h.li,by have:=h.sr;omega,by have:=h.ep;omega,h.fs,h.sz⟩
structure BegA (W0 w:World)(d f l a r many P:Nat)(fr pg room:Int)(G:Nat->List UInt8)(S:LgS)(w':World):Prop where
  cs:CsIs W0 d f l a r many P fr pg room ⟨G,[],0,false⟩ S ⟨0,0,0,fun _=>none⟩ w'
  hd:w.heap.size<=d
  hl:w.heap.size<=l
  hf:w.heap.size<=f
  ha:w.heap.size<=a
  hr:w.heap.size<=r
  up:Below w.heap.size w w'
def BegOut (w:World)(P:Nat->Nat->Nat->Nat->Nat->World->Prop)(bad:Prop)(e:Ending)(w':World):Prop:=∃cv dv cs b,e = .returned (.tuple #[cv,dv,.agg cs,.bool b])/\Below w.heap.size w w'/\cs.size=14/\(∀v∈cs.toList,v.oneCell'=true)/\((b=true/\¬ bad/\∃d f l a r,dv = .pointer (some ⟨d,0,none⟩)/\cv = .pointer (some ⟨a,0,none⟩)/\P d f l a r w')∨(b=false/\bad))
theorem begun8_out (W0 w:World)(hup:Below W0.heap.size W0 w)(fr pg room:Int)(hpl:planOk fr pg=true)(many P:Nat)(hmany:(many:Int)=2+9*fr+8*pg)(hmax:many<=40000)(hP:(P:Int)=pg) :
    Calls Tryz.prog 6 #[.agg #[.int .i64 fr,.int .i64 pg],.int .i64 room] w (BegOut w (fun d f l a r w'=>BegA W0 w d f l a r many P fr pg room (laid (fun _=>zer64) (wrL 1 (hEnc 1 1 0 0) 1)) ⟨1,1,0,[]⟩ w') (¬ (2<=room/\room<=2000))):=by
  refine(begun8_gives W0 w hup fr pg room hpl many P hmany hmax hP).mono ?_
  rintro e w' ⟨d,f,l,cv,dv,A',c',b,rfl,_,rfl,hd,hl,hf,hout,hB⟩
  refine⟨cv,_,_,b,rfl,hB,rfl,rcaC_one _ _ _ _ _ _ _ (rlgC_one _ _ _ _ _ _ _ _ _ _ _ _ _ _ _ _),?_⟩
  rcases hout with⟨rfl,hr,a,r,rfl,ha,hr2,hC⟩|⟨rfl,hr,rfl⟩
  · exact .inl ⟨rfl,fun h=>h hr,d,f,l,a,r,rfl,rfl,hC,hd,hl,hf,ha,hr2,hB⟩
  · exact .inr ⟨rfl,hr⟩
def PairR (W0:World)(d1 f1 l1 a1 r1 d2 f2 l2 a2 r2 many P:Nat)(fr pg rm1 rm2:Int)(k:Nat)(W:World):Prop:=∃G1 S1 c1 G2 S2 c2,StP fr pg G1 S1 (2*k)/\PgIn pg S1/\c1.Ok k/\StP fr pg G2 S2 (2*k)/\PgIn pg S2/\c2.Ok k/\PairOk P fr G1 S1 (rowsR c1.V) G2 S2 (rowsR c2.V)/\PairS W0 d1 f1 l1 a1 r1 d2 f2 l2 a2 r2 many P fr pg rm1 rm2 G1 S1 c1 G2 S2 c2 W
theorem CaSt.Ok.zero:(⟨0,0,0,fun _=>none⟩:CaSt).Ok 0:=⟨⟨Int.le_refl _,Int.le_refl _⟩,⟨Int.le_refl _,Int.le_refl _⟩,⟨Int.le_refl _,Int.le_refl _⟩⟩
theorem PairOk.same {P:Nat}{fr:Int}{G:Nat->List UInt8}{S:LgS}:PairOk P fr G S (rowsR (fun _=>none)) G S (rowsR (fun _=>none)):=⟨⟨rfl,fun _ _=>rfl⟩,(fun p b d e=>by cases e),(fun p b d e=>by cases e),fun _ _=>Iff.rfl⟩
section
variable {P:Nat}{fr pg rm1 rm2:Int}{G1 G2:Nat->List UInt8}{S1 S2:LgS}{c1 c2 c1' c2':CaSt}{i j:Nat}
theorem PairOk.read (h:PairOk P fr G1 S1 (rowsR c1.V) G2 S2 (rowsR c2.V))(hS1:StP fr pg G1 S1 i)(hS2:StP fr pg G2 S2 j)(hP:(P:Int)=pg){p:Int}{n1 n2:Nat}{x1 x2:Int ⊕ List UInt8}(h1:RdP P rm1 c1 p (fileR fr pg ⟨G1,[],0,false⟩ S1 p) n1 x1 c1')(h2:RdP P rm2 c2 p (fileR fr pg ⟨G2,[],0,false⟩ S2 p) n2 x2 c2') :
    PairOk P fr G1 S1 (rowsR c1'.V) G2 S2 (rowsR c2'.V)/\(∀er,x1 = .inl er->er≠0)/\(∀er,x2 = .inl er->er≠0)/\(∀y,x1 = .inr y->y.length=512)/\∀y1 y2,x1 = .inr y1->x2 = .inr y2->y1=y2:=by
  obtain⟨z1,hL1⟩:=hS1.li
  obtain⟨z2,hL2⟩:=hS2.li
  have hy1:∀q,(fileY G1 fr S1 q).length=512:=fun q=>fpY_len hL1.len hS1.y _ _
  have hy2:∀q,(fileY G2 fr S2 q).length=512:=fun q=>fpY_len hL2.len hS2.y _ _
  obtain⟨a1,b1,e1⟩:=h1.plain hy1 hP h.o1
  obtain⟨a2,b2,e2⟩:=h2.plain hy2 hP h.o2
  refine⟨⟨h.t,a1,a2,(b1.trans h.d).trans b2.symm⟩,fun er e => ?_,fun er e => ?_,fun y e => ?_,fun y1 y2 g1 g2 => ?_⟩
  · subst e;exact h1.err hL1.len hS1.y
  · subst e;exact h2.err hL2.len hS2.y
  · subst e;exact h1.len h.o1.full hL1.len hS1.y
  · obtain⟨p1,rfl⟩:=e1 y1 g1
    obtain⟨_,rfl⟩:=e2 y2 g2
    exact viewC_same h.t.2 h.d (by omega)
theorem PairOk.write (h:PairOk P fr G1 S1 (rowsR c1.V) G2 S2 (rowsR c2.V))(hP:(P:Int)=pg){p x1 x2:Int}{y:List UInt8}(hy:y.length=512){n1 n2:Nat}(h1:WrP P rm1 pg c1 p y n1 x1 c1')(h2:WrP P rm2 pg c2 p y n2 x2 c2')(he:x1=x2):PairOk P fr G1 S1 (rowsR c1'.V) G2 S2 (rowsR c2'.V):=by
  obtain⟨a1,b1⟩:=h1.plain hy hP h.o1
  obtain⟨a2,b2⟩:=h2.plain hy hP h.o2
  subst he
  refine⟨h.t,a1,a2,?_⟩
  rcases b1 with⟨g1,k1⟩|⟨g1,rfl⟩<;>rcases b2 with⟨g2,k2⟩|⟨g2,rfl⟩
  · refine(k1.trans fun q b => ?_).trans k2.symm
    unfold rowsPut
    split
    · exact Iff.rfl
    · exact h.d q b
  · exact absurd g1 g2
  · exact absurd g2 g1
  · exact h.d
theorem PairOk.commitSame {R1 R2 R1' R2':RowsC}{G1' G2':Nat->List UInt8}{S1' S2':LgS}(h:PairOk P fr G1 S1 R1 G2 S2 R2){z x1 x2:Int}(h1:CmT fr pg P z G1 S1 R1 x1 G1' S1' R1')(h2:CmT fr pg P z G2 S2 R2 x2 G2' S2' R2')(hx:x1=x2):PairOk P fr G1' S1' R1' G2' S2' R2':=by
  obtain⟨a1,b1,c1⟩:=h1
  obtain⟨a2,b2,c2⟩:=h2
  subst hx
  rcases b1 with⟨u1,u2,u3,u4⟩|⟨u1,u2,u3,u4⟩<;>rcases b2 with⟨v1,v2,v3,v4⟩|⟨v1,v2,v3,v4⟩
  · refine⟨⟨by rw[u2,v2],fun p hp=>by rw[u3 p hp,v3 p hp,viewC_same h.t.2 h.d hp]⟩,a1,a2,fun p b=>⟨fun e=>absurd e (u4 p b),fun e=>absurd e (v4 p b)⟩⟩
  · exact absurd u1 v1
  · exact absurd v1 u1
  · exact⟨⟨by rw[u2,v2,h.t.1],fun p hp=>by rw[u3 p hp,v3 p hp,h.t.2 p hp]⟩,a1,a2,(u4.trans h.d).trans v4.symm⟩
theorem PairOk.drop (h:PairOk P fr G1 S1 (rowsR c1.V) G2 S2 (rowsR c2.V)):PairOk P fr G1 S1 (rowsR (dropV c1.V)) G2 S2 (rowsR (dropV c2.V)):=by
  obtain⟨a1,b1⟩:=dropV_plain h.o1
  obtain⟨a2,b2⟩:=dropV_plain h.o2
  exact⟨h.t,a1,a2,fun p b=>⟨fun e=>absurd e (b1 p b),fun e=>absurd e (b2 p b)⟩⟩
end
end Go.Proofs.YtmllnpjldmdaeaaGreat
