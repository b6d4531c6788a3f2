/- Texts that the proof of PagerHolds leans on, part 14. -/
import Derived.Test.YtnlimngkagmjpaaGreatPagerHoldsB13
open List renaming map_cons → zK, map_nil → zL, cons_append → qA, nil_append → zV, mem_cons → qM, getElem_toArray → zD, getElem_cons_zero → zB, setIfInBounds_toArray → zA, set_cons_zero → zF, set_cons_succ → zE, getElem_cons_succ → zC, map_toArray → zJ, take_of_length_le → zW, getElem?_append_right → zZ, mem_append → qF, size_toArray → zX, length_cons → zR, length_nil → qK, push_toArray → qJ, append_toArray → qI, length_map → qB, getElem?_eq_some_iff → zT, getElem_mem → qH, getElem?_eq_getElem → zI, take_succ_eq_append_getElem → zU, replicate → zN, all_eq_true → qL
open Nat renaming le_refl → zG, zero_add → qG, le_trans → zO
open Array renaming getElem?_setIfInBounds → zM, replicate_succ → qD, replicate_zero → qE, getElem?_toList → qC
set_option linter.unusedVariables false
set_option maxRecDepth 100000
set_option maxHeartbeats 8000000

namespace Go.Proofs.YtnlimngkagmjpaaGreat
open Go Go.RowKit Lou
theorem pasks_new (W:World)(xs:List PAsk)(h1:∀v∈pasksC xs,v.oneCell'=true)(T:TypeId)(hn:xs.length<=1000):InG (W.alloc (.cells (pasksC xs).toArray T)) (W.alloc (.cells (pasksC xs).toArray T)).heap.size 2 (some ⟨W.heap.size,0,none⟩) xs.length xs.length (pasksC xs) :=
 ⟨zG _,by omega,(fun e=>by cases e),pasksC_length xs,h1,fun _=>⟨W.heap.size,0,rfl,by simp,fun j v hj=>by
  rw[qG,(BlkIs.new W T (pasksC xs).toArray).cell]
  simpa using hj⟩⟩
theorem Names.mono {K:PgK}{W W':World}{v v':PgV}(h:Names K W' v v')(hs:W.heap.size<=W'.heap.size):Names K W v v':=fun k hk=>(h k hk).elim .inl (fun e => .inr (by omega))
structure WrF (K:PgK)(v v':PgV)(n:Int)(y:List UInt8)(x:Int):Prop where
 nn:v'.N=v.N+1
 ii:v'.i=v.i
 yy:v'.Y K=v.Y K
 sz:v'.S.sz=v.S.sz
 dd:(x=0/\v'.D=fun j=>if j=n then some y else v.D j)∨(x=160/\NoRoom K.P K.room v.c.V/\v'.D=v.D)
section
variable {W0 W:World}{K:PgK}{p:Nat}{v:PgV}{st last:PgSt}{mk:Value}
theorem pwritep_gives (h:PaIs W0 K p v st last true mk W)(hK:K.Ok)(hN:v.N<=800000)(n:Int)(hn:1<=n/\n<st.size)(hP:n<(K.P:Int))(A:Option Addr)(c:Nat)(y:List UInt8)(hy:y.length=512)(hin:InB W W.heap.size A c y) :
  Calls Tryz.prog 27 #[.pointer (some ⟨p,0,none⟩),.int .i64 n,.slice A 512 c] W fun e w'=>∃x v',e = .returned (.int .i64 x)/\PaIs W0 K p v' st last true mk w'/\WrF K v v' n y x/\Names K W v v'/\GrowBut (K.mu v) W w':=by
 obtain⟨W1,hW1⟩:∃W1,W1=W.alloc (.cells #[.slice A 512 c] 22):=⟨_,rfl⟩
 have hB1:Below W.heap.size W W1:=by rw[hW1];exact(Below.refl _ _).alloc (zG _) _
 have b1:BlkIs W1 W.heap.size 22 #[.slice A 512 c]:=by rw[hW1];exact BlkIs.new W _ _
 have hd:decide (n<1∨st.size<=n)=false:=decide_eq_false (by omega)
 have HW1:=Lib.hid hW1.symm
 clear hW1
 go_enter Tryz.func27,Tryz.ntmps27
 go_wp2_with (go_at_call 53;rw[HW1.out];refine(pthere_gives W1 (some ⟨p,0,none⟩) n 1).mono ?_;rintro e w2 ⟨f,rfl,hf1,hB2,hA2⟩)
 have h2:=(h.grow hB1).grow hB2
 have b2:=b1.below hB2 b1.lt
 obtain⟨xs,hxs⟩:∃xs:List PAsk,xs=[⟨.func (.func 55) #[] #[.pointer (some ⟨W.heap.size,0,none⟩)],2,false⟩,⟨f,4,false⟩]:=⟨_,rfl⟩
 have hone:∀v∈pasksC xs,v.oneCell'=true:=fun v hv=>by
  rw[hxs] at hv
  simp only[pasksC,paskC,zK,zL,List.flatten_cons,List.flatten_nil,qA,zV,qM,List.not_mem_nil,or_false] at hv
  rcases hv with rfl|rfl|rfl|rfl
  ·rfl
  ·rfl
  ·exact hf1
  ·rfl
 obtain⟨W3,hW3⟩:∃W3,W3=w2.alloc (.cells #[.func (.func 55) #[] #[.pointer (some ⟨W.heap.size,0,none⟩)],.int .i64 2,f,.int .i64 4] 92):=⟨_,rfl⟩
 have hB3:Below w2.heap.size w2 W3:=by rw[hW3];exact(Below.refl _ _).alloc (zG _) _
 have hin3:InG W3 W3.heap.size 2 (some ⟨w2.heap.size,0,none⟩) xs.length xs.length (pasksC xs):=by
  have:=pasks_new w2 xs hone 92 (by rw[hxs];simp)
  rw[hW3]
  subst hxs
  exact this
 have h3:=h2.grow hB3
 have b3:=b2.below hB3 b2.lt
 have ha:∀x∈xs,PAskIs W3 x:=fun x hx=>by
  rw[hxs] at hx
  simp only[qM,List.not_mem_nil,or_false] at hx
  rcases hx with rfl|rfl
  ·refine PAskIs.one 2 ⟨enters_of Tryz.func55 (by kernel_rfl) rfl,fun W4 hW4 => ?_⟩
   refine(pwrite1_ask (bb:=W.heap.size) (len:=512) (c:=c) (A:=A) ((b3.below hW4 b3.lt).boxed)).mono ?_
   rintro e w' ⟨rfl,rfl⟩
   exact⟨rfl,Below.refl _ _⟩
  ·have:=hA2 p st.size rfl (h.grow hB1).szc
   rw[hd] at this
   exact PAskIs.later this hB3
 have HA:=h3.asked true (some ⟨w2.heap.size,0,none⟩) xs.length xs hin3 (by rw[hxs];simp) ha
 have hE:(if (true != true)=true then 191 else askE xs)=0:=by rw[hxs];rfl
 have hxl:xs.length=2:=by rw[hxs];rfl
 rw[hE,hxl] at HA
 rw[<-hW3]
 refine HA.mono ?_
 rintro e w4 ⟨rfl,hB4⟩
 have h4:=h3.grow hB4
 have b4:=b3.below hB4 b3.lt
 have hBB:Below W.heap.size W w4:=((hB1.trans (hB2.mono hB1.size)).trans (hB3.mono (by have:=hB1.size;have:=hB2.size;omega))).trans (hB4.mono (by have:=hB1.size;have:=hB2.size;have:=hB3.size;omega))
 have hS0:w4.drew.cell? ⟨p,19,none⟩=some (.pointer (some ⟨K.a,0,none⟩))/\w4.drew.cell? ⟨W.heap.size,0,none⟩=some (.slice A 512 c):=⟨h4.chc,b4.boxed⟩
 have b4l:=b4.lt
 have hin4:=((hin.below hBB).more hBB.size).drew
 have h4d:PaIs W0 K p v st last true mk w4.drew:=h4.grow (Below.refl _ _).drew
 clear ha hin3 HA hE hxl hA2 hone h2 h3 b2 b3 hB3 hW3 hxs h4 b1 b4
 go_wp2_with fail
 refine RegF.start (fun W':World=>W'.cell? ⟨p,19,none⟩=some (.pointer (some ⟨K.a,0,none⟩))/\W'.cell? ⟨W.heap.size,0,none⟩=some (.slice A 512 c)) 9 (by kernel_rfl) ?_
 refine RegF.t0 0 (.pointer (some ⟨p,0,none⟩)) rfl hS0 (fun W ⟨e0,e1⟩=>by go_simp) ?_
 simp only[zD,zB,Act.put,zA,zF,zE]
 refine RegF.t0 1 (.pointer (some ⟨p,0,none⟩)) rfl hS0 (fun W ⟨e0,e1⟩=>by go_simp) ?_
 simp only[zD,zC,zB,Act.put,zA,zF,zE]
 refine RegF.t0 2 (.pointer (some ⟨p,19,none⟩)) rfl hS0 (fun W ⟨e0,e1⟩=>by go_simp) ?_
 simp only[zD,zC,zB,Act.put,zA,zF,zE]
 refine RegF.t0 3 (.pointer (some ⟨K.a,0,none⟩)) rfl hS0 (fun W ⟨e0,e1⟩=>by go_simp) ?_
 simp only[zD,zC,zB,Act.put,zA,zF,zE]
 refine RegF.t0 4 (.int .i64 n) rfl hS0 (fun W ⟨e0,e1⟩=>by go_simp) ?_
 simp only[zD,zC,zB,Act.put,zA,zF,zE]
 refine RegF.t0 5 (.slice A 512 c) rfl hS0 (fun W ⟨e0,e1⟩=>by go_simp) ?_
 simp only[zD,zC,zB,Act.put,zA,zF,zE]
 refine RegF.one 6 (by kernel_rfl) ?_
 refine RegF.opC 34 #[.tmp 22,.tmp 23,.tmp 24] #[52,3,22] rfl rfl rfl (enters_of Tryz.func34 (by kernel_rfl) rfl) #[.pointer (some ⟨K.a,0,none⟩),.int .i64 n,.slice A 512 c] (by simp only[zJ,zK,zL];rfl) ((gwrite h4d.ca hK hN n A c y hy hin4).mono ?_)
 rintro e w5 ⟨x,v',rfl,hC5,e1,e2,e3,e4,hq,hn5,hG5⟩
 have h5:=h4d.turn hG5 hC5
 have hG:GrowBut (K.mu v) W w5:=(GrowBut.below (hBB.trans ((Below.refl _ _).drew.mono hBB.size))).trans hG5
 have hF:WrF K v v' n y x:=⟨e1,e2,e3,e4,hq.elim (fun h => .inl ⟨h.1,h.2.2⟩) (fun h => .inr (by
  rcases h.1 with h1|h1
  ·omega
  ·exact⟨h1.1,h1.2,h.2⟩))⟩
 have hN5:Names K W v v':=hn5.mono hBB.size
 have hS5:w5.cell? ⟨p,19,none⟩=some (.pointer (some ⟨K.a,0,none⟩))/\w5.cell? ⟨W.heap.size,0,none⟩=some (.slice A 512 c):=⟨h5.chc,hG5.cell hS0.2 (by show W.heap.size<w4.heap.size;exact b4l) (fun hm=>by have:=h.ca.lts _ hm;simp at this)⟩
 refine⟨_,rfl,fun _=>hS5,?_⟩
 simp only[zD,zC,zB,Act.put,zA,zF,zE]
 refine RegF.one 7 (by kernel_rfl) (RegF.opV (w':=w5) (.int .i64 x) rfl rfl (by go_simp) ⟨fun _=>hS5,RegF.done (by kernel_rfl) ?_⟩)
 simp only[zD,zC,zB,Act.put,zA,zF,zE]
 clear hS5 hS0 hin4 h4d hq hG5 hn5
 go_wp2
 go_ret
 exact⟨x,v',rfl,h5,hF,hN5,hG⟩
end
def linkB (f:Int):List UInt8:=padB (numsB [f])
theorem linkB_length (f:Int):(linkB f).length=512:=padB_length (by have:=numsB_length [f];simp at this;omega)
theorem linkB_next {f:Int}(h:0<=f/\f<4294967296):((rfix ((linkB f).take 4):Nat):Int)=f:=by
 have e:(linkB f).take 4=numB f:=by
  unfold linkB padB
  have h4:(numB f).length=4:=fixL_length _ _
  have e1:numsB [f]=numB f:=by simp[numsB]
  rw[e1,List.take_append_of_le_length (by omega),zW (by omega)]
 rw[e]
 exact rfix_numB h
theorem ints1_new (W:World)(a:Int):IntsL [a] (.slice (some ⟨W.heap.size,0,none⟩) 1 1) (W.alloc (.cells #[.int .i64 a] 3)):=⟨W.heap.size,rfl,fun j hj=>by
 rw[(BlkIs.new W 3 #[.int .i64 a]).cell]
 match j,hj with
 | 0,_=>rfl
 | j+1,hj=>exact absurd hj (by simp)⟩
section
variable {W0 W:World}{K:PgK}{p:Nat}{v v':PgV}{st last:PgSt}{under:Bool}{mk:Value}
theorem growMu {W':World}(h:GrowBut (K.mu v) W W'):GrowBut (pgMu K p v) W W':=h.more fun _ hk _ => .inr hk
theorem growP {W':World}(h:GrowBut (fun k=>k=p) W W'):GrowBut (pgMu K p v) W W':=h.more fun _ hk _ => .inl hk
theorem pfree_gives (h:PaIs W0 K p v st last true mk W)(hK:K.Ok)(hN:v.N<=800000)(n:Int)(hn:1<=n/\n<st.size)(hP:n<(K.P:Int))(hm:0<=st.many/\st.many<=1000) :
  Calls Tryz.prog 14 #[.pointer (some ⟨p,0,none⟩),.int .i64 n] W fun e w'=>∃x v',e = .returned (.int .i64 x)/\PaIs W0 K p v' (if x=0 then { st with first:=n,many:=st.many+1 } else st) last true mk w'/\WrF K v v' n (linkB st.first) x/\Names K W v v'/\GrowBut (pgMu K p v) W w':=by
 have HN:=pnone_gives h.chc
 have c1:=h.fic
 have hl4:(numsB [st.first]).length<=512:=by have:=numsB_length [st.first];simp at this;omega
 have hW:IntKind.i64.wrap (st.many+1)=st.many+1:=wrap_i64_fr _ (by omega) (by omega)
 go_enter Tryz.func14,Tryz.ntmps14
 go_wp2_with (first
  | (go_at_call 46;refine HN.mono ?_;rintro e w1 ⟨rfl,rfl⟩)
  | (go_at_call 47;refine(IntsL.gives (ints1_new W st.first) (by simp)).mono ?_;rintro e w2 ⟨v2,rfl,own2,hB2⟩;obtain⟨A2,c2,rfl,hin2⟩:=own2.inB)
  | (revert hin2;intro hin2;go_at_call 44;refine(ppage_gives (ls:=[numsB [st.first]]) (Lists.new (w:=w2) [((A2,c2),numsB [st.first])] (by intro x hx;simp only[qM,List.not_mem_nil,or_false] at hx;subst hx;exact hin2)) (by simp) (by simpa using hl4)).mono ?_;rintro e w3 ⟨v3,rfl,own3,hB3⟩;obtain⟨A3,c3,rfl,hin3⟩:=own3.inB))
 have hB01:Below W.heap.size W (W.alloc (.cells #[.int .i64 st.first] 3)):=(Below.refl _ W).alloc (zG _) _
 have hB02:Below W.heap.size W w2:=hB01.trans (hB2.mono hB01.size)
 have hB03:Below W.heap.size W w3:=hB02.trans (((Below.refl _ w2).alloc (zG _) (.cells #[.slice A2 (numsB [st.first]).length c2] 22)).trans (hB3.mono (by simp)) |>.mono hB02.size)
 have h3:=h.grow hB03
 have hlen:(padB (numsB [st.first])).length=512:=linkB_length st.first
 rw[hlen]
 refine(pwritep_gives h3 hK hN n hn hP A3 c3 (linkB st.first) (linkB_length _) (by simpa[linkB] using hin3)).mono ?_
 rintro e w4 ⟨x,v',rfl,h4,hF,hN4,hG4⟩
 have hN5:=hN4.mono hB03.size
 have hG:GrowBut (pgMu K p v) W w4:=(GrowBut.below hB03).trans (growMu hG4)
 clear hin3 hin2 own2 own3 hB2 hB3 hB01 hB02 hB03 h3 hlen HN c1 h hG4 hN4 hl4
 by_cases hx:x=0
 ·subst hx
  have c2':=h4.mac
  have c1':=h4.fic
  have f1:=h4.pb.free 1
  obtain⟨h5,hG5⟩:=h4.setFirst n
  have c2'':=h5.mac
  have f2:=h5.pb.free 2
  obtain⟨h6,hG6⟩:=h5.setMany (st.many+1)
  have H6:=Lib.hid h6
  have HG:=Lib.hid (hG.trans ((growP hG5).trans (growP hG6)))
  clear h4 h5 h6 hG5 hG6 hG
  go_wp2
  go_ret
  exact⟨0,v',rfl,(by rw[if_pos rfl];exact H6.out),hF,hN5,HG.out⟩
 ·clear hm hW hn
  go_wp2
  go_ret
  exact⟨x,v',rfl,(by rw[if_neg hx];exact h4),hF,hN5,hG⟩
theorem prollback_gives (h:PaIs W0 K p v st last true mk W):Calls Tryz.prog 18 #[.pointer (some ⟨p,0,none⟩)] W fun e w'=>∃v',e = .returned (.int .i64 0)/\PaIs W0 K p v' last last false (.slice none 0 0) w'/\v'.N=v.N/\v'.i=v.i/\v'.Y K=v.Y K/\v'.S.sz=v.S.sz/\(v'.D=fun _=>none)/\Names K W v v'/\GrowBut (pgMu K p v) W w':=by
 have HA:=h.asked0 true
 have hll:=psC_length h.hl
 go_enter Tryz.func18,Tryz.ntmps18
 go_wp2_with (first
  | (go_at_call 41;refine HA.mono ?_;rintro e w1 ⟨rfl,hB1⟩;have h1:=h.grow hB1;have c19:=h1.chc)
  | (revert h1;intro h1;go_at_call 50;refine(gdrop h1.ca).mono ?_;rintro e w2 ⟨v',rfl,hC2,e1,e2,e3,e4,e5,hN2,hG2⟩;have h2:=h1.turn hG2 hC2;have hR2:=h2.lastRange;have hT2:=blk_there (o:=0) (n:=(psC last).toArray.size) h2.pb (by rw[pgC_size' h2.hs h2.hl];simp[hll]))
  | (revert hR2;intro hR2;refine wp_exec rfl (x_loadM rowPgSt hR2 hll rfl rfl) ?_)
  | (revert hT2;intro hT2;refine wpList_store_mid rfl 51 _ _ rfl p 0 (psC last).toArray rfl rfl hT2 (by simpa[hll] using rowPgSt.size) (all_oneCell_toArray (psC_one last)) ?_;obtain⟨h3,hG3⟩:=h2.setState h2.hl)
  | (revert h3;intro h3;go_at_call 52;refine(pover_gives h3).mono ?_;rintro e w4 ⟨⟨x,rfl⟩,h4,hG4⟩))
 go_ret
 exact⟨v',rfl,h4,e1,e2,e3,e4,e5,hN2.mono hB1.size,(GrowBut.below hB1).trans ((growMu hG2).trans ((growP hG3).trans (growP hG4)))⟩
end
section
variable {w:World}{o:Oper}{ρ:Operand->Value}{x y:Operand}
theorem fold_size (l:List (Value×Nat)):∀a:Array Value,(l.foldl (fun cs x=>cs.setIfInBounds x.snd x.fst) a).size=a.size:=by
 induction l with
 | nil=>intro a;rfl
 | cons b l ih=>intro a;rw[List.foldl_cons,ih];simp
theorem fold0s (vs:List Value)(m:Value)(arr:Array Value)(hs:arr.size=vs.length+1):(vs.zipIdx.foldl (fun cs x=>cs.setIfInBounds x.snd x.fst) arr).setIfInBounds vs.length m=(vs++[m]).toArray:=by
 apply Array.ext_getElem?
 intro j
 have h:=fold_get 0 vs 0 arr
 simp only[qG] at h
 have hr:(vs++[m]).toArray[j]? = (vs++[m])[j]?:=by simp
 rw[hr,zM,fold_size]
 by_cases hj:vs.length=j
 ·subst hj
  rw[if_pos rfl,if_pos (by omega),zZ (zG _)]
  simp
 ·rw[if_neg hj,h j]
  by_cases h2:j<vs.length
  ·rw[if_pos (by omega),List.getElem?_append_left h2]
   rfl
  ·rw[if_neg (by omega),Array.getElem?_eq_none (by omega),List.getElem?_eq_none (by simp;omega)]
theorem x_buildMk (s:PgSt)(hs:s.roots.length=16)(M:Nat)(D:Int->Option (List UInt8))(ho:o.op = .build 90 #[(0,x),(1,y)])(h1:ρ x = .agg (psC s).toArray)(h2:ρ y = .map (some M)):(execOp ρ o).run Tryz.prog w = .ok (.value (.agg (mkC ⟨s,M,D⟩).toArray)) w:=by
 have hl:=psC_length hs
 have key:=fold0s (psC s) (.map (some M)) #[.int .i64 0,.int .i64 0,.int .i64 0,.int .i64 0,.int .i64 0,.int .i64 0,.int .i64 0,.int .i64 0,.int .i64 0,.int .i64 0,.int .i64 0,.int .i64 0,.int .i64 0,.int .i64 0,.int .i64 0,.int .i64 0,.int .i64 0,.int .i64 0,.int .i64 0,.map none] (by rw[hl];rfl)
 rw[hl] at key
 simp[execOp,ho,h1,h2,go_sem,mkC,Result.andThen,hl,key,fold_size]
theorem x_sliceMk (m:MkT)(hm:m.s.roots.length=16)(ho:o.op = .buildSlice 53 1 #[(0,x)])(h1:ρ x = .agg (mkC m).toArray):(execOp ρ o).run Tryz.prog w = .ok (.value (.slice (some ⟨w.heap.size,0,none⟩) 1 1)) (w.alloc (.cells (mkC m).toArray 90)):=by
 have h65:=mkC_length hm
 have key:=fun arr hs=>fold0 (mkC m) arr hs
 rw[h65] at key
 simp[execOp,ho,h1,go_sem,Result.andThen,h65,key]
end
section
variable {w:World}{ops:Array Oper}{i:Nat}{o:Oper}{a:Act}{Q:Exit->Act->World->Prop}{K:Act->World->Prop}
theorem opAppM (ho:ops[i]? = some o)(hgd:o.guard=none){S:TypeId}(s x:Operand)(hc:o.op = .call { callee:=.builtin .append,args:=#[s,x],argTypes:=#[S,S] })
  (v xv v':Value) (w':World) (hs:a.eval s=v) (hx:a.eval x=xv) (hr:(Builtin.append_ #[S,S] o.type #[v,xv]).run Tryz.prog w = .ok v' w') (h:K (a.put o.dst v') w'):wpOp Tryz.prog ops Q i K a w:=by
 refine RegF.opV v' ho hgd (w':=w') ?_ h
 unfold execOp
 simp only[hc,resolve,invoke,builtin,Sem.run_bind,Sem.run_pure,Result.andThen_ok,zJ,zK,zL,hs,hx,hr]
end
section
variable {W0 W W':World}{K:PgK}{p:Nat}{v v':PgV}{st last:PgSt}{under:Bool}{mk:Value}{ms:List MkT}
theorem CaAt.dkeys (h:CaAt W0 K v W):∀k y,v.D k=some y->0<=k/\k<(K.P:Int):=fun k y hy=>by
 have h1:=dirF_some.1 hy
 have:=(h.ro k y true h1).1
 exact this
theorem CaAt.mkOk (h:CaAt W0 K v W):MkOk K v.D:=⟨h.dkeys,by
 have h1:cntD K.P v.D<=cntR K.P v.c.V:=nodup_len (List.nodup_range.filter _) (fun k hk=>by
  rw[List.mem_filter,List.mem_range] at hk
  rw[keysV_row]
  refine⟨hk.1,?_⟩
  obtain⟨y,hy⟩:=Option.isSome_iff_exists.1 hk.2
  have h2:=dirF_some.1 hy
  cases e:v.c.V (k:Int) with
  | none=>rw[show v.R (k:Int)=none from rowsR_none e] at h2;cases h2
  | some x=>rfl)
 have:=h.cn
 omega⟩
theorem pmark_gives (h:PaIs W0 K p v st last true mk W)(hK:K.Ok)(hM:MksIs W0 K v ms mk W)(hn:ms.length<=900) :
  Calls Tryz.prog 15 #[.pointer (some ⟨p,0,none⟩)] W fun e w'=>∃M mk',e = .returned (.tuple #[.int .i64 (ms.length:Int),.int .i64 0])/\PaIs W0 K p v st last true mk' w'/\MksIs W0 K v (ms++[⟨st,M,v.D⟩]) mk' w'/\GrowBut (fun k=>k=p∨mkMu mk k) W w':=by
 have HA:=h.asked0 true
 have hsl:=psC_length h.hs
 have hW0:=h.ca.cs.fh.up.size
 have hlts:=h.ca.lts
 have hdk:=h.ca.mkOk
 go_enter Tryz.func15,Tryz.ntmps15
 go_wp2_with (go_at_call 41;refine HA.mono ?_;rintro e w1 ⟨rfl,hB1⟩)
 obtain⟨w1d,hw1d⟩:∃x,x=w1.drew:=⟨_,rfl⟩
 have hB1d:Below W.heap.size W w1d:=by rw[hw1d];exact hB1.trans ((Below.refl _ _).drew.mono hB1.size)
 have h1:=h.grow hB1d
 have hM1:=hM.grow hB1d
 have hS0:w1d.rangeAt p 0 (psC st)/\w1d.cell? ⟨p,40,none⟩=some mk:=⟨h1.stRange,h1.mks⟩
 have HD:=callsIn_wide.1 (pdirty_in 10 (zG _) h1 hK)
 refine RegF.start (fun W':World=>W'.rangeAt p 0 (psC st)/\W'.cell? ⟨p,40,none⟩=some mk) 16 (by kernel_rfl) ?_
 rw[<-hw1d]
 refine RegF.t 0 (.pointer (some ⟨p,0,none⟩)) rfl hS0 (fun W ⟨e0,e1⟩=>by go_simp) ?_
 simp only[zD,zB,Act.put,zA,zF,zE]
 refine RegF.t 1 (.pointer (some ⟨p,0,none⟩)) rfl hS0 (fun W ⟨e0,e1⟩=>by go_simp) ?_
 simp only[zD,zC,zB,Act.put,zA,zF,zE]
 refine RegF.t 2 (.pointer (some ⟨p,0,none⟩)) rfl hS0 (fun W ⟨e0,e1⟩=>by go_simp) ?_
 simp only[zD,zC,zB,Act.put,zA,zF,zE]
 refine RegF.t 3 (.pointer (some ⟨p,40,none⟩)) rfl hS0 (fun W ⟨e0,e1⟩=>by go_simp) ?_
 simp only[zD,zC,zB,Act.put,zA,zF,zE]
 refine RegF.t 4 (mk) rfl hS0 (fun W ⟨e0,e1⟩=>by go_simp) ?_
 simp only[zD,zC,zB,Act.put,zA,zF,zE]
 refine RegF.t 5 (.pointer (some ⟨p,0,none⟩)) rfl hS0 (fun W ⟨e0,e1⟩=>by go_simp) ?_
 simp only[zD,zC,zB,Act.put,zA,zF,zE]
 refine RegF.t 6 (.pointer (some ⟨p,0,none⟩)) rfl hS0 (fun W ⟨e0,e1⟩=>by go_simp) ?_
 simp only[zD,zC,zB,Act.put,zA,zF,zE]
 refine RegF.t 7 (.pointer (some ⟨p,0,none⟩)) rfl hS0 (fun W ⟨e0,e1⟩=>by go_simp) ?_
 simp only[zD,zC,zB,Act.put,zA,zF,zE]
 refine RegF.t 8 (.agg (psC st).toArray) rfl hS0 (fun W ⟨e0,e1⟩=>by exact x_loadM rowPgSt e0 hsl rfl rfl) ?_
 simp only[zD,zC,zB,Act.put,zA,zF,zE]
 refine RegF.t 9 (.pointer (some ⟨p,0,none⟩)) rfl hS0 (fun W ⟨e0,e1⟩=>by go_simp) ?_
 simp only[zD,zC,zB,Act.put,zA,zF,zE]
 refine RegF.one 10 (by kernel_rfl) ?_
 refine RegF.opC 48 #[.tmp 19] #[34] rfl rfl rfl (enters_of Tryz.func48 (by kernel_rfl) rfl) #[.pointer (some ⟨p,0,none⟩)] (by simp only[zJ,zK,zL];rfl) (HD.mono ?_)
 rintro e w2 ⟨M,rfl,hPM,hMn,hB2⟩
 have h2:=h1.grow hB2
 have hM2:=hM1.grow hB2
 have hS2:w2.rangeAt p 0 (psC st)/\w2.cell? ⟨p,40,none⟩=some mk:=⟨h2.stRange,h2.mks⟩
 refine⟨_,rfl,fun _=>hS2,?_⟩
 simp only[zD,zC,zB,Act.put,zA,zF,zE]
 refine RegF.one 11 (by kernel_rfl) (RegF.opV (w':=w2) _ rfl rfl (x_buildMk st h.hs M v.D rfl rfl rfl) ⟨fun _=>hS2,?_⟩)
 simp only[zD,zC,zB,Act.put,zA,zF,zE]
 obtain⟨w3,hw3⟩:∃x,x=w2.alloc (.cells (mkC ⟨st,M,v.D⟩).toArray 90):=⟨_,rfl⟩
 have hB3:Below w2.heap.size w2 w3:=by rw[hw3];exact(Below.refl _ _).alloc (zG _) _
 have h3:=h2.grow hB3
 have hM3:=hM2.grow hB3
 have hPM3:=hPM.grow hB3
 have hb3:BlkIs w3 w2.heap.size 90 (mkC ⟨st,M,v.D⟩).toArray:=by rw[hw3];exact BlkIs.new _ _ _
 have hS3:w3.rangeAt p 0 (psC st)/\w3.cell? ⟨p,40,none⟩=some mk:=⟨h3.stRange,h3.mks⟩
 refine RegF.one 12 (by kernel_rfl) (RegF.opV (w':=w3) _ rfl rfl (by rw[hw3];exact x_sliceMk ⟨st,M,v.D⟩ h.hs rfl rfl) ⟨fun _=>hS3,?_⟩)
 simp only[zD,zC,zB,Act.put,zA,zF,zE]
 have hB13:Below W.heap.size W w3:=hB1d.trans ((hB2.trans (hB3.mono hB2.size)).mono hB1d.size)
 obtain⟨mk',w4,hrun,hR4,hG4,hn4⟩:=hM3.row.append 53 (by omega) (by have:=hB13.size;omega) ⟨st,M,v.D⟩ h.hs w2.heap.size hb3
 have hMk:∀k,mkMu mk k->MkBlk w3 k:=fun k hk=>(hM3.row.blk k hk).1
 have h4:=h3.keepM hG4 hMk (fun k hk=>(hM3.row.blk k hk).2)
 have hM4:MksIs W0 K v (ms++[⟨st,M,v.D⟩]) mk' w4:=⟨hR4,fun x hx=>by
  rcases qF.1 hx with hx|hx
  ·exact⟨(hM3.maps x hx).1.keepM hG4 hMk,(hM3.maps x hx).2⟩
  ·rw[List.mem_singleton] at hx
   subst hx
   exact⟨hPM3.keepM hG4 hMk,fun e=>by have h7:M<W.heap.size:=hlts _ e;have:=hB1d.size;omega,hdk⟩⟩
 have hS4:w4.rangeAt p 0 (psC st)/\w4.cell? ⟨p,40,none⟩=some mk:=⟨h4.stRange,h4.mks⟩
 obtain⟨A4,c4,rfl,_⟩:=hR4.has
 have el4:(ms++[(⟨st,M,v.D⟩:MkT)]).length=ms.length+1:=by simp
 rw[el4] at hrun hn4 hM4
 refine RegF.one 13 (by kernel_rfl) (opAppM rfl rfl (.tmp 14) (.tmp 22) rfl mk _ _ w4 rfl rfl hrun ⟨fun _=>hS4,?_⟩)
 simp only[zD,zC,zB,Act.put,zA,zF,zE]
 have c40:=h4.mks
 have f4:=h4.pb.free 40
 obtain⟨h5,hG5⟩:=h4.setMarks (mk':=.slice A4 (ms.length+1) c4)
 have hM5:=hM4.own h4 hG5
 refine RegF.one 14 (by kernel_rfl) (RegF.opV (w':=w4) (.pointer (some ⟨p,0,none⟩)) rfl rfl (by obtain⟨e0,e1⟩:=hS4;go_simp) ⟨fun _=>hS4,?_⟩)
 simp only[zD,zC,zB,Act.put,zA,zF,zE]
 refine RegF.one 15 (by kernel_rfl) (RegF.opV (w':=w4) (.pointer (some ⟨p,40,none⟩)) rfl rfl (by obtain⟨e0,e1⟩:=hS4;go_simp) ⟨fun _=>hS4,?_⟩)
 simp only[zD,zC,zB,Act.put,zA,zF,zE]
 refine RegF.one 16 (by kernel_rfl) (RegF.opS (w':=w4.setCell ⟨p,40,none⟩ (.slice A4 (ms.length+1) c4)) rfl rfl (by go_simp) ⟨fun h=>absurd rfl h,RegF.done (by kernel_rfl) ?_⟩)
 simp only[zD,zC,zB,Act.put]
 have c5:=h5.mks
 have hW:IntKind.i64.wrap (((ms.length+1:Nat):Int) - 1)=(ms.length:Int):=by rw[show ((ms.length+1:Nat):Int) - 1=(ms.length:Int) by omega];exact wrap_i64_fr _ (by omega) (by omega)
 have hGA:GrowBut (fun k=>k=p∨mkMu mk k) W (w4.setCell ⟨p,40,none⟩ (.slice A4 (ms.length+1) c4)):=(GrowBut.below hB13).trans ((hG4.more fun k hk _ => .inr hk).trans (hG5.more fun k hk _ => .inl hk))
 have H5:=Lib.hid h5
 have HM:=Lib.hid hM5
 have HG:=Lib.hid hGA
 clear h h1 h2 h3 h4 hM hM1 hM2 hM3 hM4 hR4 hG4 hn4 hrun hMk hS0 hS2 hS3 hS4 hPM hPM3 hb3 hB1d hB2 hB3 hB13 HD HA hdk hlts hGA hM5 h5 hG5 f4 c40 el4
 go_wp2
 go_ret2
 exact⟨M,_,rfl,H5.out,HM.out,HG.out⟩
end
end Go.Proofs.YtnlimngkagmjpaaGreat
namespace Go.Proofs.YtnlimngkagmjpaaGreat
open Go Go.RowKit Lou Go.Shelf Go.Sort
theorem psortedV_gives (w:World)(r many clock:Nat)(es:Array MapEntry)(f:Int->Option Value)(hmi:MapIs w r es clock)(he:EnV es f)(hst:MapKept.Stamped es clock)(hlt:KeysB f many)(hm:many<=40000) :
  Calls Tryz.prog 51 #[.map (some r)] w fun e w'=>∃v,e = .returned v/\w'.ownsRow w.heap.size 3 1 v (keysV f many).length ((keysV f many).map fun k:Nat=>Value.int .i64 (k:Int))/\Below w.heap.size w w':=by
 obtain⟨D0,hown,hsz,hperm⟩:=own_mapV hmi he hst hlt hm
 have hmax:Maps.size D0<=maxLen:=zO hsz (zO hm (by decide))
 have hbytes:Maps.size D0*8<=140737488355328:=by omega
 refine(callsIn_wide (n:=6)).1 ?_
 have hbl:=hown.lt
 have hseq:SeqGives Fence.wide 2 Tryz.prog 132 #[.pointer (some ⟨w.heap.size,0,none⟩)] encZ (fun ss=>ss.Perm (intKeys D0)) (Maps.size D0) (w.alloc (.cells #[.map (some r)] 87)) :=
  AnyZI.keys_gives (ρ:=layK_ren) { layK with } Fence.wide _ trivial rfl (by omega) w.heap.size r many D0 _ (by simp) (by simp) (by
   obtain⟨es,clock,hb,Ft,hs,hD⟩:=hown
   exact⟨es,clock,(Below.heap_alloc _ _ r hbl).trans hb,Ft,hs,hD⟩)
 have cK:∀mb W,CallsIn Fence.wide 5 Tryz.prog 86 #[.map mb] W fun e w'=>e = .returned (.func (.func 132) #[] #[.pointer (some ⟨W.heap.size,0,none⟩)])/\w'=W.alloc (.cells #[.map mb] 87):=fun mb W=>AnyZI.keys_in layK Fence.wide 5 trivial rfl mb W
 have cS:=AnyZI.sorted_in layS Fence.wide 5 trivial trivial trivial trivial rfl (by omega) (sortsInts _) (enters_of Tryz.func131 (by kernel_rfl) rfl) 132 #[.pointer (some ⟨w.heap.size,0,none⟩)] trivial (enters_of Tryz.func132 (by kernel_rfl) rfl) _ _ hmax hbytes _ hseq
 change CallsIn _ _ Tryz.prog 85 _ _ _ at cS
 have hfK:Fence.wide.fn 86:=trivial
 have hfS:Fence.wide.fn 85:=trivial
 refine callsIn_of_wp Tryz.func51 rfl trivial ?_ rfl
 simp only[Tryz.ntmps51,zX,zR,qK,Nat.reduceAdd,Nat.reduceSub,qD,qE,qJ,qI,zV,qA]
 gi_wp2_with (first
  | (gi_at_call 86;refine(cK _ _).mono ?_;rintro e w' ⟨rfl,rfl⟩)
  | (gi_at_call 85;refine cS.mono ?_;rintro e w' ⟨v,ss,rfl,hS,hrow,hnil,hb⟩))
 go_ret
 have hss:=hS.trans hperm
 have e1:ss.mergeSort (fun x y=>decide (x<=y))=(keysV f many).map fun k:Nat=>(k:Int):=(mergeSort_of_perm_i hss).trans (keysV_sort f many)
 have e2:ss.length=(keysV f many).length:=by rw[hss.length_eq,qB]
 rw[e1,e2,List.map_map] at hrow
 exact⟨v,rfl,ownsRow_base_a hrow (by simp),((Below.refl _ w).alloc (zG _) _).trans (hb.mono (by simp))⟩
end Go.Proofs.YtnlimngkagmjpaaGreat
namespace Go.Proofs.YtnlimngkagmjpaaGreat
open Go Go.RowKit Lou
theorem rowMk:RowTy Tryz.prog 90 20:=⟨⟨_,Tryz.underlying90,rfl⟩,by kernel_rfl⟩
section
variable {ρ:Operand->Value}{w:World}{o:Oper}{x z m:Operand}
theorem x_cutM {g n c k:Nat}(ho:o.op = .slice 53 x none (some z) (some m))(h1:ρ x = .slice (some ⟨g,0,none⟩) n c)(h3:ρ z = .int .i64 (k:Int))(h4:ρ m = .int .i64 (k:Int))(hn:k<=c) :
  (execOp ρ o).run Tryz.prog w = .ok (.value (.slice (some ⟨g,0,none⟩) k k)) w:=by
 have ht:Tryz.prog.underlying 53=some (.slice (Tryz.prog.elem 53)):=by kernel_rfl
 have hbi:(k:Int)<=(c:Int):=by omega
 simp[execOp,ho,h1,h3,h4,go_sem,run_sliceAt_slice _ _ _ _ _ _ ht,Result.andThen,hbi]
end
section
variable {W0 W W':World}{K:PgK}{p:Nat}{v v':PgV}{st last:PgSt}{under:Bool}{mk:Value}{ms:List MkT}
theorem CaAt.notTyK (h:CaAt W0 K v W){k:Nat}{T:TypeId}{cs:Array Value}(hb:BlkIs W k T cs)(h1:T≠70)(h2:T≠104)(h3:T≠118)(h4:T≠126):¬ K.mu v k:=fun hm=>by
 obtain⟨_,_,_,_,hd⟩:=DkIs.bk h.cs.fh.dk
 obtain⟨_,_,_,hl⟩:=h.cs.fh.lg.lg
 rcases hm with e|e|e
 ·exact BlkIs.ne_type hb hd h1 e
 ·exact BlkIs.ne_type hb hl h2 e
 ·exact CaIs.notTy h.cs.ca hb h3 h4 e
theorem RowM.elem {B:Nat}(h:RowM B W mk ms)(n:Nat)(hn:n<ms.length):∃g c,mk = .slice (some ⟨g,0,none⟩) ms.length c/\ms.length<=c/\g<W.heap.size/\W.rangeAt g (n*20) (mkC ms[n]):=by
 obtain⟨A,c,e,h1,_,h3,hA⟩:=h.has
 cases A with
 | none=>have:=h3 rfl;omega
 | some a =>
  obtain⟨g,cur,rfl,_,hb,_,_,h5⟩:=hA a rfl
  refine⟨g,c,e,h1,hb.lt,fun j x hj => ?_⟩
  have he:=mksC_elem h.rts n hn
  have hj2:=(zT.1 hj).1
  rw[mkC_length (h.rts _ (qH hn))] at hj2
  rw[hb.cell,List.getElem?_toArray]
  rw[<-he,List.getElem?_take_of_lt hj2,List.getElem?_drop,<-h5] at hj
  have hj3:=(zT.1 hj).1
  rw[List.getElem?_take_of_lt (by simp at hj3;omega)] at hj
  exact hj
def KsAt (A:Option Addr)(ks:List Nat)(W:World):Prop:=∀(j:Nat) (hj:j<ks.length),∃(gb:Nat) (cur:Array Value),A=some ⟨gb,0,none⟩/\BlkIs W gb 3 cur/\cur[j]? = some (.int .i64 ((ks[j]:Nat):Int))
theorem KsAt.of {base:Nat}{v:Value}{ks:List Nat}(h:W.ownsRow base 3 1 v ks.length (ks.map fun k:Nat=>Value.int .i64 (k:Int))):∃A c,v = .slice A ks.length c/\ks.length<=c/\KsAt A ks W:=by
 rcases h.2 with⟨rfl,hz⟩|⟨gb,cap,cur,rfl,hbase,hgb,r1,r2,r3,r4⟩
 ·exact⟨none,0,by rw[hz],by omega,fun j hj=>by omega⟩
 ·refine⟨_,cap,rfl,r1,fun j hj=>⟨gb,cur,rfl,hgb,?_⟩⟩
  rw[Nat.mul_one] at r4
  have h1:(cur.toList.take ks.length)[j]? = (ks.map fun k:Nat=>Value.int .i64 (k:Int))[j]?:=by rw[r4]
  rw[List.getElem?_take_of_lt hj,List.getElem?_map,zI hj,qC] at h1
  simpa using h1
theorem KsAt.keep {Mu:Nat->Prop}{A:Option Addr}{ks:List Nat}(h:KsAt A ks W)(hG:GrowBut Mu W W')(hn:∀k cs,BlkIs W k 3 cs->¬ Mu k):KsAt A ks W':=fun j hj=>by
 obtain⟨gb,cur,e,hb,hc⟩:=h j hj
 exact⟨gb,cur,e,hG.blk hb (hn _ _ hb),hc⟩
theorem KsAt.cell {A:Option Addr}{ks:List Nat}(h:KsAt A ks W)(j:Nat)(hj:j<ks.length):∃gb,A=some ⟨gb,0,none⟩/\W.cell? ⟨gb,j,none⟩=some (.int .i64 ((ks[j]:Nat):Int)):=by
 obtain⟨gb,cur,e,hb,hc⟩:=h j hj
 exact⟨gb,e,by rw[hb.cell];exact hc⟩
def backD (D:Int->Option (List UInt8))(ks:List Nat)(i:Nat):Int->Option (List UInt8):=fun j=>if (∃k∈ks.take i,(k:Int)=j) then D j else none
theorem backD_zero (D:Int->Option (List UInt8))(ks:List Nat):backD D ks 0=fun _=>none:=by
 funext j
 unfold backD
 rw[if_neg (by simp)]
theorem backD_succ {D:Int->Option (List UInt8)}{ks:List Nat}{i:Nat}(hi:i<ks.length){y:List UInt8}(hy:D ((ks[i]:Nat):Int)=some y):backD D ks (i+1)=fun j=>if j=((ks[i]:Nat):Int) then some y else backD D ks i j:=by
 funext j
 unfold backD
 rw[zU hi]
 by_cases e:j=((ks[i]:Nat):Int)
 ·rw[if_pos e,if_pos ⟨ks[i],List.mem_append_right _ (List.mem_singleton.2 rfl),e.symm⟩,e,hy]
 ·rw[if_neg e]
  by_cases h:∃k∈ks.take i,(k:Int)=j
  ·obtain⟨k,h1,h2⟩:=h
   rw[if_pos ⟨k,List.mem_append_left _ h1,h2⟩,if_pos ⟨k,h1,h2⟩]
  ·rw[if_neg (fun ⟨k,h1,h2⟩=>by
    rcases qF.1 h1 with h1|h1
    ·exact h ⟨k,h1,h2⟩
    ·rw[List.mem_singleton] at h1
     subst h1
     exact e h2.symm),if_neg h]
theorem backD_all {D:Int->Option (List UInt8)}{f:Int->Option Value}{P:Nat}(hP:PgIs W f D)(hk:∀k y,D k=some y->0<=k/\k<(P:Int)):backD D (keysV f P) (keysV f P).length=D:=by
 funext j
 unfold backD
 rw[List.take_length]
 split
 ·rfl
 ·rename_i h
  cases e:D j with
  | none=>rfl
  | some y =>
   have h1:=hk j y e
   have h2:((j.toNat:Nat):Int)=j:=by omega
   refine absurd ⟨j.toNat,keysV_mem.2 ⟨by omega,?_⟩,h2⟩ h
   rw[h2]
   rcases hP j with⟨_,h3⟩|⟨A,c,y',h3,_⟩
   ·rw[h3] at e;cases e
   ·rw[h3];rfl
theorem cntD_keys {D:Int->Option (List UInt8)}{f:Int->Option Value}{P:Nat}(hP:PgIs W f D):(keysV f P).length=cntD P D:=by
 unfold keysV cntD
 congr 1
 refine List.filter_congr fun k _ => ?_
 rcases hP (k:Int) with⟨h1,h2⟩|⟨A,c,y,h1,h2,_⟩<;>rw[h1,h2]<;>rfl
theorem keys_some {D:Int->Option (List UInt8)}{f:Int->Option Value}{P:Nat}(hP:PgIs W f D):∀k∈keysV f P,(D (k:Int)).isSome=true:=fun k hk=>by
 rw[keysV_mem] at hk
 rcases hP (k:Int) with⟨q1,_⟩|⟨_,_,_,_,q2,_⟩
 ·rw[q1] at hk
  cases hk.2
 ·rw[q2]
  rfl
theorem backD_room (h:CaAt W0 K v W){D:Int->Option (List UInt8)}{ks:List Nat}{i:Nat}(hi:i<ks.length)(hD:v.D=backD D ks i)(hl:(ks.length:Int)<=K.room)(hN:NoRoom K.P K.room v.c.V):False:=by
 have:=NoRoom.dirty hN (l:=ks.take i) (fun p b hp=>by
  have h1:v.D p=some b:=dirF_some.2 hp
  rw[hD] at h1
  unfold backD at h1
  split at h1
  ·rename_i h2
   obtain⟨k,h3,h4⟩:=h2
   have:p.toNat=k:=by omega
   rw[this]
   exact h3
  ·cases h1) (fun k x hx=>(h.cs.ca.rows k x hx).key.1)
 rw[List.length_take] at this
 omega
end
theorem x_storeMid {P:Program}{ρ:Operand->Value}{w:World}{o:Oper}{x y:Operand}(ty:TypeId)(ho:o.op = .store ty x y)(b off:Nat)(cells:Array Value)(hx:ρ x = .pointer (some ⟨b,off,none⟩))(hy:ρ y = .agg cells)
  (ht:w.there b off cells.size) (hi:(P.info? ty).map (·.size)=some cells.size) (h1:cells.all (·.oneCell')=true):(execOp ρ o).run P w = .ok .skip (w.setCells b off cells.toList):=by
 unfold execOp
 simp only[ho,hx,hy,Instr.storeAt,Instr.sureAddr,Sem.run_bind,Sem.run_pure,Result.andThen_ok,run_storeVar_mid w b off ty cells ht hi h1]
theorem mkC_map {x:MkT}(h:x.s.roots.length=16):(mkC x).toArray[19]? = some (.map (some x.m)):=by
 rw[List.getElem?_toArray]
 unfold mkC
 rw[zZ (by rw[psC_length h];exact zG _),psC_length h]
 rfl
theorem mkC_take {x:MkT}(h:x.s.roots.length=16):(mkC x).toArray.toList.take 19=psC x.s:=by
 show (psC x.s++[Value.map (some x.m)]).take 19=psC x.s
 rw[List.take_append_of_le_length (by rw[psC_length h];exact zG _),zW (by rw[psC_length h];exact zG _)]
structure BkF (K:PgK)(v v':PgV)(D:Int->Option (List UInt8)):Prop where
 nn:v'.N<=v.N+K.P
 ii:v'.i=v.i
 yy:v'.Y K=v.Y K
 sz:v'.S.sz=v.S.sz
 dd:v'.D=D
def BkOut (W0:World)(K:PgK)(p:Nat)(v:PgV)(last:PgSt)(ms:List MkT)(n:Nat)(m:MkT)(W:World)(e:Ending)(w':World):Prop:=∃v' mk',e = .returned (.int .i64 0)/\PaIs W0 K p v' m.s last true mk' w'/\MksIs W0 K v' (ms.take n) mk' w'/\BkF K v v' m.D/\Names K W v v'/\GrowBut (pgMu K p v) W w'
theorem BkOut.mk {W0:World}{K:PgK}{p:Nat}{v:PgV}{last:PgSt}{ms:List MkT}{n:Nat}{m:MkT}{W:World}{e:Ending}{w':World}(h:∃v' mk',e = .returned (.int .i64 0)/\PaIs W0 K p v' m.s last true mk' w'/\MksIs W0 K v' (ms.take n) mk' w'/\BkF K v v' m.D/\Names K W v v'/\GrowBut (pgMu K p v) W w'):BkOut W0 K p v last ms n m W e w':=h
structure BkR (W0 W:World)(K:PgK)(p:Nat)(v:PgV)(st last:PgSt)(ms:List MkT)(mk:Value)(D:Int->Option (List UInt8))(A:Option Addr)(ks:List Nat)(b:Nat)(cs:Array Value)(i:Nat)(v':PgV)(wr:World):Prop where
 pa:PaIs W0 K p v' st last true mk wr
 mks:MksIs W0 K v' ms mk wr
 ksa:KsAt A ks wr
 bx:BlkIs wr b 90 cs
 nn:v'.N=v.N+i
 ii:v'.i=v.i
 yy:v'.Y K=v.Y K
 sz:v'.S.sz=v.S.sz
 dd:v'.D=backD D ks i
 nm:Names K W v v'
 gr:GrowBut (pgMu K p v) W wr
section
variable {W0 W W':World}{K:PgK}{p:Nat}{v v' v9:PgV}{st last:PgSt}{mk:Value}{ms:List MkT}{D:Int->Option (List UInt8)}{A:Option Addr}{ks:List Nat}{b i:Nat}{cs:Array Value}{wr w9:World}
theorem BkR.step (h:BkR W0 W K p v st last ms mk D A ks b cs i v' wr)(hi:i<ks.length){y:List UInt8}(hy:D ((ks[i]:Nat):Int)=some y)(hC:CaAt W0 K v9 w9)(h1:v9.N=v'.N+1)(h2:v9.i=v'.i)(h3:v9.Y K=v'.Y K)(h4:v9.S.sz=v'.S.sz)(h5:v9.D=fun j=>if j=((ks[i]:Nat):Int) then some y else v'.D j)(hn:Names K wr v' v9)(hG:GrowBut (K.mu v') wr w9):BkR W0 W K p v st last ms mk D A ks b cs (i+1) v9 w9 :=
 ⟨h.pa.turn hG hC,h.mks.turn h.pa.ca hG hn,h.ksa.keep hG (fun k cs hb=>h.pa.ca.notTyK hb (by decide) (by decide) (by decide) (by decide)),hG.blk h.bx (h.pa.ca.notTyK h.bx (by decide) (by decide) (by decide) (by decide)),by rw[h1,h.nn];omega,h2.trans h.ii,h3.trans h.yy,h4.trans h.sz,by rw[h5,h.dd,backD_succ hi hy],
  fun k hk=>((hn.mono h.gr.size) k hk).elim (fun hm=>h.nm k hm) .inr,
  ((h.gr.more (Nu:=fun k=>pgMu K p v k∨K.mu v' k) (fun _ hk _ => .inl hk)).trans (hG.more fun _ hk _ => .inr hk)).more (fun k hk hl=>hk.elim id (fun hm=>(h.nm k hm).elim .inr (fun he=>by omega)))⟩
theorem BkR.more (h:BkR W0 W K p v st last ms mk D A ks b cs i v' wr)(hB:Below wr.heap.size wr w9):BkR W0 W K p v st last ms mk D A ks b cs i v' w9 :=
 ⟨h.pa.grow hB,h.mks.grow hB,h.ksa.keep (Mu:=fun _=>False) (GrowBut.below hB) (fun _ _ _ e=>e),h.bx.below hB h.bx.lt,h.nn,h.ii,h.yy,h.sz,h.dd,h.nm,h.gr.trans (GrowBut.below hB)⟩
theorem pback_gives (h:PaIs W0 K p v st last true mk W)(hK:K.Ok)(hN:v.N<=700000)(hM:MksIs W0 K v ms mk W)(n:Nat)(m:MkT)(hn:ms[n]? = some m)(hml:ms.length<=900) :
  Calls Tryz.prog 16 #[.pointer (some ⟨p,0,none⟩),.int .i64 (n:Int)] W (BkOut W0 K p v last ms n m W):=by
 have hnl:n<ms.length:=(zT.1 hn).1
 have hmn:ms[n]=m:=(zT.1 hn).2
 have hmem:m∈ms:=by rw[<-hmn];exact qH hnl
 obtain⟨g,c,rfl,hlc,hgl,hRm⟩:=hM.row.elem n hnl
 rw[hmn] at hRm
 have hsm:=hM.row.rts m hmem
 have hP2:=hK.P2
 have hdec:decide ((n:Int)<0∨(ms.length:Int)<=(n:Int))=false:=decide_eq_false (by omega)
 have hlts:=h.ca.lts
 go_enter Tryz.func16,Tryz.ntmps16
 go_wp2_with (go_at_call 49;refine(pmarked_gives W (some ⟨p,0,none⟩) (n:Int)).mono ?_;rintro e w2 ⟨f,rfl,hf1,hB2,hA2⟩)
 have h2:=h.grow hB2
 obtain⟨xs,hxs⟩:∃xs:List PAsk,xs=[⟨f,2,false⟩]:=⟨_,rfl⟩
 have hone:∀v∈pasksC xs,v.oneCell'=true:=fun v hv=>by
  rw[hxs] at hv
  simp only[pasksC,paskC,zK,zL,List.flatten_cons,List.flatten_nil,qA,zV,qM,List.not_mem_nil,or_false] at hv
  rcases hv with rfl|rfl
  ·exact hf1
  ·rfl
 obtain⟨W3,hW3⟩:∃W3,W3=w2.alloc (.cells #[f,.int .i64 2] 92):=⟨_,rfl⟩
 have hB3:Below w2.heap.size w2 W3:=by rw[hW3];exact(Below.refl _ _).alloc (zG _) _
 have hin3:InG W3 W3.heap.size 2 (some ⟨w2.heap.size,0,none⟩) xs.length xs.length (pasksC xs):=by
  have:=pasks_new w2 xs hone 92 (by rw[hxs];simp)
  rw[hW3]
  subst hxs
  exact this
 have h3:=h2.grow hB3
 have ha:∀x∈xs,PAskIs W3 x:=fun x hx=>by
  rw[hxs] at hx
  simp only[qM,List.not_mem_nil,or_false] at hx
  subst hx
  have:=hA2 p _ _ _ rfl h.mks
  rw[hdec] at this
  exact PAskIs.later this hB3
 have HA:=h3.asked true (some ⟨w2.heap.size,0,none⟩) xs.length xs hin3 (by rw[hxs];simp) ha
 have hE:(if (true != true)=true then 191 else askE xs)=0:=by rw[hxs];rfl
 have hxl:xs.length=1:=by rw[hxs];rfl
 rw[hE,hxl] at HA
 rw[<-hW3]
 refine HA.mono ?_
 rintro e w4 ⟨rfl,hB4⟩
 have hBB:Below W.heap.size W w4:=(hB2.trans (hB3.mono hB2.size)).trans (hB4.mono (by have:=hB2.size;have:=hB3.size;omega))
 have h4:=h3.grow hB4
 have hM4:=hM.grow hBB
 have hR4:w4.rangeAt g (n*20) (mkC m):=fun j x hj=>(hBB.cell (p:=⟨g,n*20+j,none⟩) hgl).trans (hRm j x hj)
 have c40:=h4.mks
 have hml20:=mkC_length hsm
 have hGB4:GrowBut (pgMu K p v) W w4:=GrowBut.below hBB
 have hsz4:=hBB.size
 clear ha hin3 HA hE hxl hA2 hone h2 h3 hB3 hW3 hxs hB2 hB4 hRm hf1
 go_wp2_with (first
  | (refine wp_exec rfl (x_loadM rowMk hR4 hml20 rfl rfl) ?_)
  | (refine wp_storeBox rfl 90 (.tmp 6) (.tmp 24) rfl rfl rfl rowMk rfl (by simp[hml20]) (fun u hu=>(mkC_cell m u (by simpa using hu)).one) ?_;intro w5 hB5 b5;have h5:=h4.grow hB5;have hM5:=hM4.grow hB5;have c19:=h5.chc)
  | (revert c19;intro c19;go_at_call 50;refine(gdrop h5.ca).mono ?_;rintro e w6 ⟨v6,rfl,hC6,n6,i6,y6,s6,d6,hn6,hG6⟩;have h6:=h5.turn hG6 hC6;have hM6:=hM5.turn h5.ca hG6 hn6;have b6:=hG6.blk b5 (h5.ca.notTyK b5 (by decide) (by decide) (by decide) (by decide));have c31:w6.cell? ⟨w4.heap.size,19,none⟩=some (.map (some m.m)):=(b6.cell 19).trans (mkC_map hsm);obtain⟨hPM6,_,hMo⟩:=hM6.maps m hmem;obtain⟨es,co,fm,hmi,hen,hst,hpg⟩:=hPM6.has;have HS:=psortedV_gives w6 m.m K.P co es fm hmi hen hst (hpg.keys hMo.key) (by omega);have hba:=backD_all hpg hMo.key;have hcn:=cntD_keys (P:=K.P) hpg;have hkm:=keys_some (P:=K.P) hpg;have hkl:=keysV_len fm K.P;generalize keysV fm K.P=ks at HS hba hcn hkm hkl;have hcap:(ks.length:Int)<=K.room:=(by rw[hcn];exact hMo.cnt);have HBA:=Lib.hid hba;have HKM:=Lib.hid hkm;clear hcn hba hkm)
  | (revert HS;intro HS;go_at_call 51;refine HS.mono ?_;rintro e w7 ⟨v7,rfl,hrow7,hB7⟩;obtain⟨A7,c7,rfl,hcl7,hks7⟩:=KsAt.of hrow7))
 have hszw:W.heap.size<=w4.heap.size:=hsz4
 have h7:=h6.grow hB7
 have hR0:BkR W0 W K p v st last ms (.slice (some ⟨g,0,none⟩) ms.length c) m.D A7 ks w4.heap.size (mkC m).toArray 0 v6 w7:=by
  have hG56:GrowBut (pgMu K p v) w4 w6:=(GrowBut.below hB5).trans (growMu hG6)
  exact⟨h7,hM6.grow hB7,hks7,b6.below hB7 b6.lt,n6,i6,y6,s6,by rw[d6,backD_zero],hn6.mono (zO hszw hB5.size),(hGB4.trans hG56).trans (GrowBut.below hB7)⟩
 clear HS hrow7 hks7 hmi hen hst hpg hPM6 h7 h6 hM6 b6 c31 hG6 hn6 hC6 h5 hM5 b5 c19 hB5 hR4 h4 hM4 c40 hGB4 hB7 d6
 go_loopw [34] (fun i wr=>∃(k:Nat) (u:PgV),k<=ks.length/\i = .int .i64 (k:Int)/\BkR W0 W K p v st last ms (.slice (some ⟨g,0,none⟩) ms.length c) m.D A7 ks w4.heap.size (mkC m).toArray k u wr) (fun i _=>ks.length - (intOf i).toNat)
 case atStart=>exact⟨0,v6,Nat.zero_le _,rfl,hR0⟩
 case round =>
  clear hR0
  obtain⟨k,u,hk,rfl,hR⟩:=hrel
  by_cases hlt:k<ks.length
  ·obtain⟨gb,rfl,hck⟩:=hR.ksa.cell k hlt
   obtain⟨y,hy⟩:=Option.isSome_iff_exists.1 (HKM.out ks[k] (qH hlt))
   have hd:=hR.more (Below.refl _ _).drew
   obtain⟨kk,hkk⟩:∃kk,kk=ks[k]:=⟨_,rfl⟩
   rw[<-hkk] at hck
   have hwk:IntKind.i64.wrap ((k:Int)+1)=(k:Int)+1:=wrap_i64_fr _ (by omega) (by omega)
   obtain⟨hPM,hnm,_⟩:=hd.mks.maps m hmem
   obtain⟨es,co,fm,hmi,hen,_,hpg⟩:=hPM.has
   have hyk:m.D (kk:Int)=some y:=by rw[hkk];exact hy
   obtain⟨A5,c5,y5,hf5,hD5,hyl,hin⟩:∃A c y',fm (kk:Int)=some (.slice A 512 c)/\m.D (kk:Int)=some y'/\y'.length=512/\InB wr.drew wr.drew.heap.size A c y':=by
    rcases hpg (kk:Int) with⟨_,q⟩|q
    ·rw[hyk] at q;cases q
    ·exact q
   obtain rfl:y5=y:=by rw[hyk] at hD5;injection hD5 with hD5;exact hD5.symm
   have hkr:=hMo.key _ _ hyk
   have hnn:=hd.nn
   have hfd:(fm (kk:Int)).getD (.slice none 0 0) = .slice A5 512 c5:=by rw[hf5];rfl
   have hS0:wr.drew.cell? ⟨p,19,none⟩=some (.pointer (some ⟨K.a,0,none⟩))/\wr.drew.cell? ⟨w4.heap.size,19,none⟩=some (.map (some m.m))/\MapIs wr.drew m.m es co:=⟨hd.pa.chc,(hd.bx.cell 19).trans (mkC_map hsm),hmi⟩
   have HF:=Lib.hid hfd
   have HY:=Lib.hid hy
   have HKK:=Lib.hid hkk
   clear hPM hpg hf5 hD5 hyk hfd hy hkk
   go_wp2_with fail
   refine RegF.start (fun W':World=>W'.cell? ⟨p,19,none⟩=some (.pointer (some ⟨K.a,0,none⟩))/\W'.cell? ⟨w4.heap.size,19,none⟩=some (.map (some m.m))/\MapIs W' m.m es co) 99 (by kernel_rfl) ?_
   refine RegF.t0 0 (.pointer (some ⟨p,0,none⟩)) rfl hS0 (fun W ⟨e0,e1,e2⟩=>by go_simp) ?_
   simp only[zD,zB,Act.put,zA,zF,zE]
   refine RegF.t0 1 (.pointer (some ⟨p,0,none⟩)) rfl hS0 (fun W ⟨e0,e1,e2⟩=>by go_simp) ?_
   simp only[zD,zC,zB,Act.put,zA,zF,zE]
   refine RegF.t0 2 (.pointer (some ⟨p,19,none⟩)) rfl hS0 (fun W ⟨e0,e1,e2⟩=>by go_simp) ?_
   simp only[zD,zC,zB,Act.put,zA,zF,zE]
   refine RegF.t0 3 (.pointer (some ⟨K.a,0,none⟩)) rfl hS0 (fun W ⟨e0,e1,e2⟩=>by go_simp) ?_
   simp only[zD,zC,zB,Act.put,zA,zF,zE]
   refine RegF.t0 4 (.int .i64 (kk:Int)) rfl hS0 (fun W ⟨e0,e1,e2⟩=>by go_simp) ?_
   simp only[zD,zC,zB,Act.put,zA,zF,zE]
   refine RegF.t0 5 (.pointer (some ⟨w4.heap.size,19,none⟩)) rfl hS0 (fun W ⟨e0,e1,e2⟩=>by go_simp) ?_
   simp only[zD,zC,zB,Act.put,zA,zF,zE]
   refine RegF.t0 6 (.map (some m.m)) rfl hS0 (fun W ⟨e0,e1,e2⟩=>by go_simp) ?_
   simp only[zD,zC,zB,Act.put,zA,zF,zE]
   refine RegF.t0 7 (.int .i64 (kk:Int)) rfl hS0 (fun W ⟨e0,e1,e2⟩=>by go_simp) ?_
   simp only[zD,zC,zB,Act.put,zA,zF,zE]
   refine RegF.t0 8 (.slice A5 512 c5) rfl hS0 (fun W ⟨e0,e1,e2⟩=>by exact x_lookupG hen e2 HF.out rfl rfl rfl) ?_
   simp only[zD,zC,zB,Act.put,zA,zF,zE]
   refine RegF.one 9 (by kernel_rfl) ?_
   refine RegF.opC 34 #[.tmp 41,.tmp 42,.tmp 46] #[52,3,22] rfl rfl rfl (enters_of Tryz.func34 (by kernel_rfl) rfl) #[.pointer (some ⟨K.a,0,none⟩),.int .i64 (kk:Int),.slice A5 512 c5] (by simp only[zJ,zK,zL];rfl) ((gwrite hd.pa.ca hK (by omega) (kk:Int) A5 c5 y5 hyl hin).mono ?_)
   rintro e w9 ⟨x,u9,rfl,hC9,n9,i9,y9,s9,hq,hn9,hG9⟩
   have hD9:u9.D=fun j=>if j=(kk:Int) then some y5 else u.D j:=by
    rcases hq with q|⟨q,_⟩
    ·exact q.2.2
    ·rcases q with⟨_,q⟩|⟨_,q⟩
     ·omega
     ·exact absurd q (fun q=>backD_room hd.pa.ca hlt hd.dd hcap q)
   have hR9:=hd.step hlt HY.out hC9 n9 i9 y9 s9 (by rw[<-HKK.out];exact hD9) hn9 hG9
   have hS9:w9.cell? ⟨p,19,none⟩=some (.pointer (some ⟨K.a,0,none⟩))/\w9.cell? ⟨w4.heap.size,19,none⟩=some (.map (some m.m))/\MapIs w9 m.m es co:=⟨hR9.pa.chc,(hR9.bx.cell 19).trans (mkC_map hsm),(hG9.block _ hmi.lt hnm).trans hmi⟩
   refine⟨_,rfl,fun _=>hS9,RegF.done (by kernel_rfl) ?_⟩
   simp only[zD,zC,zB,Act.put,zA,zF,zE]
   clear hS0 hS9 hq hn9 hG9 hC9 hin hmi hen hD9 hd hR hck
   go_wp2
   exact⟨⟨k+1,u9,by omega,by simp,hR9⟩,by simp[intOf];omega⟩
  ·obtain rfl:k=ks.length:=by omega
   have hd:=hR.more (Below.refl _ _).drew
   have hrg:wr.drew.rangeAt w4.heap.size 0 (psC m.s):=by
    have:=hd.bx.rangeOf 0 (n:=19)
    rw[List.drop_zero,mkC_take hsm] at this
    exact this
   have hsl:=psC_length hsm
   have hS0:wr.drew.rangeAt w4.heap.size 0 (psC m.s)/\wr.drew.cell? ⟨p,40,none⟩=some (.slice (some ⟨g,0,none⟩) ms.length c):=⟨hrg,hd.pa.mks⟩
   have hnp:w4.heap.size≠p:=fun e=>by
    have hb:=hd.bx
    rw[e] at hb
    exact BlkIs.ne_type hb hd.pa.pb (by decide) rfl
   have hT:=blk_there (o:=0) (n:=(psC m.s).toArray.size) hd.pa.pb (by rw[pgC_size' hd.pa.hs hd.pa.hl];simp[hsl])
   obtain⟨h13,hG13⟩:=hd.pa.setState hsm
   have hM13:=hd.mks.own hd.pa hG13
   have hS13:(wr.drew.setCells p 0 (psC m.s)).rangeAt w4.heap.size 0 (psC m.s)/\(wr.drew.setCells p 0 (psC m.s)).cell? ⟨p,40,none⟩=some (.slice (some ⟨g,0,none⟩) ms.length c):=⟨World.rangeAt_setCells_apart hrg _ _ _ (.inl hnp),h13.mks⟩
   obtain⟨w13,hw13⟩:∃x,x=wr.drew.setCells p 0 (psC m.s):=⟨_,rfl⟩
   rw[<-hw13] at h13 hG13 hM13 hS13
   have c40:=h13.mks
   have f40:=h13.pb.free 40
   obtain⟨h16,hG16⟩:=h13.setMarks (mk':=.slice (some ⟨g,0,none⟩) n n)
   have hM16:=(hM13.own h13 hG16).take rfl (Nat.le_of_lt hnl)
   have hO:BkOut W0 K p v last ms n m W (.returned (.int .i64 0)) (w13.setCell ⟨p,40,none⟩ (.slice (some ⟨g,0,none⟩) n n)):=BkOut.mk ⟨u,_,rfl,h16,hM16,⟨by have:=hR.nn;omega,hR.ii,hR.yy,hR.sz,hR.dd.trans HBA.out⟩,hR.nm,(hd.gr.trans (growP hG13)).trans (growP hG16)⟩
   have HO:=Lib.hid hO
   have HW13:=Lib.hid hw13
   clear hO h16 hG16 hM16 hM13 hG13 hrg hw13
   go_wp2_with fail
   refine RegF.start (fun W':World=>W'.rangeAt w4.heap.size 0 (psC m.s)/\W'.cell? ⟨p,40,none⟩=some (.slice (some ⟨g,0,none⟩) ms.length c)) 16 (by kernel_rfl) ?_
   refine RegF.t 0 (.pointer (some ⟨p,0,none⟩)) rfl hS0 (fun W ⟨e0,e1⟩=>by go_simp) ?_
   simp only[zD,zB,Act.put,zA,zF,zE]
   refine RegF.t 1 (.pointer (some ⟨p,0,none⟩)) rfl hS0 (fun W ⟨e0,e1⟩=>by go_simp) ?_
   simp only[zD,zC,zB,Act.put,zA,zF,zE]
   refine RegF.t 2 (.pointer (some ⟨w4.heap.size,0,none⟩)) rfl hS0 (fun W ⟨e0,e1⟩=>by go_simp) ?_
   simp only[zD,zC,zB,Act.put,zA,zF,zE]
   refine RegF.t 3 (.agg (psC m.s).toArray) rfl hS0 (fun W ⟨e0,e1⟩=>by exact x_loadM rowPgSt e0 hsl rfl rfl) ?_
   simp only[zD,zC,zB,Act.put,zA,zF,zE]
   refine RegF.t 4 (.pointer (some ⟨p,0,none⟩)) rfl hS0 (fun W ⟨e0,e1⟩=>by go_simp) ?_
   simp only[zD,zC,zB,Act.put,zA,zF,zE]
   refine RegF.t 5 (.pointer (some ⟨p,0,none⟩)) rfl hS0 (fun W ⟨e0,e1⟩=>by go_simp) ?_
   simp only[zD,zC,zB,Act.put,zA,zF,zE]
   refine RegF.t 6 (.pointer (some ⟨p,40,none⟩)) rfl hS0 (fun W ⟨e0,e1⟩=>by go_simp) ?_
   simp only[zD,zC,zB,Act.put,zA,zF,zE]
   refine RegF.t 7 (.slice (some ⟨g,0,none⟩) ms.length c) rfl hS0 (fun W ⟨e0,e1⟩=>by go_simp) ?_
   simp only[zD,zC,zB,Act.put,zA,zF,zE]
   refine RegF.t 8 (.int .i64 (n:Int)) rfl hS0 (fun W ⟨e0,e1⟩=>by go_simp) ?_
   simp only[zD,zC,zB,Act.put,zA,zF,zE]
   refine RegF.t 9 (.int .i64 (n:Int)) rfl hS0 (fun W ⟨e0,e1⟩=>by go_simp) ?_
   simp only[zD,zC,zB,Act.put,zA,zF,zE]
   refine RegF.t 10 (.slice (some ⟨g,0,none⟩) n n) rfl hS0 (fun W ⟨e0,e1⟩=>by exact x_cutM rfl rfl rfl rfl (by omega)) ?_
   simp only[zD,zC,zB,Act.put,zA,zF,zE]
   refine RegF.one 11 (by kernel_rfl) (RegF.opV (w':=wr.drew) (.pointer (some ⟨p,0,none⟩)) rfl rfl (by obtain⟨e0,e1⟩:=hS0;go_simp) ⟨fun _=>hS0,?_⟩)
   simp only[zD,zC,zB,Act.put,zA,zF,zE]
   refine RegF.one 12 (by kernel_rfl) (RegF.opV (w':=wr.drew) (.pointer (some ⟨p,0,none⟩)) rfl rfl (by obtain⟨e0,e1⟩:=hS0;go_simp) ⟨fun _=>hS0,?_⟩)
   simp only[zD,zC,zB,Act.put,zA,zF,zE]
   refine RegF.one 13 (by kernel_rfl) (RegF.opS (w':=w13) rfl rfl (by rw[HW13.out];exact x_storeMid 51 rfl p 0 (psC m.s).toArray rfl rfl hT (by simpa[hsl] using rowPgSt.size) (all_oneCell_toArray (psC_one _))) ⟨fun _=>hS13,?_⟩)
   simp only[zD,zC,zB,Act.put]
   refine RegF.one 14 (by kernel_rfl) (RegF.opV (w':=w13) (.pointer (some ⟨p,0,none⟩)) rfl rfl (by obtain⟨e0,e1⟩:=hS13;go_simp) ⟨fun _=>hS13,?_⟩)
   simp only[zD,zC,zB,Act.put,zA,zF,zE]
   refine RegF.one 15 (by kernel_rfl) (RegF.opV (w':=w13) (.pointer (some ⟨p,40,none⟩)) rfl rfl (by obtain⟨e0,e1⟩:=hS13;go_simp) ⟨fun _=>hS13,?_⟩)
   simp only[zD,zC,zB,Act.put,zA,zF,zE]
   refine RegF.one 16 (by kernel_rfl) (RegF.opS (w':=w13.setCell ⟨p,40,none⟩ (.slice (some ⟨g,0,none⟩) n n)) rfl rfl (by go_simp) ⟨fun h=>absurd rfl h,RegF.done (by kernel_rfl) ?_⟩)
   simp only[zD,zC,zB,Act.put]
   clear hS0 hS13 hd hR h13 hT c40 f40
   go_wp2
   go_ret
   exact HO.out
end
theorem cfile_gives {w:World}{a f r P:Nat}{room now hh mm:Int}{V:RowsV}(h:CaIs w a f r P room now hh mm V):Calls Tryz.prog 42 #[.pointer (some ⟨a,0,none⟩)] w fun e w'=>e = .returned (.pointer (some ⟨f,0,none⟩))/\w=w':=by
 have HN:=cnone_gives h.cb
 have c0:w.cell? ⟨a,0,none⟩=some (.pointer (some ⟨f,0,none⟩)):=(h.cb.cell _).trans rfl
 go_enter Tryz.func42,Tryz.ntmps42
 go_wp2_with (go_at_call 65;refine HN.mono ?_;rintro e w' ⟨rfl,rfl⟩)
 go_ret
 exact⟨rfl,rfl⟩
def Tight (K:PgK)(D:Int->Option (List UInt8)):Prop:=∀l:List Nat,(∀p b,D p=some b->p.toNat∈l)->K.room<=(l.length:Int)
theorem CaAt.tight {W0 W:World}{K:PgK}{v:PgV}(h:CaAt W0 K v W)(hn:NoRoom K.P K.room v.c.V):Tight K v.D:=fun l hl=>hn.dirty (fun p b e=>hl p b (dirF_some.2 e)) (fun k u e=>(h.ro k u.y u.d (rowsR_some e)).1.1)
def zeroB:List UInt8:=zN 512 0
structure MkF (K:PgK)(v v':PgV)(st st':PgSt)(n x:Int):Prop where
 nn:v'.N<=v.N+2
 ii:v'.i=v.i
 yy:v'.Y K=v.Y K
 sz:v'.S.sz=v.S.sz
 dd:(x=0/\st.first=0/\n=st.size/\st.size<K.pg/\st' = { st with size:=st.size+1 }/\v'.D=fun j=>if j=n then some zeroB else v.D j) ∨
  (x=0/\st.first≠0/\n=st.first/\st' = { st with first:=(rfix ((v.view K st.first.toNat).take 4):Int),many:=st.many - 1 }/\v'.D=fun j=>if j=n then some zeroB else v.D j) ∨
  (x≠0/\n=0/\st'=st/\v'.D=v.D/\((st.first=0/\K.pg<=st.size/\x=160)∨Tight K v.D∨(st.first≠0/\(st.size<=(rfix ((v.view K st.first.toNat).take 4):Int)∨st.many - 1<0))))
theorem x_allocPgSt {ρ:Operand->Value}{o:Oper}{w:World}(ho:o.op = .alloc 51):(execOp ρ o).run Tryz.prog w = .ok (.value (.pointer (some ⟨w.heap.size,0,none⟩))) (w.alloc (.cells #[.int .i64 0,.int .i64 0,.int .i64 0,.int .i64 0,.int .i64 0,.int .i64 0,.int .i64 0,.int .i64 0,.int .i64 0,.int .i64 0,.int .i64 0,.int .i64 0,.int .i64 0,.int .i64 0,.int .i64 0,.int .i64 0,.int .i64 0,.int .i64 0,.int .i64 0] 51)):=by
 simp[execOp,ho,Instr.alloc,newVar,newRow,go_sem,Result.andThen]
theorem GrowBut.setNew {Mu:Nat->Prop}{a c:World}(h:GrowBut Mu a c){b j:Nat}{u:Value}(hb:a.heap.size<=b):GrowBut Mu a (c.setCell ⟨b,j,none⟩ u) :=
 ⟨h.os,h.tape,h.output,by simpa using h.size,fun k hk hn=>(Below.heap_setCell c ⟨b,j,none⟩ u k (by show k≠b;omega)).trans (h.block k hk hn)⟩
theorem PaIs.keepB {W0 X:World}{K:PgK}{p:Nat}{v:PgV}{st last:PgSt}{under:Bool}{mk:Value}(h:PaIs W0 K p v st last under mk X){b:Nat}{T:TypeId}{cs:Array Value}(hb:BlkIs X b T cs)(hs:cs.size<=64)(h0:∀n,cs[0]? ≠ some (.int .u64 n))(hge:W0.heap.size<=b)(hm:¬ K.mu v b)(hf:b≠K.f)(hp:b≠p)(j:Nat)(u:Value):PaIs W0 K p v st last under mk (X.setCell ⟨b,j,none⟩ u):=by
 have hG:GrowBut (fun k=>k=b) X (X.setCell ⟨b,j,none⟩ u):=GrowBut.setCell _ _ _ rfl
 have hsm:SmBlk X b:=⟨.inr (.inl ⟨T,cs,hb,hs,h0⟩),.inr (.inl ⟨T,cs,hb,hs⟩)⟩
 exact⟨h.ca.keep hG (fun k e=>by subst e;exact hsm) (fun k e=>by subst e;exact hge) (fun k e=>by subst e;exact⟨hm,hf⟩),hG.blk h.pb (fun e=>hp e.symm),h.np,h.hs,h.hl⟩
def MkOut (W0:World)(K:PgK)(p:Nat)(v:PgV)(st last:PgSt)(mk:Value)(W:World)(e:Ending)(w':World):Prop:=∃n x v' st',e = .returned (.tuple #[.int .i64 n,.int .i64 x])/\PaIs W0 K p v' st' last true mk w'/\MkF K v v' st st' n x/\Names K W v v'/\GrowBut (pgMu K p v) W w'
theorem MkOut.mk {W0:World}{K:PgK}{p:Nat}{v:PgV}{st last:PgSt}{mk:Value}{W:World}{e:Ending}{w':World}(h:∃n x v' st',e = .returned (.tuple #[.int .i64 n,.int .i64 x])/\PaIs W0 K p v' st' last true mk w'/\MkF K v v' st st' n x/\Names K W v v'/\GrowBut (pgMu K p v) W w'):MkOut W0 K p v st last mk W e w':=h
-- THE WALK
section
variable {W0 W:World}{K:PgK}{p:Nat}{v:PgV}{st last:PgSt}{mk:Value}
theorem pmake_gives (h:PaIs W0 K p v st last true mk W)(hK:K.Ok)(hN:v.N<=700000)(hsz:1<=st.size/\st.size<=(K.P:Int))(hf:0<=st.first/\st.first<(K.P:Int))(hm:0<=st.many/\st.many<=1000) :
  Calls Tryz.prog 12 #[.pointer (some ⟨p,0,none⟩)] W (MkOut W0 K p v st last mk W):=by
 have HA:=h.asked0 true
 have hsl:=psC_length h.hs
 have hP2:=hK.P2
 have hPg:=hK.hP
 go_enter Tryz.func12,Tryz.ntmps12
 go_wp2_with (go_at_call 41;refine HA.mono ?_;rintro e w1 ⟨rfl,hB1⟩)
 obtain⟨w1d,hw1d⟩:∃x,x=w1.drew:=⟨_,rfl⟩
 have hB1d:Below W.heap.size W w1d:=by rw[hw1d];exact hB1.trans ((Below.refl _ _).drew.mono hB1.size)
 have h1:=h.grow hB1d
 have hS0:w1d.rangeAt p 0 (psC st)/\w1d.cell? ⟨p,1,none⟩=some (.int .i64 st.first):=⟨h1.stRange,h1.fic⟩
 refine RegF.start (fun W':World=>W'.rangeAt p 0 (psC st)/\W'.cell? ⟨p,1,none⟩=some (.int .i64 st.first)) 99 (by kernel_rfl) ?_
 rw[<-hw1d]
 refine RegF.t0 0 (.pointer (some ⟨p,0,none⟩)) rfl hS0 (fun W ⟨e0,e1⟩=>by go_simp) ?_
 simp only[zD,zB,Act.put,zA,zF,zE]
 refine RegF.t0 1 (.pointer (some ⟨p,0,none⟩)) rfl hS0 (fun W ⟨e0,e1⟩=>by go_simp) ?_
 simp only[zD,zC,zB,Act.put,zA,zF,zE]
 refine RegF.t0 2 (.pointer (some ⟨p,0,none⟩)) rfl hS0 (fun W ⟨e0,e1⟩=>by go_simp) ?_
 simp only[zD,zC,zB,Act.put,zA,zF,zE]
 refine RegF.t0 3 (.agg (psC st).toArray) rfl hS0 (fun W ⟨e0,e1⟩=>by exact x_loadM rowPgSt e0 hsl rfl rfl) ?_
 simp only[zD,zC,zB,Act.put,zA,zF,zE]
 refine RegF.t0 4 (.pointer (some ⟨p,0,none⟩)) rfl hS0 (fun W ⟨e0,e1⟩=>by go_simp) ?_
 simp only[zD,zC,zB,Act.put,zA,zF,zE]
 refine RegF.t0 5 (.pointer (some ⟨p,0,none⟩)) rfl hS0 (fun W ⟨e0,e1⟩=>by go_simp) ?_
 simp only[zD,zC,zB,Act.put,zA,zF,zE]
 refine RegF.t0 6 (.pointer (some ⟨p,0,none⟩)) rfl hS0 (fun W ⟨e0,e1⟩=>by go_simp) ?_
 simp only[zD,zC,zB,Act.put,zA,zF,zE]
 refine RegF.t0 7 (.pointer (some ⟨p,1,none⟩)) rfl hS0 (fun W ⟨e0,e1⟩=>by go_simp) ?_
 simp only[zD,zC,zB,Act.put,zA,zF,zE]
 refine RegF.t0 8 (.int .i64 st.first) rfl hS0 (fun W ⟨e0,e1⟩=>by go_simp) ?_
 simp only[zD,zC,zB,Act.put,zA,zF,zE]
 obtain⟨b,hb⟩:∃b,b=w1d.heap.size:=⟨_,rfl⟩
 obtain⟨w2,hw2⟩:∃w2,w2=w1d.alloc (.cells #[.int .i64 0,.int .i64 0,.int .i64 0,.int .i64 0,.int .i64 0,.int .i64 0,.int .i64 0,.int .i64 0,.int .i64 0,.int .i64 0,.int .i64 0,.int .i64 0,.int .i64 0,.int .i64 0,.int .i64 0,.int .i64 0,.int .i64 0,.int .i64 0,.int .i64 0] 51):=⟨_,rfl⟩
 have b2:BlkIs w2 b 51 #[.int .i64 0,.int .i64 0,.int .i64 0,.int .i64 0,.int .i64 0,.int .i64 0,.int .i64 0,.int .i64 0,.int .i64 0,.int .i64 0,.int .i64 0,.int .i64 0,.int .i64 0,.int .i64 0,.int .i64 0,.int .i64 0,.int .i64 0,.int .i64 0,.int .i64 0]:=by rw[hw2,hb];exact BlkIs.new _ _ _
 have hB2:Below w1d.heap.size w1d w2:=by rw[hw2];exact(Below.refl _ _).alloc (zG _) _
 have h2:=h1.grow hB2
 have hS2:w2.rangeAt p 0 (psC st)/\w2.cell? ⟨p,1,none⟩=some (.int .i64 st.first):=⟨h2.stRange,h2.fic⟩
 refine RegF.one 9 (by kernel_rfl) (RegF.opV (w':=w2) (.pointer (some ⟨b,0,none⟩)) rfl rfl (by rw[hw2,hb];exact x_allocPgSt rfl) ⟨fun _=>hS2,?_⟩)
 simp only[zD,zC,zB,Act.put,zA,zF,zE]
 obtain⟨w3,hw3⟩:∃w3,w3=w2.setRow b (psC st).toArray:=⟨_,rfl⟩
 have b3:BlkIs w3 b 51 (psC st).toArray:=by rw[hw3];exact b2.setRow _
 have hB3:Below w1d.heap.size w1d w3:=by rw[hw3];exact below_setRow hB2 (by rw[hb];exact zG _) _
 have h3:=h1.grow hB3
 have hS3:w3.rangeAt p 0 (psC st)/\w3.cell? ⟨p,1,none⟩=some (.int .i64 st.first):=⟨h3.stRange,h3.fic⟩
 refine RegF.one 10 (by kernel_rfl) (RegF.opS (w':=w3) rfl rfl (by rw[hw3];exact x_storeW _ _ _ rfl b rfl rfl rowPgSt b2 rfl (by simp[hsl]) (by simpa using psC_one st)) ⟨fun _=>hS3,?_⟩)
 simp only[zD,zC,zB,Act.put]
 refine RegF.one 11 (by kernel_rfl) (RegF.opV (w':=w3) (.int .i64 st.first) rfl rfl (by go_simp) ⟨fun _=>hS3,RegF.done (by kernel_rfl) ?_⟩)
 simp only[zD,zC,zB,Act.put,zA,zF,zE]
 have hB03:Below W.heap.size W w3:=hB1d.trans (hB3.mono hB1d.size)
 have hbW:W.heap.size<=b:=by rw[hb];exact hB1d.size
 have hmu:¬ K.mu v b:=fun hk=>by have:=h1.ca.lts _ hk;omega
 have hbf:b≠K.f:=by have:=h1.ca.cs.fh.fb.lt;omega
 have hbp:b≠p:=by have:=h1.pb.lt;omega
 have hb0:W0.heap.size<=b:=by have:=h.ca.cs.fh.up.size;omega
 clear hS0 hS2 hS3 hw2 hw3 b2 h2 HA h1 hB1 hB1d hB2 hw1d hb hB3
 by_cases hf0:st.first=0
 ·have cb0:w3.cell? ⟨b,0,none⟩=some (.int .i64 st.size):=(b3.cell 0).trans (by simp[psC])
  have c19:=h3.chc
  have hpp:=planPages K.fr K.pg
  have hwr:IntKind.i64.wrap (st.size+1)=st.size+1:=wrap_i64_fr _ (by omega) (by omega)
  by_cases hfull:K.pg<=st.size
  ·have hF:MkF K v v st st 0 160:=⟨by omega,rfl,rfl,rfl,.inr (.inr ⟨by decide,rfl,rfl,rfl,.inl ⟨hf0,hfull,rfl⟩⟩)⟩
   have HF:=Lib.hid hF
   clear hF
   go_wp2_with (first
    | (go_at_call 42;refine(cfile_gives h3.ca.cs.ca).mono ?_;rintro e w4 ⟨rfl,rfl⟩)
    | (go_at_call 43;refine(fplan_gives h3.ca.cs.fh.fb).mono ?_;rintro e w4 ⟨rfl,hB4⟩))
   exact bodyPost_ret (results_tmp2 rfl _ _ _) rfl (MkOut.mk ⟨0,160,v,st,rfl,h3.grow hB4,HF.out,fun k hk => .inl hk,GrowBut.below (hB03.trans (hB4.mono hB03.size))⟩)
  ·go_wp2_with (first
    | (go_at_call 42;refine(cfile_gives h3.ca.cs.ca).mono ?_;rintro e w4 ⟨rfl,rfl⟩)
    | (go_at_call 43;refine(fplan_gives h3.ca.cs.fh.fb).mono ?_;rintro e w4 ⟨rfl,hB4⟩;have cb4:=(hB4.cell (p:=⟨b,0,none⟩) b3.lt).trans cb0;have fb4:=(b3.below hB4 b3.lt).free 0))
   have b4:=b3.below hB4 b3.lt
   have h4:=h3.grow hB4
   have hG4:GrowBut (K.mu v) W w4:=GrowBut.below (hB03.trans (hB4.mono hB03.size))
   have b5:=b4.set 0 (.int .i64 (st.size+1))
   have ea:(psC st).toArray.setIfInBounds 0 (.int .i64 (st.size+1))=(psC { st with size:=st.size+1 }).toArray:=by simp[psC]
   rw[ea] at b5
   obtain⟨sx,hsxe⟩:∃sx:PgSt,sx = { st with size:=st.size+1 }:=⟨_,rfl⟩
   rw[<-hsxe] at b5
   have hsr:sx.roots.length=16:=by rw[hsxe];exact h.hs
   have HSX:=Lib.hid hsxe
   clear hsxe
   have h5:=h4.keepB b4 (by simp[hsl]) (fun n=>by simp[psC]) hb0 hmu hbf hbp 0 (.int .i64 (st.size+1))
   have hG5:GrowBut (K.mu v) W (w4.setCell ⟨b,0,none⟩ (.int .i64 (st.size+1))):=hG4.setNew hbW
   generalize w4.setCell ⟨b,0,none⟩ (.int .i64 (st.size+1))=w5 at *
   clear ea b4 h4 hG4 cb4 fb4 hB4 cb0 c19 h3 b3 hB03 hpp
   go_wp2_with fail
   have hd:=h5.grow (Below.refl _ _).drew
   have bd:BlkIs w5.drew b 51 (psC sx).toArray:=b5
   have hS0:=hd.chc
   refine RegF.start (fun W':World=>W'.cell? ⟨p,19,none⟩=some (.pointer (some ⟨K.a,0,none⟩))) 99 (by kernel_rfl) ?_
   refine RegF.t0 0 (.pointer (some ⟨p,0,none⟩)) rfl hS0 (fun W hW=>by obtain e0:=hW;go_simp) ?_
   simp only[zD,zB,Act.put,zA,zF,zE]
   refine RegF.t0 1 (.pointer (some ⟨p,0,none⟩)) rfl hS0 (fun W hW=>by obtain e0:=hW;go_simp) ?_
   simp only[zD,zC,zB,Act.put,zA,zF,zE]
   refine RegF.t0 2 (.pointer (some ⟨p,19,none⟩)) rfl hS0 (fun W hW=>by obtain e0:=hW;go_simp) ?_
   simp only[zD,zC,zB,Act.put,zA,zF,zE]
   refine RegF.t0 3 (.pointer (some ⟨K.a,0,none⟩)) rfl hS0 (fun W hW=>by obtain e0:=hW;go_simp) ?_
   simp only[zD,zC,zB,Act.put,zA,zF,zE]
   refine RegF.t0 4 (.int .i64 st.size) rfl hS0 (fun W hW=>by obtain e0:=hW;go_simp) ?_
   simp only[zD,zC,zB,Act.put,zA,zF,zE]
   refine RegF.one 5 (by kernel_rfl) ?_
   refine RegF.opC 44 #[.const (.slice none 0 0)] #[141] rfl rfl rfl (enters_of Tryz.func44 (by kernel_rfl) rfl) #[.slice none 0 0] (by simp only[zJ,zK,zL];rfl) ((ppage_none _).mono ?_)
   rintro e w7 ⟨v7,rfl,own7,hB7⟩
   obtain⟨A7,c7,rfl,hin7⟩:=own7.inB
   have h7:=hd.grow hB7
   refine⟨_,rfl,fun _=>h7.chc,?_⟩
   simp only[zD,zC,zB,Act.put,zA,zF,zE]
   simp only[List.length_replicate]
   refine RegF.one 6 (by kernel_rfl) ?_
   refine RegF.opC 34 #[.tmp 73,.tmp 74,.tmp 75] #[52,3,22] rfl rfl rfl (enters_of Tryz.func34 (by kernel_rfl) rfl) #[.pointer (some ⟨K.a,0,none⟩),.int .i64 st.size,.slice A7 512 c7] (by simp only[zJ,zK,zL];rfl) ((gwrite h7.ca hK (by omega) st.size A7 c7 zeroB rfl hin7).mono ?_)
   rintro e w8 ⟨x,v8,rfl,hC8,e1,e2,e3,e4,hq,hn8,hG8⟩
   have h8:=h7.turn hG8 hC8
   refine⟨_,rfl,fun _=>h8.chc,?_⟩
   simp only[zD,zC,zB,Act.put,zA,zF,zE]
   refine RegF.one 7 (by kernel_rfl) (RegF.opV (w':=w8) (.int .i64 x) rfl rfl (by go_simp) ⟨fun _=>h8.chc,RegF.done (by kernel_rfl) ?_⟩)
   simp only[zD,zC,zB,Act.put,zA,zF,zE]
   have hB07:Below w5.heap.size w5 w7:=(Below.refl _ _).drew.trans (hB7.mono (zG _))
   have b8:BlkIs w8 b 51 (psC sx).toArray:=hG8.blk (bd.below hB7 bd.lt) hmu
   have hws:=hG5.size
   have hG8':GrowBut (pgMu K p v) W w8:=(hG5.trans ((GrowBut.below hB07).trans hG8)).more fun _ hk _ => .inr hk
   have hN8:Names K W v v8:=hn8.mono (zO hws hB07.size)
   have hsx:sx.roots.length=16:=hsr
   have hsxl:=psC_length hsx
   have hxx:x=0∨(x=160/\Tight K v.D):=hq.elim (fun h => .inl h.1) (fun h => .inr (by
    rcases h.1 with h1|h1
    ·omega
    ·exact⟨h1.1,by have:=h7.ca.tight h1.2;exact this⟩))
   clear hS0 hd bd hB7 hin7 own7 h7 hC8 hn8 hB07
   by_cases hx:x=0
   ·subst hx
    have hD:v8.D=fun j=>if j=st.size then some zeroB else v.D j:=by
     rcases hq with h1|h1
     ·exact h1.2.2
     ·exact absurd h1.1 (by omega)
    have hR8:w8.rangeAt b 0 (psC sx):=fun j u hj=>by
     rw[qG,b8.cell]
     simpa using hj
    have hT8:w8.there p 0 (psC sx).toArray.size:=blk_there h8.pb (by rw[pgC_size' h8.hs h8.hl];simp[hsxl])
    obtain⟨h9,hG9⟩:=h8.setState hsx
    have hF:MkF K v v8 st sx st.size 0:=⟨by omega,e2,e3,e4,.inl ⟨rfl,hf0,rfl,by omega,HSX.out,hD⟩⟩
    have HF:=Lib.hid hF
    have H9:=Lib.hid h9
    have HG9:=Lib.hid (hG8'.trans (GrowBut.more hG9 (fun k hk _ => .inl hk)))
    clear hF hD hq h9 hG9 hG8 hG8'
    go_wp2_with (first
     | (refine wp_exec rfl (x_loadM rowPgSt hR8 hsxl rfl rfl) ?_)
     | (refine wpList_store_mid rfl 51 _ _ rfl p 0 (psC sx).toArray rfl rfl hT8 (by simpa[hsxl] using rowPgSt.size) (all_oneCell_toArray (psC_one _)) ?_)
     | (go_at_call 45;refine(ptold_ok _ _).mono ?_;rintro e w' ⟨rfl,rfl⟩))
    exact bodyPost_ret (results_tmp2 rfl _ _ _) rfl (MkOut.mk ⟨st.size,0,v8,_,rfl,H9.out,HF.out,hN8,HG9.out⟩)
   ·have hD:v8.D=v.D:=by
     rcases hq with h1|h1
     ·exact absurd h1.1 hx
     ·exact h1.2
    have hF:MkF K v v8 st st 0 x:=⟨by omega,e2,e3,e4,.inr (.inr ⟨hx,rfl,rfl,hD,.inr (.inl (hxx.elim (fun h=>absurd h hx) (fun h=>h.2)))⟩)⟩
    have HF:=Lib.hid hF
    clear hF hD hq hxx hG8
    go_wp2_with (go_at_call 45;refine(ptold_err _ _ _ hx).mono ?_;rintro e w' ⟨rfl,rfl⟩)
    refine bodyPost_ret_by (results_tmp2 rfl _ _ _) rfl ?_
    exact MkOut.mk ⟨0,x,v8,st,rfl,h8,HF.out,hN8,hG8'⟩
 ·have c19:=h3.chc
  go_wp2_with fail
  refine(gread h3.ca hK (by omega) st.first).mono ?_
  rintro e w4 ⟨x4,v4,hE4,hC4,r1,r2,r3,r4,r5,r6,r7,hn4,hG4⟩
  have h4:=h3.turn hG4 hC4
  have hG04:GrowBut (K.mu v) W w4:=(GrowBut.below hB03).trans hG4
  have hN4:Names K W v v4:=hn4.mono hB03.size
  have hmu4:¬ K.mu v4 b:=fun hk=>(hn4 b hk).elim hmu (fun e=>by have:=b3.lt;omega)
  have b4:=hG4.blk b3 hmu
  have hT4:=h3.ca.tight
  have hvl:=h3.ca.viewLen st.first.toNat
  clear h3 b3 hB03 hG4 hn4 hC4 c19
  rcases x4 with er|y
  ·have he:=r7 er rfl
   obtain rfl:e = .returned (.tuple #[.slice none 0 0,.int .i64 er]):=hE4
   have h160:er=160/\Tight K v.D:=by
    rcases he with h1|h1
    ·omega
    ·exact⟨h1.1,hT4 h1.2⟩
   obtain⟨rfl,hT⟩:=h160
   have hF:MkF K v v4 st st 0 160:=⟨by omega,r2,r3,r4,.inr (.inr ⟨by decide,rfl,rfl,r5,.inr (.inl hT)⟩)⟩
   have HF:=Lib.hid hF
   clear hF r6 r7 he hT4
   go_wp2
   exact bodyPost_ret (results_tmp2 rfl _ _ _) rfl (MkOut.mk ⟨0,160,v4,st,rfl,h4,HF.out,hN4,hG04.more fun _ hk _ => .inr hk⟩)
  ·obtain⟨A4,c4,rfl,hin4,_⟩:=hE4
   obtain⟨_,hyv⟩:=r6 y rfl
   have hyl:y.length=512:=by rw[hyv];exact hvl
   rw[hyl]
   clear r6 r7 hT4 hvl
   have hin4d:=hin4.drew
   have HNUM:=pnumber_gives w4.drew A4 c4 0 y hin4d hyl (by omega)
   rw[List.drop_zero] at HNUM
   obtain⟨nx,hnx⟩:∃nx:Int,nx=(rfix (y.take 4):Int):=⟨_,rfl⟩
   rw[<-hnx] at HNUM
   have hn0:0<=nx:=by omega
   rw[hyv] at hnx
   have HNX:=Lib.hid hnx
   clear hnx hyv hin4
   have hwm:IntKind.i64.wrap (st.many - 1)=st.many - 1:=wrap_i64_fr _ (by omega) (by omega)
   go_wp2_with fail
   have h4d:=h4.grow (Below.refl _ _).drew
   have b4d:BlkIs w4.drew b 51 (psC st).toArray:=b4
   have hS0:w4.drew.cell? ⟨b,2,none⟩=some (.int .i64 st.many):=(b4d.cell 2).trans (by simp[psC])
   refine RegF.start (fun W':World=>W'.cell? ⟨b,2,none⟩=some (.int .i64 st.many)) 8 (by kernel_rfl) ?_
   refine RegF.t 0 (.slice A4 512 c4) rfl hS0 (fun W hW=>by obtain e0:=hW;go_simp) ?_
   simp only[zD,zB,Act.put,zA,zF,zE]
   refine RegF.t 2 (.pointer (some ⟨b,2,none⟩)) rfl hS0 (fun W hW=>by obtain e0:=hW;go_simp) ?_
   simp only[zD,zC,zB,Act.put,zA,zF,zE]
   refine RegF.t 3 (.int .i64 st.many) rfl hS0 (fun W hW=>by obtain e0:=hW;go_simp) ?_
   simp only[zD,zC,zB,Act.put,zA,zF,zE]
   refine RegF.t 4 (.int .i64 (st.many - 1)) rfl hS0 (fun W hW=>by obtain e0:=hW;go_simp) ?_
   simp only[zD,zC,zB,Act.put,zA,zF,zE]
   refine RegF.one 1 (by kernel_rfl) ?_
   refine RegF.opC 38 #[.tmp 53,.const (.int .i64 0)] #[22,3] rfl rfl rfl (enters_of Tryz.func38 (by kernel_rfl) rfl) #[.slice A4 512 c4,.int .i64 0] (by simp only[zJ,zK,zL];rfl) (HNUM.mono ?_)
   rintro e w5 ⟨rfl,hB5⟩
   have h5:=h4d.grow hB5
   have b5:=b4d.below hB5 b4d.lt
   have hS5:w5.cell? ⟨b,2,none⟩=some (.int .i64 st.many):=(b5.cell 2).trans (by simp[psC])
   refine⟨_,rfl,fun _=>hS5,?_⟩
   simp only[zD,zC,zB,Act.put,zA,zF,zE]
   refine RegF.t 5 (.pointer (some ⟨b,1,none⟩)) rfl hS5 (fun W hW=>by obtain e0:=hW;go_simp) ?_
   simp only[zD,zC,zB,Act.put,zA,zF,zE]
   have cb5:w5.cell? ⟨b,1,none⟩=some (.int .i64 st.first):=(b5.cell 1).trans (by simp[psC])
   have fb5:=b5.free 1
   have b6:=b5.set 1 (.int .i64 nx)
   have h6:=h5.keepB b5 (by simp[hsl]) (fun n=>by simp[psC]) hb0 hmu4 hbf hbp 1 (.int .i64 nx)
   have hG6:GrowBut (K.mu v) W (w5.setCell ⟨b,1,none⟩ (.int .i64 nx)):=(hG04.trans (GrowBut.below ((Below.refl _ _).drew.trans (hB5.mono (zG _))))).setNew hbW
   have ea:(psC st).toArray.setIfInBounds 1 (.int .i64 nx)=(psC { st with first:=nx }).toArray:=by simp[psC]
   rw[ea] at b6
   have hS6:(w5.setCell ⟨b,1,none⟩ (.int .i64 nx)).cell? ⟨b,2,none⟩=some (.int .i64 st.many):=(b6.cell 2).trans (by simp[psC])
   refine RegF.one 6 (by kernel_rfl) (RegF.opS (w':=w5.setCell ⟨b,1,none⟩ (.int .i64 nx)) rfl rfl (by go_simp) ⟨fun _=>hS6,?_⟩)
   simp only[zD,zC,zB,Act.put]
   have fb6:=b6.free 2
   have b7:=b6.set 2 (.int .i64 (st.many - 1))
   have h7:=h6.keepB b6 (by simp[psC_length (s:={ st with first:=nx }) h.hs]) (fun n=>by simp[psC]) hb0 hmu4 hbf hbp 2 (.int .i64 (st.many - 1))
   have hG7:=hG6.setNew (j:=2) (u:=.int .i64 (st.many - 1)) hbW
   generalize w5.setCell ⟨b,1,none⟩ (.int .i64 nx)=w6 at *
   refine RegF.t 7 (.pointer (some ⟨b,2,none⟩)) rfl hS6 (fun W hW=>by obtain e0:=hW;go_simp) ?_
   simp only[zD,zC,zB,Act.put,zA,zF,zE]
   have ea2:(psC { st with first:=nx }).toArray.setIfInBounds 2 (.int .i64 (st.many - 1))=(psC { st with first:=nx,many:=st.many - 1 }).toArray:=by simp[psC]
   rw[ea2] at b7
   refine RegF.one 8 (by kernel_rfl) (RegF.opS (w':=w6.setCell ⟨b,2,none⟩ (.int .i64 (st.many - 1))) rfl rfl (by go_simp) ⟨fun h=>absurd rfl h,RegF.done (by kernel_rfl) ?_⟩)
   simp only[zD,zC,zB,Act.put]
   generalize w6.setCell ⟨b,2,none⟩ (.int .i64 (st.many - 1))=w7a at *
   obtain⟨sx,hsxe⟩:∃sx:PgSt,sx = { st with first:=nx,many:=st.many - 1 }:=⟨_,rfl⟩
   rw[<-hsxe] at b7
   have hsr:sx.roots.length=16:=by rw[hsxe];exact h.hs
   have cz0:w7a.cell? ⟨b,0,none⟩=some (.int .i64 st.size):=(b7.cell 0).trans (by rw[hsxe];simp[psC])
   have cz1:w7a.cell? ⟨b,1,none⟩=some (.int .i64 nx):=(b7.cell 1).trans (by rw[hsxe];simp[psC])
   have cz2:w7a.cell? ⟨b,2,none⟩=some (.int .i64 (st.many - 1)):=(b7.cell 2).trans (by rw[hsxe];simp[psC])
   have HSX:=Lib.hid hsxe
   clear hsxe hS0 hS5 hS6 ea ea2 fb5 fb6 b5 b6 h5 h6 hG6 cb5 hB5 HNUM hin4d h4d b4d b4 h4 hG04
   have hbad:(st.size<=nx∨st.many - 1<0)->MkF K v v4 st st 0 190:=fun hb=>⟨by omega,r2,r3,r4,.inr (.inr ⟨by decide,rfl,rfl,r5,.inr (.inr ⟨hf0,by rw[<-HNX.out];exact hb⟩)⟩)⟩
   have HBAD:=Lib.hid hbad
   clear hbad
   by_cases hb1:st.size<=nx
   ·go_wp2
    exact bodyPost_ret (results_tmp2 rfl _ _ _) rfl (MkOut.mk ⟨0,190,v4,st,rfl,h7,HBAD.out (.inl hb1),hN4,hG7.more fun _ hk _ => .inr hk⟩)
   by_cases hb2:st.many - 1<0
   ·go_wp2
    exact bodyPost_ret (results_tmp2 rfl _ _ _) rfl (MkOut.mk ⟨0,190,v4,st,rfl,h7,HBAD.out (.inr hb2),hN4,hG7.more fun _ hk _ => .inr hk⟩)
   clear HBAD
   go_wp2_with fail
   have hd:=h7.grow (Below.refl _ _).drew
   have bd:BlkIs w7a.drew b 51 (psC sx).toArray:=b7
   have hS0:=hd.chc
   refine RegF.start (fun W':World=>W'.cell? ⟨p,19,none⟩=some (.pointer (some ⟨K.a,0,none⟩))) 99 (by kernel_rfl) ?_
   refine RegF.t0 0 (.pointer (some ⟨p,0,none⟩)) rfl hS0 (fun W hW=>by obtain e0:=hW;go_simp) ?_
   simp only[zD,zB,Act.put,zA,zF,zE]
   refine RegF.t0 1 (.pointer (some ⟨p,0,none⟩)) rfl hS0 (fun W hW=>by obtain e0:=hW;go_simp) ?_
   simp only[zD,zC,zB,Act.put,zA,zF,zE]
   refine RegF.t0 2 (.pointer (some ⟨p,19,none⟩)) rfl hS0 (fun W hW=>by obtain e0:=hW;go_simp) ?_
   simp only[zD,zC,zB,Act.put,zA,zF,zE]
   refine RegF.t0 3 (.pointer (some ⟨K.a,0,none⟩)) rfl hS0 (fun W hW=>by obtain e0:=hW;go_simp) ?_
   simp only[zD,zC,zB,Act.put,zA,zF,zE]
   refine RegF.t0 4 (.int .i64 st.first) rfl hS0 (fun W hW=>by obtain e0:=hW;go_simp) ?_
   simp only[zD,zC,zB,Act.put,zA,zF,zE]
   refine RegF.one 5 (by kernel_rfl) ?_
   refine RegF.opC 44 #[.const (.slice none 0 0)] #[141] rfl rfl rfl (enters_of Tryz.func44 (by kernel_rfl) rfl) #[.slice none 0 0] (by simp only[zJ,zK,zL];rfl) ((ppage_none _).mono ?_)
   rintro e w7 ⟨v7,rfl,own7,hB7⟩
   obtain⟨A7,c7,rfl,hin7⟩:=own7.inB
   have h7:=hd.grow hB7
   refine⟨_,rfl,fun _=>h7.chc,?_⟩
   simp only[zD,zC,zB,Act.put,zA,zF,zE]
   simp only[List.length_replicate]
   refine RegF.one 6 (by kernel_rfl) ?_
   refine RegF.opC 34 #[.tmp 73,.tmp 74,.tmp 75] #[52,3,22] rfl rfl rfl (enters_of Tryz.func34 (by kernel_rfl) rfl) #[.pointer (some ⟨K.a,0,none⟩),.int .i64 st.first,.slice A7 512 c7] (by simp only[zJ,zK,zL];rfl) ((gwrite h7.ca hK (by omega) st.first A7 c7 zeroB rfl hin7).mono ?_)
   rintro e w8 ⟨x,v8,rfl,hC8,e1,e2,e3,e4,hq,hn8,hG8⟩
   have h8:=h7.turn hG8 hC8
   refine⟨_,rfl,fun _=>h8.chc,?_⟩
   simp only[zD,zC,zB,Act.put,zA,zF,zE]
   refine RegF.one 7 (by kernel_rfl) (RegF.opV (w':=w8) (.int .i64 x) rfl rfl (by go_simp) ⟨fun _=>h8.chc,RegF.done (by kernel_rfl) ?_⟩)
   simp only[zD,zC,zB,Act.put,zA,zF,zE]
   have hB07:Below w7a.heap.size w7a w7:=(Below.refl _ _).drew.trans (hB7.mono (zG _))
   have b8:BlkIs w8 b 51 (psC sx).toArray:=hG8.blk (bd.below hB7 bd.lt) hmu4
   have hws:=hG7.size
   have hG8':GrowBut (pgMu K p v) W w8:=((hG7.more (Nu:=fun k=>K.mu v k∨K.mu v4 k) (fun _ hk _ => .inl hk)).trans (((GrowBut.below hB07).trans hG8).more fun _ hk _ => .inr hk)).more (fun k hk hl => .inr (hk.elim id (fun h=>(hN4 k h).elim id (fun e=>by omega))))
   have hN8:Names K W v v8:=fun k hk=>((hn8.mono (zO hws hB07.size)) k hk).elim (fun h=>hN4 k h) .inr
   have hsx:sx.roots.length=16:=hsr
   have hsxl:=psC_length hsx
   have hxx:x=0∨(x=160/\Tight K v.D):=hq.elim (fun h => .inl h.1) (fun h => .inr (by
    rcases h.1 with h1|h1
    ·omega
    ·exact⟨h1.1,by have:=h7.ca.tight h1.2;rw[r5] at this;exact this⟩))
   clear hS0 hd bd hB7 hin7 own7 h7 hC8 hn8 hB07
   by_cases hx:x=0
   ·subst hx
    have hD:v8.D=fun j=>if j=st.first then some zeroB else v.D j:=by
     rcases hq with h1|h1
     ·rw[<-r5];exact h1.2.2
     ·exact absurd h1.1 (by omega)
    have hR8:w8.rangeAt b 0 (psC sx):=fun j u hj=>by
     rw[qG,b8.cell]
     simpa using hj
    have hT8:w8.there p 0 (psC sx).toArray.size:=blk_there h8.pb (by rw[pgC_size' h8.hs h8.hl];simp[hsxl])
    obtain⟨h9,hG9⟩:=h8.setState hsx
    have hF:MkF K v v8 st sx st.first 0:=⟨by omega,e2.trans r2,e3.trans r3,e4.trans r4,.inr (.inl ⟨rfl,hf0,rfl,by rw[HSX.out,HNX.out],hD⟩)⟩
    have HF:=Lib.hid hF
    have H9:=Lib.hid h9
    have HG9:=Lib.hid (hG8'.trans (GrowBut.more hG9 (fun k hk _ => .inl hk)))
    clear hF hD hq h9 hG9 hG8 hG8'
    go_wp2_with (first
     | (refine wp_exec rfl (x_loadM rowPgSt hR8 hsxl rfl rfl) ?_)
     | (refine wpList_store_mid rfl 51 _ _ rfl p 0 (psC sx).toArray rfl rfl hT8 (by simpa[hsxl] using rowPgSt.size) (all_oneCell_toArray (psC_one _)) ?_)
     | (go_at_call 45;refine(ptold_ok _ _).mono ?_;rintro e w' ⟨rfl,rfl⟩))
    exact bodyPost_ret (results_tmp2 rfl _ _ _) rfl (MkOut.mk ⟨st.first,0,v8,_,rfl,H9.out,HF.out,hN8,HG9.out⟩)
   ·have hD:v8.D=v.D:=by
     rcases hq with h1|h1
     ·exact absurd h1.1 hx
     ·exact h1.2.trans r5
    have hF:MkF K v v8 st st 0 x:=⟨by omega,e2.trans r2,e3.trans r3,e4.trans r4,.inr (.inr ⟨hx,rfl,rfl,hD,.inr (.inl (hxx.elim (fun h=>absurd h hx) (fun h=>h.2)))⟩)⟩
    have HF:=Lib.hid hF
    clear hF hD hq hxx hG8
    go_wp2_with (go_at_call 45;refine(ptold_err _ _ _ hx).mono ?_;rintro e w' ⟨rfl,rfl⟩)
    refine bodyPost_ret_by (results_tmp2 rfl _ _ _) rfl ?_
    exact MkOut.mk ⟨0,x,v8,st,rfl,h8,HF.out,hN8,hG8'⟩
end
theorem all_range_ints (xs ys:List Int)(h:xs.length=ys.length):((List.range xs.length).all fun i=>xs.getD i 0 == ys.getD i 0)=(xs == ys):=by
 rw[Bool.eq_iff_iff,qL,beq_iff_eq]
 constructor
 ·intro hi
  refine List.ext_getElem h (fun i h1 h2 => ?_)
  have:=hi i (List.mem_range.2 h1)
  simpa[List.getD,zI h1,zI h2] using this
 ·rintro rfl i _
  simp
theorem run_equalIn_ints (w:World)(d:Nat)(xs ys:List Int)(hx:xs.length=16)(hy:ys.length=16) :
  (Op.equalIn (d+2) 49 (.agg (xs.map (Value.int .i64)).toArray) (.agg (ys.map (Value.int .i64)).toArray)).run Tryz.prog w = .ok (xs == ys) w:=by
 have ht:=Tryz.underlying49
 have he:=Tryz.underlying3
 have hsz:∀w,(sizeOf 3).run Tryz.prog w = .ok 1 w:=fun w=>by simp[go_sem]
 rw[<-all_range_ints xs ys (hx.trans hy.symm),hx,List.range_eq_range',Op.equalIn]
 simp only[Sem.run_bind,run_underlying ht,Result.andThen_ok,hsz,Std.Legacy.Range.forIn_eq_forIn_range',Std.Legacy.Range.size,Nat.sub_zero,Nat.add_sub_cancel,Nat.div_one]
 have hl:∀i∈List.range' 0 16 1,i<16:=fun i hi=>by simpa using(List.mem_range'_1.1 hi).2
 generalize List.range' 0 16 1=l at hl ⊢
 induction l with
 | nil=>simp
 | cons i l ih =>
  have hi:i<16:=hl i (by simp)
  have px:(part 3 (xs.map (Value.int .i64)).toArray (i*1)).run Tryz.prog w = .ok (.int .i64 (xs.getD i 0)) w:=by
   simp[part,isAgg,run_underlying he,List.getD,zI (show i<xs.length by omega)]
  have py:(part 3 (ys.map (Value.int .i64)).toArray (i*1)).run Tryz.prog w = .ok (.int .i64 (ys.getD i 0)) w:=by
   simp[part,isAgg,run_underlying he,List.getD,zI (show i<ys.length by omega)]
  have pe:=run_equalIn_int (P:=Tryz.prog) w d 3 .i64 .i64 (xs.getD i 0) (ys.getD i 0) he
  simp only[List.forIn_cons,Sem.run_bind,px,py,pe,Result.andThen_ok,List.all_cons]
  cases hb:(xs.getD i 0 == ys.getD i 0)
  ·simp
  ·simp only[Bool.not_true,Bool.false_eq_true,if_false,Sem.run_pure,Result.andThen_ok,Bool.true_and]
   exact ih fun j hj=>hl j (by simp[hj])
theorem run_eqSt (w:World)(d:Nat){a b:PgSt}(ha:a.roots.length=16)(hb:b.roots.length=16):(Op.equalIn (d+3) 51 (.agg (psC a).toArray) (.agg (psC b).toArray)).run Tryz.prog w = .ok (a.size == b.size && (a.first == b.first && (a.many == b.many && a.roots == b.roots))) w:=by
 have hp:Tryz.prog.stoodInHeld 51=false:=by kernel_rfl
 have hu:Tryz.prog.underlying 51=some (.struct (Tryz.prog.fieldsOf 51)):=by kernel_rfl
 have hE:=run_equalIn_struct (P:=Tryz.prog) w (d+2) 51 (psC a).toArray (psC b).toArray hu hp
 have p1:∀c:PgSt,(part 3 (psC c).toArray 0).run Tryz.prog w = .ok (.int .i64 c.size) w:=fun c=>by simp[part,psC,go_sem]
 have p2:∀c:PgSt,(part 3 (psC c).toArray 1).run Tryz.prog w = .ok (.int .i64 c.first) w:=fun c=>by simp[part,psC,go_sem]
 have p3:∀c:PgSt,(part 3 (psC c).toArray 2).run Tryz.prog w = .ok (.int .i64 c.many) w:=fun c=>by simp[part,psC,go_sem]
 have p4:∀c:PgSt,c.roots.length=16->(part 49 (psC c).toArray 3).run Tryz.prog w = .ok (.agg (c.roots.map (Value.int .i64)).toArray) w:=fun c hc=>by
  have he:List.take 16 (List.map (Value.int .i64) c.roots)=List.map (Value.int .i64) c.roots:=zW (by rw[qB,hc];exact zG _)
  simp[part,psC,go_sem,he]
 have hf : (Tryz.prog.fieldsOf 51).toList.map (fun f => (f.name, f.type, f.offset)) = [("size", 3, 0), ("first", 3, 1), ("many", 3, 2), ("roots", 49, 3)] := by kernel_rfl
 rw[hE]
 generalize (Tryz.prog.fieldsOf 51).toList=fs at hf
 obtain⟨f0,f1,f2,f3,rfl⟩:∃f0 f1 f2 f3,fs=[f0,f1,f2,f3]:=by
  have hl:fs.length=4:=by simpa using congrArg List.length hf
  match fs,hl with
  | [f0,f1,f2,f3],_=>exact⟨f0,f1,f2,f3,rfl⟩
 simp only[zK,zL,List.cons.injEq,Prod.mk.injEq,and_true] at hf
 obtain⟨⟨n0,t0,o0⟩,⟨n1,t1,o1⟩,⟨n2,t2,o2⟩,n3,t3,o3⟩:=hf
 have q:=fun x y:Int=>run_equalIn_int (P:=Tryz.prog) w (d+1) 3 .i64 .i64 x y Tryz.underlying3
 have q4:=run_equalIn_ints w d a.roots b.roots ha hb
 have d0 : f0.name ≠ "_" := by rw [n0]; simp
 have d1 : f1.name ≠ "_" := by rw [n1]; simp
 have d2 : f2.name ≠ "_" := by rw [n2]; simp
 have d3 : f3.name ≠ "_" := by rw [n3]; simp
 have q1:(Op.equalIn (d+2) 3 (.int .i64 a.size) (.int .i64 b.size)).run Tryz.prog w = .ok (a.size == b.size) w:=q _ _
 have q2:(Op.equalIn (d+2) 3 (.int .i64 a.first) (.int .i64 b.first)).run Tryz.prog w = .ok (a.first == b.first) w:=q _ _
 have q3:(Op.equalIn (d+2) 3 (.int .i64 a.many) (.int .i64 b.many)).run Tryz.prog w = .ok (a.many == b.many) w:=q _ _
 have a1:=p1 a
 have b1:=p1 b
 have a2:=p2 a
 have b2:=p2 b
 have a3:=p3 a
 have b3:=p3 b
 have a4:=p4 a ha
 have b4:=p4 b hb
 clear q p1 p2 p3 p4 hE hp hu
 generalize (psC a).toArray=ax at *
 generalize (psC b).toArray=bx at *
 generalize (.agg (a.roots.map (Value.int .i64)).toArray:Value)=va at *
 generalize (.agg (b.roots.map (Value.int .i64)).toArray:Value)=vb at *
 generalize (a.size == b.size)=r1 at *
 generalize (a.first == b.first)=r2 at *
 generalize (a.many == b.many)=r3 at *
 generalize (a.roots == b.roots)=r4 at *
 rw[Op.eqFields,if_pos d0,Sem.run_bind,t0,o0,a1,Result.andThen_ok,Sem.run_bind,b1,Result.andThen_ok,Sem.run_bind,q1,Result.andThen_ok]
 cases r1
 ·rfl
 show (Op.eqFields (d+2) ax bx [f1,f2,f3]).run Tryz.prog w=_
 rw[Op.eqFields,if_pos d1,Sem.run_bind,t1,o1,a2,Result.andThen_ok,Sem.run_bind,b2,Result.andThen_ok,Sem.run_bind,q2,Result.andThen_ok]
 cases r2
 ·rfl
 show (Op.eqFields (d+2) ax bx [f2,f3]).run Tryz.prog w=_
 rw[Op.eqFields,if_pos d2,Sem.run_bind,t2,o2,a3,Result.andThen_ok,Sem.run_bind,b3,Result.andThen_ok,Sem.run_bind,q3,Result.andThen_ok]
 cases r3
 ·rfl
 show (Op.eqFields (d+2) ax bx [f3]).run Tryz.prog w=_
 rw[Op.eqFields,if_pos d3,Sem.run_bind,t3,o3,a4,Result.andThen_ok,Sem.run_bind,b4,Result.andThen_ok,Sem.run_bind,q4,Result.andThen_ok]
 cases r4<;>rfl
theorem PgSt.beqs (a b:PgSt):(a.size == b.size && (a.first == b.first && (a.many == b.many && a.roots == b.roots)))=true↔a=b:=by
 obtain⟨a1,a2,a3,a4⟩:=a
 obtain⟨b1,b2,b3,b4⟩:=b
 simp
theorem x_neSt {ρ:Operand->Value}{w:World}{o:Oper}{x y:Operand}{a b:PgSt}(ha:a.roots.length=16)(hb:b.roots.length=16)(ho:o.op = .binOp .neq 51 x y 51)(h1:ρ x = .agg (psC a).toArray)(h2:ρ y = .agg (psC b).toArray){r:Bool}(hr:r=true↔a≠b):(execOp ρ o).run Tryz.prog w = .ok (.value (.bool r)) w:=by
 have hm:Tryz.prog.eqGuardType Tryz.prog.depth 51=false:=by kernel_rfl
 have he:=run_eqSt w 9997 ha hb
 have hq:=PgSt.beqs a b
 have hr':(!(a.size == b.size && (a.first == b.first && (a.many == b.many && a.roots == b.roots))))=r:=by
  generalize (a.size == b.size && (a.first == b.first && (a.many == b.many && a.roots == b.roots)))=q at hq
  cases q<;>cases r<;>simp_all
 generalize (psC a).toArray=ax at *
 generalize (psC b).toArray=bx at *
 have e:(9997+3:Nat)=10000:=by decide
 rw[e] at he
 have hb:(binOp .neq 51 (.agg ax) (.agg bx)).run Tryz.prog w = .ok (.bool r) w:=by
  rw[run_neq_struct,he,<-hr']
  rfl
 simp only[execOp,ho,h1,h2,Sem.run_bind,run_eqGuard_agg w .neq 51 x y _ _ hm,Result.andThen_ok,hb,Sem.run_pure]
theorem eqB_gives (w:World)(A A':Option Addr)(c c':Nat)(l l':List UInt8)(h:InB w w.heap.size A c l)(h':InB w w.heap.size A' c' l'):Calls Tryz.prog 40 #[.slice A l.length c,.slice A' l'.length c'] w fun e w'=>e = .returned (.bool (decide (l=l')))/\Below w.heap.size w w':=by
 have hle:=h.le
 have hmax:=h.max
 by_cases hl:l.length=l'.length
 ·have hm2:l'.length<=9223372036854775807:=by have:=h'.le;have:=h'.max;omega
  rw[<-hl]
  have HL:=Lib.hid hl
  clear hl
  go_enter Tryz.func40,Tryz.ntmps40
  go_wp2
  go_loopw [13] (fun i wr=>∃k:Nat,k<=l.length/\i = .int .i64 k/\Hid (l.take k=l'.take k)/\Below w.heap.size w wr) (fun i _=>l.length - (intOf i).toNat)
  case atStart=>exact⟨0,by omega,rfl,Lib.hid (by simp),Below.refl _ _⟩
  case round =>
   obtain⟨k,hk,rfl,HT,hB⟩:=hrel
   by_cases hlt:k<l.length
   ·have hlt2:k<l'.length:=by have:=HL.out;omega
    obtain⟨g,o,rfl,hg,hc⟩:=h.lies (by omega)
    obtain⟨g',o',rfl,hg',hc'⟩:=h'.lies (by omega)
    have d0:wr.cell? ⟨g,o+k,none⟩=some (.int .u8 (l[k].toNat:Int)):=(hB.cell (p:=⟨g,o+k,none⟩) hg).trans (hc k hlt)
    have d1:wr.cell? ⟨g',o'+k,none⟩=some (.int .u8 (l'[k].toNat:Int)):=(hB.cell (p:=⟨g',o'+k,none⟩) hg').trans (hc' k hlt2)
    have e0:wr.drew.cell? ⟨g,o+k,none⟩=some (.int .u8 (l[k].toNat:Int)):=d0
    have e1:wr.drew.cell? ⟨g',o'+k,none⟩=some (.int .u8 (l'[k].toNat:Int)):=d1
    have j1:(k:Int)<(l.length:Int):=by omega
    have j2:(0:Int)<=(k:Int):=by omega
    have hwk:IntKind.i64.wrap ((k:Int)+1)=(k:Int)+1:=wrap_i64_fr _ (by omega) (by omega)
    by_cases he:l[k]=l'[k]
    ·have hnx:Hid (l.take (k+1)=l'.take (k+1)):=Lib.hid (by rw[zU hlt,zU hlt2,HT.out,he])
     rw[<-he] at d1 e1
     generalize l[k]=b at *
     clear he hc hc'
     go_wp2
     go_region
     go_wp2
     exact⟨⟨k+1,by omega,by simp,hnx,hB.drew⟩,by simp[intOf];omega⟩
    ·have hne:¬ l=l':=fun e=>he (by subst e;rfl)
     have hb:¬ (l[k].toNat:Int)=(l'[k].toNat:Int):=fun e=>he (UInt8.toNat_inj.1 (by omega))
     generalize (l[k].toNat:Int)=x at *
     generalize (l'[k].toNat:Int)=y at *
     have HNE:=Lib.hid hne
     clear he hc hc' hne
     go_wp2
     go_region
     go_wp2
     go_ret
     exact⟨by simp[HNE.out],hB.drew⟩
   ·obtain rfl:k=l.length:=by omega
    have he:Hid (l=l'):=Lib.hid (by
     have h1:=HT.out
     rw[List.take_length,HL.out,List.take_length] at h1
     exact h1)
    go_wp2
    go_ret
    exact⟨by simp[he.out],hB⟩
 ·have hl2:¬ (l.length:Int)=(l'.length:Int):=by omega
  have hne:¬ l=l':=fun e=>hl (by rw[e])
  go_enter Tryz.func40,Tryz.ntmps40
  go_wp2
  go_ret
  exact⟨by simp[hne],Below.refl _ _⟩
end Go.Proofs.YtnlimngkagmjpaaGreat
