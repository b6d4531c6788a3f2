/- Texts that the proof of TreeNone leans on, part 12. -/
import Derived.Shelf.Strings.Builder1
import Derived.Test.YtpibjkbadnffgaaGreatTreeNoneB11
open List renaming map_toArray → zK, map_cons → zL, map_nil → zN, getElem_toArray → zE, getElem_cons_zero → zB, setIfInBounds_toArray → zA, set_cons_zero → zG, set_cons_succ → zF, getElem_cons_succ → zD, mem_append → qK, mem_singleton → qN, getElem_mem → qF, replicate → zR, cons_append → qB, nil_append → zV, getElem?_eq_getElem → zM, length_append → zJ
open Nat renaming zero_add → qC, le_refl → zH, le_trans → zU, lt_of_lt_of_le → zO
open Array renaming getElem?_setIfInBounds → zQ
set_option linter.unusedVariables false
set_option maxRecDepth 100000
set_option maxHeartbeats 8000000

namespace Go.Proofs.YtpibjkbadnffgaaGreat
open Go Go.RowKit Lou
section
variable {w:World}{o:Oper}{ρ:Operand->Value}{x y:Operand}
theorem fold_size (l:List (Value×Nat)):∀a:Array Value,(l.foldl (λcs x=>cs.setIfInBounds x.snd x.fst) a).size=a.size:=by
 induction l with
 | nil=>intro a;rfl
 | cons b l ih=>intro a;rw[List.foldl_cons,ih];simp
theorem fold0s (c:List Value)(m:Value)(arr:Array Value)(hs:arr.size=c.length+1):(c.zipIdx.foldl (λcs x=>cs.setIfInBounds x.snd x.fst) arr).setIfInBounds c.length m=(c++[m]).toArray:=by
 apply Array.ext_getElem?
 intro j
 have h:=fold_get 0 c 0 arr
 simp only[qC] at h
 have e:(c++[m]).toArray[j]? = (c++[m])[j]?:=by simp
 rw[e,zQ,fold_size]
 by_cases d:c.length=j
 ·subst d
  rw[if_pos rfl,if_pos (by omega),List.getElem?_append_right (zH _)]
  simp
 ·rw[if_neg d,h j]
  by_cases h2:j<c.length
  ·rw[if_pos (by omega),List.getElem?_append_left h2]
   rfl
  ·rw[if_neg (by omega),Array.getElem?_eq_none (by omega),List.getElem?_eq_none (by simp;omega)]
theorem x_buildMk (s:PgSt)(hs:s.roots.length=16)(M:Nat)(D:Int->Option (List UInt8))(c:o.op = .build 208 #[(0,x),(1,y)])(h1:ρ x = .agg (psC s).toArray)(h2:ρ y = .map (some M)):(execOp ρ o).run Tryz.prog w = .ok (.value (.agg (mkC ⟨s,M,D⟩).toArray)) w:=by
 have hl:=psC_length hs
 have key:=fold0s (psC s) (.map (some M)) #[.int .i64 0,.int .i64 0,.int .i64 0,.int .i64 0,.int .i64 0,.int .i64 0,.int .i64 0,.int .i64 0,.int .i64 0,.int .i64 0,.int .i64 0,.int .i64 0,.int .i64 0,.int .i64 0,.int .i64 0,.int .i64 0,.int .i64 0,.int .i64 0,.int .i64 0,.map none] (by rw[hl];rfl)
 rw[hl] at key
 simp[execOp,c,h1,h2,go_sem,mkC,Result.andThen,hl,key,fold_size]
theorem x_sliceMk (m:MkT)(d:m.s.roots.length=16)(e:o.op = .buildSlice 102 1 #[(0,x)])(h1:ρ x = .agg (mkC m).toArray):(execOp ρ o).run Tryz.prog w = .ok (.value (.slice (some ⟨w.heap.size,0,none⟩) 1 1)) (w.alloc (.cells (mkC m).toArray 208)):=by
 have c:=mkC_length d
 have key:=λarr hs=>fold0 (mkC m) arr hs
 rw[c] at key
 simp[execOp,e,h1,go_sem,Result.andThen,c,key]
end
section
variable {w:World}{ops:Array Oper}{i:Nat}{o:Oper}{a:Act}{Q:Exit->Act->World->Prop}{K:Act->World->Prop}
theorem opAppM (g:ops[i]? = some o)(f:o.guard=none){S:TypeId}(s x:Operand)(hc:o.op = .call { callee:=.builtin .append,args:=#[s,x],argTypes:=#[S,S] })
  (v c v':Value) (w':World) (hs:a.eval s=v) (e:a.eval x=c) (d:(Builtin.append_ #[S,S] o.type #[v,c]).run Tryz.prog w = .ok v' w') (h:K (a.put o.dst v') w'):wpOp Tryz.prog ops Q i K a w:=by
 refine RegF.opV v' g f (w':=w') ?_ h
 unfold execOp
 simp only[hc,resolve,invoke,builtin,Sem.run_bind,Sem.run_pure,Result.andThen_ok,zK,zL,zN,hs,e,d]
end
section
variable {W0 W W':World}{K:PgK}{p:Nat}{v v':PgV}{st last:PgSt}{under:Bool}{mk:Value}{ms:List MkT}
theorem CaAt.dkeys (h:CaAt W0 K v W):∀k y,v.D k=some y->0<=k/\k<(K.P:Int):=λk y c=>by
 have h1:=dirF_some.1 c
 have:=(h.ro k y true h1).1
 exact this
theorem CaAt.mkOk (h:CaAt W0 K v W):MkOk K v.D:=⟨h.dkeys,by
 have h1:cntD K.P v.D<=cntR K.P v.c.V:=nodup_len (List.nodup_range.filter _) (λk d=>by
  rw[List.mem_filter,List.mem_range] at d
  rw[keysV_row]
  refine⟨d.1,?_⟩
  obtain⟨y,f⟩:=Option.isSome_iff_exists.1 d.2
  have h2:=dirF_some.1 f
  cases e:v.c.V (k:Int) with
  | none=>rw[show v.R (k:Int)=none from rowsR_none e] at h2;cases h2
  | some x=>rfl)
 have:=h.cn
 omega⟩
theorem pmark_gives (h:PaIs W0 K p v st last true mk W)(hK:K.Ok)(hM:MksIs W0 K v ms mk W)(hn:ms.length<=900) :
  Calls Tryz.prog 75 #[.pointer (some ⟨p,0,none⟩)] W λe w'=>∃M mk',e = .returned (.tuple #[.int .i64 (ms.length:Int),.int .i64 0])/\PaIs W0 K p v st last true mk' w'/\MksIs W0 K v (ms++[⟨st,M,v.D⟩]) mk' w'/\GrowBut (λk=>k=p∨mkMu mk k) W w':=by
 have HA:=h.asked0 true
 have aM:=psC_length h.hs
 have aP:=h.ca.cs.fh.up.size
 have aK:=h.ca.lts
 have aA:=h.ca.mkOk
 go_enter Tryz.func75,Tryz.ntmps75
 go_wp2_with (go_at_call 56;refine HA.mono ?_;rintro e w1 ⟨rfl,aB⟩)
 obtain⟨w1d,aD⟩:∃x,x=w1.drew:=⟨_,rfl⟩
 have B:Below W.heap.size W w1d:=by rw[aD];exact aB.trans ((Below.refl _ _).drew.mono aB.size)
 have h1:=h.grow B
 have aJ:=hM.grow B
 have d:w1d.rangeAt p 0 (psC st)/\w1d.cell? ⟨p,40,none⟩=some mk:=⟨h1.stRange,h1.mks⟩
 have HD:=callsIn_wide.1 (pdirty_in 10 (zH _) h1 hK)
 refine RegF.start (λW':World=>W'.rangeAt p 0 (psC st)/\W'.cell? ⟨p,40,none⟩=some mk) 16 (by kernel_rfl) ?_
 rw[<-aD]
 refine RegF.t 0 (.pointer (some ⟨p,0,none⟩)) rfl d (λW ⟨c,f⟩=>by go_simp) ?_
 simp only[zE,zB,Act.put,zA,zG,zF]
 refine RegF.t 1 (.pointer (some ⟨p,0,none⟩)) rfl d (λW ⟨c,f⟩=>by go_simp) ?_
 simp only[zE,zD,zB,Act.put,zA,zG,zF]
 refine RegF.t 2 (.pointer (some ⟨p,0,none⟩)) rfl d (λW ⟨c,f⟩=>by go_simp) ?_
 simp only[zE,zD,zB,Act.put,zA,zG,zF]
 refine RegF.t 3 (.pointer (some ⟨p,40,none⟩)) rfl d (λW ⟨c,f⟩=>by go_simp) ?_
 simp only[zE,zD,zB,Act.put,zA,zG,zF]
 refine RegF.t 4 (mk) rfl d (λW ⟨c,f⟩=>by go_simp) ?_
 simp only[zE,zD,zB,Act.put,zA,zG,zF]
 refine RegF.t 5 (.pointer (some ⟨p,0,none⟩)) rfl d (λW ⟨c,f⟩=>by go_simp) ?_
 simp only[zE,zD,zB,Act.put,zA,zG,zF]
 refine RegF.t 6 (.pointer (some ⟨p,0,none⟩)) rfl d (λW ⟨c,f⟩=>by go_simp) ?_
 simp only[zE,zD,zB,Act.put,zA,zG,zF]
 refine RegF.t 7 (.pointer (some ⟨p,0,none⟩)) rfl d (λW ⟨c,f⟩=>by go_simp) ?_
 simp only[zE,zD,zB,Act.put,zA,zG,zF]
 refine RegF.t 8 (.agg (psC st).toArray) rfl d (λW ⟨c,f⟩=>by exact x_loadM rowPgSt c aM rfl rfl) ?_
 simp only[zE,zD,zB,Act.put,zA,zG,zF]
 refine RegF.t 9 (.pointer (some ⟨p,0,none⟩)) rfl d (λW ⟨c,f⟩=>by go_simp) ?_
 simp only[zE,zD,zB,Act.put,zA,zG,zF]
 refine RegF.one 10 (by kernel_rfl) ?_
 refine RegF.opC 126 #[.tmp 19] #[23] rfl rfl rfl (enters_of Tryz.func126 (by kernel_rfl) rfl) #[.pointer (some ⟨p,0,none⟩)] (by simp only[zK,zL,zN];rfl) (HD.mono ?_)
 rintro e g ⟨M,rfl,aF,aO,C⟩
 have h2:=h1.grow C
 have Z:=aJ.grow C
 have S:g.rangeAt p 0 (psC st)/\g.cell? ⟨p,40,none⟩=some mk:=⟨h2.stRange,h2.mks⟩
 refine⟨_,rfl,λ_=>S,?_⟩
 simp only[zE,zD,zB,Act.put,zA,zG,zF]
 refine RegF.one 11 (by kernel_rfl) (RegF.opV (w':=g) _ rfl rfl (x_buildMk st h.hs M v.D rfl rfl rfl) ⟨λ_=>S,?_⟩)
 simp only[zE,zD,zB,Act.put,zA,zG,zF]
 obtain⟨w3,V⟩:∃x,x=g.alloc (.cells (mkC ⟨st,M,v.D⟩).toArray 208):=⟨_,rfl⟩
 have E:Below g.heap.size g w3:=by rw[V];exact(Below.refl _ _).alloc (zH _) _
 have G:=h2.grow E
 have u:=Z.grow E
 have aC:=aF.grow E
 have aG:BlkIs w3 g.heap.size 208 (mkC ⟨st,M,v.D⟩).toArray:=by rw[V];exact BlkIs.new _ _ _
 have aI:w3.rangeAt p 0 (psC st)/\w3.cell? ⟨p,40,none⟩=some mk:=⟨G.stRange,G.mks⟩
 refine RegF.one 12 (by kernel_rfl) (RegF.opV (w':=w3) _ rfl rfl (by rw[V];exact x_sliceMk ⟨st,M,v.D⟩ h.hs rfl rfl) ⟨λ_=>aI,?_⟩)
 simp only[zE,zD,zB,Act.put,zA,zG,zF]
 have I:Below W.heap.size W w3:=B.trans ((C.trans (E.mono C.size)).mono B.size)
 obtain⟨mk',w4,T,N,F,aE⟩:=u.row.append 102 (by omega) (by have:=I.size;omega) ⟨st,M,v.D⟩ h.hs g.heap.size aG
 have H:∀k,mkMu mk k->MkBlk w3 k:=λk r=>(u.row.blk k r).1
 have j:=G.keepM F H (λk r=>(u.row.blk k r).2)
 have U:MksIs W0 K v (ms++[⟨st,M,v.D⟩]) mk' w4:=⟨N,λx q=>by
  rcases qK.1 q with q|q
  ·exact⟨(u.maps x q).1.keepM F H,(u.maps x q).2⟩
  ·rw[qN] at q
   subst q
   exact⟨aC.keepM F H,λe=>by have h7:M<W.heap.size:=aK _ e;have:=B.size;omega,aA⟩⟩
 have s:w4.rangeAt p 0 (psC st)/\w4.cell? ⟨p,40,none⟩=some mk:=⟨j.stRange,j.mks⟩
 obtain⟨L,c4,rfl,_⟩:=N.has
 have aH:(ms++[(⟨st,M,v.D⟩:MkT)]).length=ms.length+1:=by simp
 rw[aH] at T aE U
 refine RegF.one 13 (by kernel_rfl) (opAppM rfl rfl (.tmp 14) (.tmp 22) rfl mk _ _ w4 rfl rfl T ⟨λ_=>s,?_⟩)
 simp only[zE,zD,zB,Act.put,zA,zG,zF]
 have aN:=j.mks
 have f4:=j.pb.free 40
 obtain⟨P,O⟩:=j.setMarks (mk':=.slice L (ms.length+1) c4)
 have X:=U.own j O
 refine RegF.one 14 (by kernel_rfl) (RegF.opV (w':=w4) (.pointer (some ⟨p,0,none⟩)) rfl rfl (by obtain⟨c,f⟩:=s;go_simp) ⟨λ_=>s,?_⟩)
 simp only[zE,zD,zB,Act.put,zA,zG,zF]
 refine RegF.one 15 (by kernel_rfl) (RegF.opV (w':=w4) (.pointer (some ⟨p,40,none⟩)) rfl rfl (by obtain⟨c,f⟩:=s;go_simp) ⟨λ_=>s,?_⟩)
 simp only[zE,zD,zB,Act.put,zA,zG,zF]
 refine RegF.one 16 (by kernel_rfl) (RegF.opS (w':=w4.setCell ⟨p,40,none⟩ (.slice L (ms.length+1) c4)) rfl rfl (by go_simp) ⟨λh=>absurd rfl h,RegF.done (by kernel_rfl) ?_⟩)
 simp only[zE,zD,zB,Act.put]
 have c5:=P.mks
 have hW:IntKind.i64.wrap (((ms.length+1:Nat):Int) - 1)=(ms.length:Int):=by rw[show ((ms.length+1:Nat):Int) - 1=(ms.length:Int) by omega];exact wrap_i64_fr _ (by omega) (by omega)
 have aL:GrowBut (λk=>k=p∨mkMu mk k) W (w4.setCell ⟨p,40,none⟩ (.slice L (ms.length+1) c4)):=(GrowBut.below I).trans ((F.more λk r _ => .inr r).trans (O.more λk r _ => .inl r))
 have H5:=Lib.hid P
 have HM:=Lib.hid X
 have HG:=Lib.hid aL
 clear h h1 h2 G j hM aJ Z u U N F aE T H d S aI s aF aC aG B C E I HD HA aA aK aL X P O f4 aN aH
 go_wp2
 go_ret2
 exact⟨M,_,rfl,H5.out,HM.out,HG.out⟩
end
end Go.Proofs.YtpibjkbadnffgaaGreat
namespace Go.Proofs.YtpibjkbadnffgaaGreat
open Go Go.RowKit Lou Go.Shelf Go.Sort

end Go.Proofs.YtpibjkbadnffgaaGreat
namespace Go.Proofs.YtpibjkbadnffgaaGreat
open Go Go.RowKit Lou
section
variable {ρ:Operand->Value}{w:World}{o:Oper}{x z m:Operand}
theorem x_cutM {g n c k:Nat}(h:o.op = .slice 102 x none (some z) (some m))(h1:ρ x = .slice (some ⟨g,0,none⟩) n c)(e:ρ z = .int .i64 (k:Int))(d:ρ m = .int .i64 (k:Int))(hn:k<=c) :
  (execOp ρ o).run Tryz.prog w = .ok (.value (.slice (some ⟨g,0,none⟩) k k)) w:=by
 have ht:Tryz.prog.underlying 102=some (.slice (Tryz.prog.elem 102)):=by kernel_rfl
 have f:(k:Int)<=(c:Int):=by omega
 simp[execOp,h,h1,e,d,go_sem,run_sliceAt_slice _ _ _ _ _ _ ht,Result.andThen,f]
end
section
variable {W0 W W':World}{K:PgK}{p:Nat}{v v':PgV}{st last:PgSt}{under:Bool}{mk:Value}{ms:List MkT}
theorem CaAt.notTyK (h:CaAt W0 K v W){k:Nat}{T:TypeId}{cs:Array Value}(d:BlkIs W k T cs)(h1:T≠109)(h2:T≠183)(e:T≠171)(c:T≠175):¬ K.mu v k:=λf=>by
 exact CaIs.notTy h.cs.ca d e c f
theorem RowM.elem {B:Nat}(h:RowM B W mk ms)(n:Nat)(hn:n<ms.length):∃g c,mk = .slice (some ⟨g,0,none⟩) ms.length c/\ms.length<=c/\g<W.heap.size/\W.rangeAt g (n*20) (mkC ms[n]):=by
 obtain⟨A,c,e,h1,_,r,E⟩:=h.has
 cases A with
 | none=>have:=r rfl;omega
 | some a =>
  obtain⟨g,F,rfl,_,f,_,_,u⟩:=E a rfl
  refine⟨g,c,e,h1,f.lt,λj x d => ?_⟩
  have s:=mksC_elem h.rts n hn
  have q:=(List.getElem?_eq_some_iff.1 d).1
  rw[mkC_length (h.rts _ (qF hn))] at q
  rw[f.cell,List.getElem?_toArray]
  rw[<-s,List.getElem?_take_of_lt q,List.getElem?_drop,<-u] at d
  have C:=(List.getElem?_eq_some_iff.1 d).1
  rw[List.getElem?_take_of_lt (by simp at C;omega)] at d
  exact d
end
section
variable {W0 W W':World}{K:PgK}{p:Nat}{v v' v9:PgV}{st last:PgSt}{mk:Value}{ms:List MkT}{D:Int->Option (List UInt8)}{A:Option Addr}{ks:List Nat}{b i:Nat}{cs:Array Value}{wr w9:World}
end
theorem cfile_gives {w:World}{a f r P:Nat}{room now hh mm:Int}{V:RowsV}(h:CaIs w a f r P room now hh mm V):Calls Tryz.prog 156 #[.pointer (some ⟨a,0,none⟩)] w λe w'=>e = .returned (.pointer (some ⟨f,0,none⟩))/\w=w':=by
 have c:=cnone_gives h.cb
 have c0:w.cell? ⟨a,0,none⟩=some (.pointer (some ⟨f,0,none⟩)):=(h.cb.cell _).trans rfl
 go_enter Tryz.func156,Tryz.ntmps156
 go_wp2_with (go_at_call 103;refine c.mono ?_;rintro e w' ⟨rfl,rfl⟩)
 go_ret
 exact⟨rfl,rfl⟩
def Tight (K:PgK)(D:Int->Option (List UInt8)):Prop:=∀l:List Nat,(∀p b,D p=some b->p.toNat∈l)->K.room<=(l.length:Int)
theorem CaAt.tight {W0 W:World}{K:PgK}{v:PgV}(h:CaAt W0 K v W)(hn:NoRoom K.P K.room v.c.V):Tight K v.D:=λl hl=>hn.dirty (λp b e=>hl p b (dirF_some.2 e)) (λk u e=>(h.ro k u.y u.d (rowsR_some e)).1.1)
def zeroB:List UInt8:=zR 512 0
structure MkF (K:PgK)(v v':PgV)(st st':PgSt)(n x:Int):Prop where
 nn:v'.N<=v.N+2
 ii:v'.i=v.i
 yy:v'.Y K=v.Y K
 sz:v'.S.sz=v.S.sz
 dd:(x=0/\st.first=0/\n=st.size/\st.size<K.pg/\st' = { st with size:=st.size+1 }/\v'.D=λj=>if j=n then some zeroB else v.D j) ∨
  (x=0/\st.first≠0/\n=st.first/\st' = { st with first:=(rfix ((v.view K st.first.toNat).take 4):Int),many:=st.many - 1 }/\v'.D=λj=>if j=n then some zeroB else v.D j) ∨
  (x≠0/\n=0/\st'=st/\v'.D=v.D/\((st.first=0/\K.pg<=st.size/\x=160)∨Tight K v.D∨(st.first≠0/\(st.size<=(rfix ((v.view K st.first.toNat).take 4):Int)∨st.many - 1<0))))
theorem x_allocPgSt {ρ:Operand->Value}{o:Oper}{w:World}(c:o.op = .alloc 100):(execOp ρ o).run Tryz.prog w = .ok (.value (.pointer (some ⟨w.heap.size,0,none⟩))) (w.alloc (.cells #[.int .i64 0,.int .i64 0,.int .i64 0,.int .i64 0,.int .i64 0,.int .i64 0,.int .i64 0,.int .i64 0,.int .i64 0,.int .i64 0,.int .i64 0,.int .i64 0,.int .i64 0,.int .i64 0,.int .i64 0,.int .i64 0,.int .i64 0,.int .i64 0,.int .i64 0] 100)):=by
 simp[execOp,c,Instr.alloc,newVar,newRow,go_sem,Result.andThen]
theorem GrowBut.setNew {Mu:Nat->Prop}{a c:World}(h:GrowBut Mu a c){b j:Nat}{u:Value}(e:a.heap.size<=b):GrowBut Mu a (c.setCell ⟨b,j,none⟩ u) :=
 ⟨h.os,h.tape,h.output,by simpa using h.size,λk d hn=>(Below.heap_setCell c ⟨b,j,none⟩ u k (by show k≠b;omega)).trans (h.block k d hn)⟩
theorem PaIs.keepB {W0 X:World}{K:PgK}{p:Nat}{v:PgV}{st last:PgSt}{under:Bool}{mk:Value}(h:PaIs W0 K p v st last under mk X){b:Nat}{T:TypeId}{cs:Array Value}(c:BlkIs X b T cs)(hs:cs.size<=64)(s:∀n,cs[0]? ≠ some (.int .u64 n))(B:W0.heap.size<=b)(r:¬ K.mu v b)(hf:b≠K.f)(q:b≠p)(j:Nat)(u:Value):PaIs W0 K p v st last under mk (X.setCell ⟨b,j,none⟩ u):=by
 have d:GrowBut (λk=>k=b) X (X.setCell ⟨b,j,none⟩ u):=GrowBut.setCell _ _ _ rfl
 have g:SmBlk X b:=⟨.inr (.inl ⟨T,cs,c,hs,s⟩),.inr (.inl ⟨T,cs,c,hs⟩)⟩
 exact⟨h.ca.keep d (λk e=>by subst e;exact g) (λk e=>by subst e;exact B) (λk e=>by subst e;exact⟨r,hf⟩),d.blk h.pb (λe=>q e.symm),h.np,h.hs,h.hl⟩
def MkOut (W0:World)(K:PgK)(p:Nat)(v:PgV)(st last:PgSt)(mk:Value)(W:World)(e:Ending)(w':World):Prop:=∃n x v' st',e = .returned (.tuple #[.int .i64 n,.int .i64 x])/\PaIs W0 K p v' st' last true mk w'/\MkF K v v' st st' n x/\Names K W v v'/\GrowBut (pgMu K p v) W w'
theorem MkOut.mk {W0:World}{K:PgK}{p:Nat}{v:PgV}{st last:PgSt}{mk:Value}{W:World}{e:Ending}{w':World}(h:∃n x v' st',e = .returned (.tuple #[.int .i64 n,.int .i64 x])/\PaIs W0 K p v' st' last true mk w'/\MkF K v v' st st' n x/\Names K W v v'/\GrowBut (pgMu K p v) W w'):MkOut W0 K p v st last mk W e w':=h
-- THE WALK
section
variable {W0 W:World}{K:PgK}{p:Nat}{v:PgV}{st last:PgSt}{mk:Value}
theorem pmake_gives (h:PaIs W0 K p v st last true mk W)(hK:K.Ok)(hN:v.N<=700000)(cG:1<=st.size/\st.size<=(K.P:Int))(hf:0<=st.first/\st.first<(K.P:Int))(hm:0<=st.many/\st.many<=1000)(cC:¬ st.first=0->(v.D st.first).isSome=true) :
  Calls Tryz.prog 98 #[.pointer (some ⟨p,0,none⟩)] W (MkOut W0 K p v st last mk W):=by
 have HA:=h.asked0 true
 have aO:=psC_length h.hs
 have cF:=hK.P2
 have cI:=hK.hP
 go_enter Tryz.func98,Tryz.ntmps98
 go_wp2_with (go_at_call 56;refine HA.mono ?_;rintro e w1 ⟨rfl,a3⟩)
 obtain⟨w1d,bF⟩:∃x,x=w1.drew:=⟨_,rfl⟩
 have aL:Below W.heap.size W w1d:=by rw[bF];exact a3.trans ((Below.refl _ _).drew.mono a3.size)
 have h1:=h.grow aL
 have d:w1d.rangeAt p 0 (psC st)/\w1d.cell? ⟨p,1,none⟩=some (.int .i64 st.first):=⟨h1.stRange,h1.fic⟩
 refine RegF.start (λW':World=>W'.rangeAt p 0 (psC st)/\W'.cell? ⟨p,1,none⟩=some (.int .i64 st.first)) 99 (by kernel_rfl) ?_
 rw[<-bF]
 refine RegF.t0 0 (.pointer (some ⟨p,0,none⟩)) rfl d (λW ⟨e0,L⟩=>by go_simp) ?_
 simp only[zE,zB,Act.put,zA,zG,zF]
 refine RegF.t0 1 (.pointer (some ⟨p,0,none⟩)) rfl d (λW ⟨e0,L⟩=>by go_simp) ?_
 simp only[zE,zD,zB,Act.put,zA,zG,zF]
 refine RegF.t0 2 (.pointer (some ⟨p,0,none⟩)) rfl d (λW ⟨e0,L⟩=>by go_simp) ?_
 simp only[zE,zD,zB,Act.put,zA,zG,zF]
 refine RegF.t0 3 (.agg (psC st).toArray) rfl d (λW ⟨e0,L⟩=>by exact x_loadM rowPgSt e0 aO rfl rfl) ?_
 simp only[zE,zD,zB,Act.put,zA,zG,zF]
 refine RegF.t0 4 (.pointer (some ⟨p,0,none⟩)) rfl d (λW ⟨e0,L⟩=>by go_simp) ?_
 simp only[zE,zD,zB,Act.put,zA,zG,zF]
 refine RegF.t0 5 (.pointer (some ⟨p,0,none⟩)) rfl d (λW ⟨e0,L⟩=>by go_simp) ?_
 simp only[zE,zD,zB,Act.put,zA,zG,zF]
 refine RegF.t0 6 (.pointer (some ⟨p,0,none⟩)) rfl d (λW ⟨e0,L⟩=>by go_simp) ?_
 simp only[zE,zD,zB,Act.put,zA,zG,zF]
 refine RegF.t0 7 (.pointer (some ⟨p,1,none⟩)) rfl d (λW ⟨e0,L⟩=>by go_simp) ?_
 simp only[zE,zD,zB,Act.put,zA,zG,zF]
 refine RegF.t0 8 (.int .i64 st.first) rfl d (λW ⟨e0,L⟩=>by go_simp) ?_
 simp only[zE,zD,zB,Act.put,zA,zG,zF]
 obtain⟨b,hb⟩:∃b,b=w1d.heap.size:=⟨_,rfl⟩
 obtain⟨w2,aS⟩:∃w2,w2=w1d.alloc (.cells #[.int .i64 0,.int .i64 0,.int .i64 0,.int .i64 0,.int .i64 0,.int .i64 0,.int .i64 0,.int .i64 0,.int .i64 0,.int .i64 0,.int .i64 0,.int .i64 0,.int .i64 0,.int .i64 0,.int .i64 0,.int .i64 0,.int .i64 0,.int .i64 0,.int .i64 0] 100):=⟨_,rfl⟩
 have b2:BlkIs w2 b 100 #[.int .i64 0,.int .i64 0,.int .i64 0,.int .i64 0,.int .i64 0,.int .i64 0,.int .i64 0,.int .i64 0,.int .i64 0,.int .i64 0,.int .i64 0,.int .i64 0,.int .i64 0,.int .i64 0,.int .i64 0,.int .i64 0,.int .i64 0,.int .i64 0,.int .i64 0]:=by rw[aS,hb];exact BlkIs.new _ _ _
 have a4:Below w1d.heap.size w1d w2:=by rw[aS];exact(Below.refl _ _).alloc (zH _) _
 have h2:=h1.grow a4
 have bS:w2.rangeAt p 0 (psC st)/\w2.cell? ⟨p,1,none⟩=some (.int .i64 st.first):=⟨h2.stRange,h2.fic⟩
 refine RegF.one 9 (by kernel_rfl) (RegF.opV (w':=w2) (.pointer (some ⟨b,0,none⟩)) rfl rfl (by rw[aS,hb];exact x_allocPgSt rfl) ⟨λ_=>bS,?_⟩)
 simp only[zE,zD,zB,Act.put,zA,zG,zF]
 obtain⟨w3,aU⟩:∃w3,w3=w2.setRow b (psC st).toArray:=⟨_,rfl⟩
 have I:BlkIs w3 b 100 (psC st).toArray:=by rw[aU];exact b2.setRow _
 have bB:Below w1d.heap.size w1d w3:=by rw[aU];exact below_setRow a4 (by rw[hb];exact zH _) _
 have C:=h1.grow bB
 have bE:w3.rangeAt p 0 (psC st)/\w3.cell? ⟨p,1,none⟩=some (.int .i64 st.first):=⟨C.stRange,C.fic⟩
 refine RegF.one 10 (by kernel_rfl) (RegF.opS (w':=w3) rfl rfl (by rw[aU];exact x_storeW _ _ _ rfl b rfl rfl rowPgSt b2 rfl (by simp[aO]) (by simpa using psC_one st)) ⟨λ_=>bE,?_⟩)
 simp only[zE,zD,zB,Act.put]
 refine RegF.one 11 (by kernel_rfl) (RegF.opV (w':=w3) (.int .i64 st.first) rfl rfl (by go_simp) ⟨λ_=>bE,RegF.done (by kernel_rfl) ?_⟩)
 simp only[zE,zD,zB,Act.put,zA,zG,zF]
 have U:Below W.heap.size W w3:=aL.trans (bB.mono aL.size)
 have a6:W.heap.size<=b:=by rw[hb];exact aL.size
 have aM:¬ K.mu v b:=λg=>by have:=h1.ca.lts _ g;omega
 have a9:b≠K.f:=by have:=h1.ca.cs.fh.fb.lt;omega
 have a7:b≠p:=by have:=h1.pb.lt;omega
 have a1:W0.heap.size<=b:=by have:=h.ca.cs.fh.up.size;omega
 clear d bS bE aS aU b2 h2 HA h1 a3 aL a4 bF hb bB
 by_cases aG:st.first=0
 ·have bU:w3.cell? ⟨b,0,none⟩=some (.int .i64 st.size):=(I.cell 0).trans (by simp[psC])
  have aY:=C.chc
  have bX:=planPages K.fr K.pg
  have cE:IntKind.i64.wrap (st.size+1)=st.size+1:=wrap_i64_fr _ (by omega) (by omega)
  by_cases bY:K.pg<=st.size
  ·have hF:MkF K v v st st 0 160:=⟨by omega,rfl,rfl,rfl,.inr (.inr ⟨by decide,rfl,rfl,rfl,.inl ⟨aG,bY,rfl⟩⟩)⟩
   have O:=Lib.hid hF
   clear hF
   go_wp2_with (first
    | (go_at_call 156;refine(cfile_gives C.ca.cs.ca).mono ?_;rintro e w4 ⟨rfl,rfl⟩)
    | (go_at_call 114;refine(fplan_gives C.ca.cs.fh.fb).mono ?_;rintro e w4 ⟨rfl,T⟩))
   exact bodyPost_ret (results_tmp2 rfl _ _ _) rfl (MkOut.mk ⟨0,160,v,st,rfl,C.grow T,O.out,λk g => .inl g,GrowBut.below (U.trans (T.mono U.size))⟩)
  ·go_wp2_with (first
    | (go_at_call 156;refine(cfile_gives C.ca.cs.ca).mono ?_;rintro e w4 ⟨rfl,rfl⟩)
    | (go_at_call 114;refine(fplan_gives C.ca.cs.fh.fb).mono ?_;rintro e w4 ⟨rfl,T⟩;have b0:=(T.cell (p:=⟨b,0,none⟩) I.lt).trans bU;have b1:=(I.below T I.lt).free 0))
   have b4:=I.below T I.lt
   have h4:=C.grow T
   have X:GrowBut (K.mu v) W w4:=GrowBut.below (U.trans (T.mono U.size))
   have M:=b4.set 0 (.int .i64 (st.size+1))
   have ea:(psC st).toArray.setIfInBounds 0 (.int .i64 (st.size+1))=(psC { st with size:=st.size+1 }).toArray:=by simp[psC]
   rw[ea] at M
   obtain⟨q,E⟩:∃q:PgSt,q = { st with size:=st.size+1 }:=⟨_,rfl⟩
   rw[<-E] at M
   have aW:q.roots.length=16:=by rw[E];exact h.hs
   have a5:=Lib.hid E
   clear E
   have h5:=h4.keepB b4 (by simp[aO]) (λn=>by simp[psC]) a1 aM a9 a7 0 (.int .i64 (st.size+1))
   have bR:GrowBut (K.mu v) W (w4.setCell ⟨b,0,none⟩ (.int .i64 (st.size+1))):=X.setNew a6
   generalize w4.setCell ⟨b,0,none⟩ (.int .i64 (st.size+1))=w5 at *
   clear ea b4 h4 X b0 b1 T bU aY C I U bX
   go_wp2_with fail
   have hd:=h5.grow (Below.refl _ _).drew
   have bd:BlkIs w5.drew b 100 (psC q).toArray:=M
   have d:=hd.chc
   refine RegF.start (λW':World=>W'.cell? ⟨p,19,none⟩=some (.pointer (some ⟨K.a,0,none⟩))) 99 (by kernel_rfl) ?_
   refine RegF.t0 0 (.pointer (some ⟨p,0,none⟩)) rfl d (λW c=>by obtain e0:=c;go_simp) ?_
   simp only[zE,zB,Act.put,zA,zG,zF]
   refine RegF.t0 1 (.pointer (some ⟨p,0,none⟩)) rfl d (λW c=>by obtain e0:=c;go_simp) ?_
   simp only[zE,zD,zB,Act.put,zA,zG,zF]
   refine RegF.t0 2 (.pointer (some ⟨p,19,none⟩)) rfl d (λW c=>by obtain e0:=c;go_simp) ?_
   simp only[zE,zD,zB,Act.put,zA,zG,zF]
   refine RegF.t0 3 (.pointer (some ⟨K.a,0,none⟩)) rfl d (λW c=>by obtain e0:=c;go_simp) ?_
   simp only[zE,zD,zB,Act.put,zA,zG,zF]
   refine RegF.t0 4 (.int .i64 st.size) rfl d (λW c=>by obtain e0:=c;go_simp) ?_
   simp only[zE,zD,zB,Act.put,zA,zG,zF]
   refine RegF.one 5 (by kernel_rfl) ?_
   refine RegF.opC 83 #[.const (.slice none 0 0)] #[151] rfl rfl rfl (enters_of Tryz.func83 (by kernel_rfl) rfl) #[.slice none 0 0] (by simp only[zK,zL,zN];rfl) ((ppage_none _).mono ?_)
   rintro e w7 ⟨v7,rfl,aF,S⟩
   obtain⟨A7,c7,rfl,aJ⟩:=aF.inB
   have r:=hd.grow S
   refine⟨_,rfl,λ_=>r.chc,?_⟩
   simp only[zE,zD,zB,Act.put,zA,zG,zF]
   simp only[List.length_replicate]
   refine RegF.one 6 (by kernel_rfl) ?_
   refine RegF.opC 62 #[.tmp 73,.tmp 74,.tmp 75] #[101,3,87] rfl rfl rfl (enters_of Tryz.func62 (by kernel_rfl) rfl) #[.pointer (some ⟨K.a,0,none⟩),.int .i64 st.size,.slice A7 512 c7] (by simp only[zK,zL,zN];rfl) ((gwrite r.ca hK (by omega) st.size A7 c7 zeroB rfl aJ).mono ?_)
   rintro e w8 ⟨x,v8,rfl,aK,L,e2,e3,e4,hq,aC,G⟩
   have B:=r.turn G aK
   refine⟨_,rfl,λ_=>B.chc,?_⟩
   simp only[zE,zD,zB,Act.put,zA,zG,zF]
   refine RegF.one 7 (by kernel_rfl) (RegF.opV (w':=w8) (.int .i64 x) rfl rfl (by go_simp) ⟨λ_=>B.chc,RegF.done (by kernel_rfl) ?_⟩)
   simp only[zE,zD,zB,Act.put,zA,zG,zF]
   have V:Below w5.heap.size w5 w7:=(Below.refl _ _).drew.trans (S.mono (zH _))
   have b8:BlkIs w8 b 100 (psC q).toArray:=G.blk (bd.below S bd.lt) aM
   have bD:=bR.size
   have Z:GrowBut (pgMu K p v) W w8:=(bR.trans ((GrowBut.below V).trans G)).more λ_ g _ => .inr g
   have aH:Names K W v v8:=aC.mono (zU bD V.size)
   have aE:q.roots.length=16:=aW
   have aA:=psC_length aE
   have aI:x=0∨(x=160/\Tight K v.D):=hq.elim (λh => .inl h.1) (λh => .inr (by
    rcases h.1 with h1|h1
    ·omega
    ·exact⟨h1.1,by have:=r.ca.tight h1.2;exact this⟩))
   clear d hd bd S aJ aF r aK aC V
   by_cases F:x=0
   ·subst F
    have H:v8.D=λj=>if j=st.size then some zeroB else v.D j:=by
     rcases hq with h1|h1
     ·exact h1.2.2
     ·exact absurd h1.1 (by omega)
    have bG:w8.rangeAt b 0 (psC q):=λj u hj=>by
     rw[qC,b8.cell]
     simpa using hj
    have a8:w8.there p 0 (psC q).toArray.size:=blk_there B.pb (by rw[pgC_size' B.hs B.hl];simp[aA])
    obtain⟨h9,aD⟩:=B.setState aE
    have hF:MkF K v v8 st q st.size 0:=⟨by omega,e2,e3,e4,.inl ⟨rfl,aG,rfl,by omega,a5.out,H⟩⟩
    have O:=Lib.hid hF
    have H9:=Lib.hid h9
    have bC:=Lib.hid (Z.trans (GrowBut.more aD (λk g _ => .inl g)))
    clear hF H hq h9 aD G Z
    go_wp2_with (first
     | (refine wp_exec rfl (x_loadM rowPgSt bG aA rfl rfl) ?_)
     | (refine wpList_store_mid rfl 100 _ _ rfl p 0 (psC q).toArray rfl rfl a8 (by simpa[aA] using rowPgSt.size) (all_oneCell_toArray (psC_one _)) ?_)
     | (go_at_call 157;refine(ptold_ok _ _).mono ?_;rintro e w' ⟨rfl,rfl⟩))
    exact bodyPost_ret (results_tmp2 rfl _ _ _) rfl (MkOut.mk ⟨st.size,0,v8,_,rfl,H9.out,O.out,aH,bC.out⟩)
   ·have H:v8.D=v.D:=by
     rcases hq with h1|h1
     ·exact absurd h1.1 F
     ·exact h1.2
    have hF:MkF K v v8 st st 0 x:=⟨by omega,e2,e3,e4,.inr (.inr ⟨F,rfl,rfl,H,.inr (.inl (aI.elim (λh=>absurd h F) (λh=>h.2)))⟩)⟩
    have O:=Lib.hid hF
    clear hF H hq aI G
    go_wp2_with (go_at_call 157;refine(ptold_err _ _ _ F).mono ?_;rintro e w' ⟨rfl,rfl⟩)
    refine bodyPost_ret_by (results_tmp2 rfl _ _ _) rfl ?_
    exact MkOut.mk ⟨0,x,v8,st,rfl,B,O.out,aH,Z⟩
 ·obtain⟨y,bP⟩:=Option.isSome_iff_exists.1 (cC aG)
  have aY:=C.chc
  go_wp2_with fail
  refine(gread C.ca hK (by omega) st.first y bP).mono ?_
  rintro e w4 ⟨v4,bW,bL,_,bQ,r1,r2,r3,r4,r5,a0,X⟩
  have h4:=C.turn X bQ
  have bO:GrowBut (K.mu v) W w4:=(GrowBut.below U).trans X
  have aT:Names K W v v4:=a0.mono U.size
  have aZ:¬ K.mu v4 b:=λg=>(a0 b g).elim aM (λe=>by have:=I.lt;omega)
  have b4:=X.blk I aM
  clear C I U X a0 bQ aY
  obtain⟨A4,c4,rfl,bI,_⟩:=bW
  have bV:y=v.view K st.first.toNat:=by
   rw[PgV.view_eq,show ((st.first.toNat:Nat):Int)=st.first by omega,bP]
   rfl
  rw[bL]
  have bK:=bI.drew
  have aP:=pnumber_gives w4.drew A4 c4 0 y bK bL (by omega)
  rw[List.drop_zero] at aP
  obtain⟨nx,aN⟩:∃nx:Int,nx=(rfix (y.take 4):Int):=⟨_,rfl⟩
  rw[<-aN] at aP
  have cL:0<=nx:=by omega
  rw[bV] at aN
  have bN:=Lib.hid aN
  clear aN bV bI
  have cK:IntKind.i64.wrap (st.many - 1)=st.many - 1:=wrap_i64_fr _ (by omega) (by omega)
  go_wp2_with fail
  have bH:=h4.grow (Below.refl _ _).drew
  have aV:BlkIs w4.drew b 100 (psC st).toArray:=b4
  have d:w4.drew.cell? ⟨b,2,none⟩=some (.int .i64 st.many):=(aV.cell 2).trans (by simp[psC])
  refine RegF.start (λW':World=>W'.cell? ⟨b,2,none⟩=some (.int .i64 st.many)) 8 (by kernel_rfl) ?_
  refine RegF.t 0 (.slice A4 512 c4) rfl d (λW c=>by obtain e0:=c;go_simp) ?_
  simp only[zE,zB,Act.put,zA,zG,zF]
  refine RegF.t 2 (.pointer (some ⟨b,2,none⟩)) rfl d (λW c=>by obtain e0:=c;go_simp) ?_
  simp only[zE,zD,zB,Act.put,zA,zG,zF]
  refine RegF.t 3 (.int .i64 st.many) rfl d (λW c=>by obtain e0:=c;go_simp) ?_
  simp only[zE,zD,zB,Act.put,zA,zG,zF]
  refine RegF.t 4 (.int .i64 (st.many - 1)) rfl d (λW c=>by obtain e0:=c;go_simp) ?_
  simp only[zE,zD,zB,Act.put,zA,zG,zF]
  refine RegF.one 1 (by kernel_rfl) ?_
  refine RegF.opC 66 #[.tmp 53,.const (.int .i64 0)] #[87,3] rfl rfl rfl (enters_of Tryz.func66 (by kernel_rfl) rfl) #[.slice A4 512 c4,.int .i64 0] (by simp only[zK,zL,zN];rfl) (aP.mono ?_)
  rintro e w5 ⟨rfl,aR⟩
  have h5:=bH.grow aR
  have M:=aV.below aR aV.lt
  have a2:w5.cell? ⟨b,2,none⟩=some (.int .i64 st.many):=(M.cell 2).trans (by simp[psC])
  refine⟨_,rfl,λ_=>a2,?_⟩
  simp only[zE,zD,zB,Act.put,zA,zG,zF]
  refine RegF.t 5 (.pointer (some ⟨b,1,none⟩)) rfl a2 (λW c=>by obtain e0:=c;go_simp) ?_
  simp only[zE,zD,zB,Act.put,zA,zG,zF]
  have b9:w5.cell? ⟨b,1,none⟩=some (.int .i64 st.first):=(M.cell 1).trans (by simp[psC])
  have cB:=M.free 1
  have b6:=M.set 1 (.int .i64 nx)
  have h6:=h5.keepB M (by simp[aO]) (λn=>by simp[psC]) a1 aZ a9 a7 1 (.int .i64 nx)
  have bJ:GrowBut (K.mu v) W (w5.setCell ⟨b,1,none⟩ (.int .i64 nx)):=(bO.trans (GrowBut.below ((Below.refl _ _).drew.trans (aR.mono (zH _))))).setNew a6
  have ea:(psC st).toArray.setIfInBounds 1 (.int .i64 nx)=(psC { st with first:=nx }).toArray:=by simp[psC]
  rw[ea] at b6
  have bA:(w5.setCell ⟨b,1,none⟩ (.int .i64 nx)).cell? ⟨b,2,none⟩=some (.int .i64 st.many):=(b6.cell 2).trans (by simp[psC])
  refine RegF.one 6 (by kernel_rfl) (RegF.opS (w':=w5.setCell ⟨b,1,none⟩ (.int .i64 nx)) rfl rfl (by go_simp) ⟨λ_=>bA,?_⟩)
  simp only[zE,zD,zB,Act.put]
  have bZ:=b6.free 2
  have b7:=b6.set 2 (.int .i64 (st.many - 1))
  have r:=h6.keepB b6 (by simp[psC_length (s:={ st with first:=nx }) h.hs]) (λn=>by simp[psC]) a1 aZ a9 a7 2 (.int .i64 (st.many - 1))
  have aQ:=bJ.setNew (j:=2) (u:=.int .i64 (st.many - 1)) a6
  generalize w5.setCell ⟨b,1,none⟩ (.int .i64 nx)=w6 at *
  refine RegF.t 7 (.pointer (some ⟨b,2,none⟩)) rfl bA (λW c=>by obtain e0:=c;go_simp) ?_
  simp only[zE,zD,zB,Act.put,zA,zG,zF]
  have bT:(psC { st with first:=nx }).toArray.setIfInBounds 2 (.int .i64 (st.many - 1))=(psC { st with first:=nx,many:=st.many - 1 }).toArray:=by simp[psC]
  rw[bT] at b7
  refine RegF.one 8 (by kernel_rfl) (RegF.opS (w':=w6.setCell ⟨b,2,none⟩ (.int .i64 (st.many - 1))) rfl rfl (by go_simp) ⟨λh=>absurd rfl h,RegF.done (by kernel_rfl) ?_⟩)
  simp only[zE,zD,zB,Act.put]
  generalize w6.setCell ⟨b,2,none⟩ (.int .i64 (st.many - 1))=aB at *
  obtain⟨q,E⟩:∃q:PgSt,q = { st with first:=nx,many:=st.many - 1 }:=⟨_,rfl⟩
  rw[<-E] at b7
  have aW:q.roots.length=16:=by rw[E];exact h.hs
  have cJ:aB.cell? ⟨b,0,none⟩=some (.int .i64 st.size):=(b7.cell 0).trans (by rw[E];simp[psC])
  have cH:aB.cell? ⟨b,1,none⟩=some (.int .i64 nx):=(b7.cell 1).trans (by rw[E];simp[psC])
  have cM:aB.cell? ⟨b,2,none⟩=some (.int .i64 (st.many - 1)):=(b7.cell 2).trans (by rw[E];simp[psC])
  have a5:=Lib.hid E
  clear E d a2 bA ea bT cB bZ M b6 h5 h6 bJ b9 aR aP bK bH aV b4 h4 bO
  have bM:(st.size<=nx∨st.many - 1<0)->MkF K v v4 st st 0 190:=λhb=>⟨by omega,r2,r3,r4,.inr (.inr ⟨by decide,rfl,rfl,r5,.inr (.inr ⟨aG,by rw[<-bN.out];exact hb⟩)⟩)⟩
  have aX:=Lib.hid bM
  clear bM
  by_cases cA:st.size<=nx
  ·go_wp2
   exact bodyPost_ret (results_tmp2 rfl _ _ _) rfl (MkOut.mk ⟨0,190,v4,st,rfl,r,aX.out (.inl cA),aT,aQ.more λ_ g _ => .inr g⟩)
  by_cases cD:st.many - 1<0
  ·go_wp2
   exact bodyPost_ret (results_tmp2 rfl _ _ _) rfl (MkOut.mk ⟨0,190,v4,st,rfl,r,aX.out (.inr cD),aT,aQ.more λ_ g _ => .inr g⟩)
  clear aX
  go_wp2_with fail
  have hd:=r.grow (Below.refl _ _).drew
  have bd:BlkIs aB.drew b 100 (psC q).toArray:=b7
  have d:=hd.chc
  refine RegF.start (λW':World=>W'.cell? ⟨p,19,none⟩=some (.pointer (some ⟨K.a,0,none⟩))) 99 (by kernel_rfl) ?_
  refine RegF.t0 0 (.pointer (some ⟨p,0,none⟩)) rfl d (λW c=>by obtain e0:=c;go_simp) ?_
  simp only[zE,zB,Act.put,zA,zG,zF]
  refine RegF.t0 1 (.pointer (some ⟨p,0,none⟩)) rfl d (λW c=>by obtain e0:=c;go_simp) ?_
  simp only[zE,zD,zB,Act.put,zA,zG,zF]
  refine RegF.t0 2 (.pointer (some ⟨p,19,none⟩)) rfl d (λW c=>by obtain e0:=c;go_simp) ?_
  simp only[zE,zD,zB,Act.put,zA,zG,zF]
  refine RegF.t0 3 (.pointer (some ⟨K.a,0,none⟩)) rfl d (λW c=>by obtain e0:=c;go_simp) ?_
  simp only[zE,zD,zB,Act.put,zA,zG,zF]
  refine RegF.t0 4 (.int .i64 st.first) rfl d (λW c=>by obtain e0:=c;go_simp) ?_
  simp only[zE,zD,zB,Act.put,zA,zG,zF]
  refine RegF.one 5 (by kernel_rfl) ?_
  refine RegF.opC 83 #[.const (.slice none 0 0)] #[151] rfl rfl rfl (enters_of Tryz.func83 (by kernel_rfl) rfl) #[.slice none 0 0] (by simp only[zK,zL,zN];rfl) ((ppage_none _).mono ?_)
  rintro e w7 ⟨v7,rfl,aF,S⟩
  obtain⟨A7,c7,rfl,aJ⟩:=aF.inB
  have r:=hd.grow S
  refine⟨_,rfl,λ_=>r.chc,?_⟩
  simp only[zE,zD,zB,Act.put,zA,zG,zF]
  simp only[List.length_replicate]
  refine RegF.one 6 (by kernel_rfl) ?_
  refine RegF.opC 62 #[.tmp 73,.tmp 74,.tmp 75] #[101,3,87] rfl rfl rfl (enters_of Tryz.func62 (by kernel_rfl) rfl) #[.pointer (some ⟨K.a,0,none⟩),.int .i64 st.first,.slice A7 512 c7] (by simp only[zK,zL,zN];rfl) ((gwrite r.ca hK (by omega) st.first A7 c7 zeroB rfl aJ).mono ?_)
  rintro e w8 ⟨x,v8,rfl,aK,L,e2,e3,e4,hq,aC,G⟩
  have B:=r.turn G aK
  refine⟨_,rfl,λ_=>B.chc,?_⟩
  simp only[zE,zD,zB,Act.put,zA,zG,zF]
  refine RegF.one 7 (by kernel_rfl) (RegF.opV (w':=w8) (.int .i64 x) rfl rfl (by go_simp) ⟨λ_=>B.chc,RegF.done (by kernel_rfl) ?_⟩)
  simp only[zE,zD,zB,Act.put,zA,zG,zF]
  have V:Below aB.heap.size aB w7:=(Below.refl _ _).drew.trans (S.mono (zH _))
  have b8:BlkIs w8 b 100 (psC q).toArray:=G.blk (bd.below S bd.lt) aZ
  have bD:=aQ.size
  have Z:GrowBut (pgMu K p v) W w8:=((aQ.more (Nu:=λk=>K.mu v k∨K.mu v4 k) (λ_ g _ => .inl g)).trans (((GrowBut.below V).trans G).more λ_ g _ => .inr g)).more (λk g hl => .inr (g.elim id (λh=>(aT k h).elim id (λe=>by omega))))
  have aH:Names K W v v8:=λk g=>((aC.mono (zU bD V.size)) k g).elim (λh=>aT k h) .inr
  have aE:q.roots.length=16:=aW
  have aA:=psC_length aE
  have aI:x=0∨(x=160/\Tight K v.D):=hq.elim (λh => .inl h.1) (λh => .inr (by
   rcases h.1 with h1|h1
   ·omega
   ·exact⟨h1.1,by have:=r.ca.tight h1.2;rw[r5] at this;exact this⟩))
  clear d hd bd S aJ aF r aK aC V
  by_cases F:x=0
  ·subst F
   have H:v8.D=λj=>if j=st.first then some zeroB else v.D j:=by
    rcases hq with h1|h1
    ·rw[<-r5];exact h1.2.2
    ·exact absurd h1.1 (by omega)
   have bG:w8.rangeAt b 0 (psC q):=λj u hj=>by
    rw[qC,b8.cell]
    simpa using hj
   have a8:w8.there p 0 (psC q).toArray.size:=blk_there B.pb (by rw[pgC_size' B.hs B.hl];simp[aA])
   obtain⟨h9,aD⟩:=B.setState aE
   have hF:MkF K v v8 st q st.first 0:=⟨by omega,e2.trans r2,e3.trans r3,e4.trans r4,.inr (.inl ⟨rfl,aG,rfl,by rw[a5.out,bN.out],H⟩)⟩
   have O:=Lib.hid hF
   have H9:=Lib.hid h9
   have bC:=Lib.hid (Z.trans (GrowBut.more aD (λk g _ => .inl g)))
   clear hF H hq h9 aD G Z
   go_wp2_with (first
    | (refine wp_exec rfl (x_loadM rowPgSt bG aA rfl rfl) ?_)
    | (refine wpList_store_mid rfl 100 _ _ rfl p 0 (psC q).toArray rfl rfl a8 (by simpa[aA] using rowPgSt.size) (all_oneCell_toArray (psC_one _)) ?_)
    | (go_at_call 157;refine(ptold_ok _ _).mono ?_;rintro e w' ⟨rfl,rfl⟩))
   exact bodyPost_ret (results_tmp2 rfl _ _ _) rfl (MkOut.mk ⟨st.first,0,v8,_,rfl,H9.out,O.out,aH,bC.out⟩)
  ·have H:v8.D=v.D:=by
    rcases hq with h1|h1
    ·exact absurd h1.1 F
    ·exact h1.2.trans r5
   have hF:MkF K v v8 st st 0 x:=⟨by omega,e2.trans r2,e3.trans r3,e4.trans r4,.inr (.inr ⟨F,rfl,rfl,H,.inr (.inl (aI.elim (λh=>absurd h F) (λh=>h.2)))⟩)⟩
   have O:=Lib.hid hF
   clear hF H hq aI G
   go_wp2_with (go_at_call 157;refine(ptold_err _ _ _ F).mono ?_;rintro e w' ⟨rfl,rfl⟩)
   refine bodyPost_ret_by (results_tmp2 rfl _ _ _) rfl ?_
   exact MkOut.mk ⟨0,x,v8,st,rfl,B,O.out,aH,Z⟩
end
def st00:PgSt:=⟨0,0,0,zR 16 0⟩
def st01:PgSt:=⟨1,0,0,zR 16 0⟩
section
variable {W0 W:World}{K:PgK}{p:Nat}{v:PgV}{st last:PgSt}{under:Bool}{mk:Value}
theorem PaIs.setSize (h:PaIs W0 K p v st last under mk W)(n:Int):PaIs W0 K p v { st with size:=n } last under mk (W.setCell ⟨p,0,none⟩ (.int .i64 n))/\GrowBut (λk=>k=p) W (W.setCell ⟨p,0,none⟩ (.int .i64 n)):=by
 have d:GrowBut (λk=>k=p) W (W.setCell ⟨p,0,none⟩ (.int .i64 n)):=GrowBut.setCell _ _ _ rfl
 have c:=h.pb.set 0 (.int .i64 n)
 rw[pgC_setSize] at c
 exact⟨h.own d c h.hs h.hl,d⟩
end
def OpOut (W0:World)(d f l many P:Nat)(fr pg room:Int)(W:World)(e:Ending)(w':World):Prop :=
 ((2<=room/\room<=2000)/\∃p a r v,e = .returned (.tuple #[.pointer (some ⟨p,0,none⟩),.int .i64 0])/\PaIs W0 ⟨d,f,l,a,r,many,P,fr,pg,room⟩ p v st01 st01 false (.slice none 0 0) w'/\v.N<=3/\v.i<=2/\v.S.sz=1/\(v.D=λ_=>none)/\v.Y ⟨d,f,l,a,r,many,P,fr,pg,room⟩ 0=headPB st01) ∨
 (¬ (2<=room/\room<=2000)/\e = .returned (.tuple #[.pointer none,.int .i64 2])/\Below W.heap.size W w')
theorem OpOut.good {W0:World}{d f l many P:Nat}{fr pg room:Int}{W:World}{e:Ending}{w':World}(h:(2<=room/\room<=2000)/\∃p a r v,e = .returned (.tuple #[.pointer (some ⟨p,0,none⟩),.int .i64 0])/\PaIs W0 ⟨d,f,l,a,r,many,P,fr,pg,room⟩ p v st01 st01 false (.slice none 0 0) w'/\v.N<=3/\v.i<=2/\v.S.sz=1/\(v.D=λ_=>none)/\v.Y ⟨d,f,l,a,r,many,P,fr,pg,room⟩ 0=headPB st01):OpOut W0 d f l many P fr pg room W e w':=.inl h
theorem below1' (w:World)(x:Obj):Below w.heap.size w (w.alloc x):=(Below.refl _ _).alloc (zH _) _
theorem dirtyL_zero {R:RowsC}:∀{P:Nat},(∀(q:Nat) b,¬ q=0->¬ R (q:Int)=some (b,true))->∀{b},0<P->R ((0:Nat):Int)=some (b,true)->dirtyL R P=[(0,b)]
 | 0,_,_,h,_=>absurd h (by decide)
 | 1,_,b,_,h=>by
  show [] ++ (match R ((0:Nat):Int) with|some (b,true)=>[(0,b)] | _=>[])=_
  rw[h]
  rfl
 | P+2,hn,b,_,h=>by
  have e:=dirtyL_zero (P:=P+1) hn (Nat.succ_pos _) h
  show dirtyL R (P+1)++(match R ((P+1:Nat):Int) with|some (b,true)=>[(P+1,b)] | _=>[])=_
  rw[e]
  have h2:=λb=>hn (P+1) b (by omega)
  cases c:R ((P+1:Nat):Int) with
  | none=>rfl
  | some x =>
   obtain⟨y,d⟩:=x
   cases d with
   | false=>rfl
   | true=>exact absurd c (h2 y)
theorem dirtyL_one {R:RowsC}{P:Nat}{b:List UInt8}(hP:0<P)(h:R ((0:Nat):Int)=some (b,true))(hn:∀(q:Nat) b,¬ q=0->¬ R (q:Int)=some (b,true)):dirtyL R P=[(0,b)]:=dirtyL_zero hn hP h
theorem begunA {W0 w:World}{d f l a r many P:Nat}{fr pg room:Int}(hP:(P:Int)=pg)(c:2<=room/\room<=2000)
  (h:CsIs W0 d f l a r many P fr pg room ⟨laid (λ_=>zer64) (wrL 1 (hEnc 1 1 0 0) 1),[],0,false⟩ ⟨1,1,0,[]⟩ ⟨0,0,0,λ_=>none⟩ w):CaAt W0 ⟨d,f,l,a,r,many,P,fr,pg,room⟩ ⟨λ_=>zeroB,⟨0⟩,⟨0,0,0,λ_=>none⟩,0,0⟩ w:=by
 refine⟨⟨⟨h.fh.up,h.fh.fb⟩,h.ca,h.nb⟩,CaSt.Ok.zero,(λp b d e=>by cases e),?_⟩
 have:cntR P (λ_=>none)=0:=by
  unfold cntR keysV ptrV
  simp
 show (cntR P (λ_=>none):Int)<=room
 rw[this]
 omega
theorem popen_new {W0 W:World}{d f l many P:Nat}{fr pg room:Int}(h:FhIs W0 d f l many fr pg ⟨laid (λ_=>zer64) (wrL 1 (hEnc 1 1 0 0) 1),[],0,false⟩ ⟨1,1,0,[]⟩ W)(a5:planOk fr pg=true)(hm:(many:Int)=2+9*fr+8*pg)(b1:many<=40000)(hP:(P:Int)=pg)(bO:P<=900)(hr:2<=room/\room<=2000)(bS:(P:Int)<=room) :
  Calls Tryz.prog 22 #[.pointer (some ⟨f,0,none⟩),.int .i64 room] W (OpOut W0 d f l many P fr pg room W):=by
 have b3:=(planOk_iff fr pg).1 a5
 have hz:∃k,¬ (laid (λ_=>zer64) (wrL 1 (hEnc 1 1 0 0) 1)) k=zer64:=(StP.begun (fr:=fr) (pg:=pg) (by omega) (by omega)).nz
 have bY:=h.up.size
 have HN:=cnew_out (P:=P) (room:=room) h hz (λx U=>absurd U (by simp))
 have a1:Calls Tryz.prog 60 #[.pointer (some ⟨f,0,none⟩),.int .i64 room] W λe w'=>∃a r,e = .returned (.tuple #[.pointer (some ⟨a,0,none⟩),.int .i64 0])/\CsIs W0 d f l a r many P fr pg room ⟨laid (λ_=>zer64) (wrL 1 (hEnc 1 1 0 0) 1),[],0,false⟩ ⟨1,1,0,[]⟩ ⟨0,0,0,λ_=>none⟩ w'/\Below W.heap.size W w':=HN.mono λe w' hn=>by
  rcases hn with⟨_,a,r,he,hC,_,hB⟩|⟨hn,_⟩
  ·exact⟨a,r,he,hC,hB⟩
  ·exact absurd hr hn
 clear HN h
 go_enter Tryz.func22,Tryz.ntmps22
 go_wp2_with fail
 refine wp_scope_jumps (rest:=?rest) 0 (λ_ _=>False) (λ_ _=>0) ?hf ?first ?pass
 case hf=>exact rfl
 case pass=>exact λ_ _ U=>U.elim
 case first =>
  go_wp2_with (go_at_call 60;refine a1.mono ?_;rintro e O ⟨a,r,rfl,aL,aD⟩)
  have aW:=aL
  have aS:=begunA (many:=many) hP hr aL
  obtain⟨K,s⟩:∃K:PgK,K=⟨d,f,l,a,r,many,P,fr,pg,room⟩:=⟨_,rfl⟩
  have hK:K.Ok:=by rw[s];exact⟨hP,bO,hr,bS⟩
  obtain⟨v0,H⟩:∃v0:PgV,v0=⟨λ_=>zeroB,⟨0⟩,⟨0,0,0,λ_=>none⟩,0,0⟩:=⟨_,rfl⟩
  rw[<-s,<-H] at aS
  have bW:K.a=a:=by rw[s]
  have aC:K.r=r:=by rw[s]
  have bL:K.l=l:=by rw[s]
  have aO:K.f=f:=by rw[s]
  have bC:K.P=P:=by rw[s]
  have bB:K.room=room:=by rw[s]
  have bN:K.fr=fr:=by rw[s]
  have bT:K.pg=pg:=by rw[s]
  have b5:v0.N=0/\v0.i=0/\v0.S.sz=0:=by rw[H];exact⟨rfl,rfl,rfl⟩
  have bK:v0.D=λ_=>none:=by rw[H];rfl
  have bR:v0.c=⟨0,0,0,λ_=>none⟩:=by rw[H]
  subst bW
  have aX:=Lib.hid s
  clear s
  obtain⟨p,hp⟩:∃p,p=O.heap.size:=⟨_,rfl⟩
  obtain⟨w2,X⟩:∃w2,w2=O.alloc (.cells #[.int .i64 0,.int .i64 0,.int .i64 0,.int .i64 0,.int .i64 0,.int .i64 0,.int .i64 0,.int .i64 0,.int .i64 0,.int .i64 0,.int .i64 0,.int .i64 0,.int .i64 0,.int .i64 0,.int .i64 0,.int .i64 0,.int .i64 0,.int .i64 0,.int .i64 0,.pointer (some ⟨K.a,0,none⟩),.int .i64 0,.int .i64 0,.int .i64 0,.int .i64 0,.int .i64 0,.int .i64 0,.int .i64 0,.int .i64 0,.int .i64 0,.int .i64 0,.int .i64 0,.int .i64 0,.int .i64 0,.int .i64 0,.int .i64 0,.int .i64 0,.int .i64 0,.int .i64 0,.int .i64 0,.bool false,.slice none 0 0] 104):=⟨_,rfl⟩
  have L:PaIs W0 K p v0 st00 st00 false (.slice none 0 0) w2:=by
   rw[X,hp]
   refine⟨aS.grow ((Below.refl _ _).alloc (zH _) _),?_,zU bY aD.size,rfl,rfl⟩
   exact BlkIs.new O _ _
  rw[<-X,<-hp]
  have bP:Below W.heap.size W w2:=by rw[X];exact aD.alloc aD.size _
  have aF:=CfIs.grow aW (show Below O.heap.size O w2 by rw[X];exact below1' _ _)
  have a7:=L.pb
  have aY:W0.heap.size<=p:=L.np
  have a3:=fsize_gives aF.fh.fb aF.fh.lg
  clear aS aL aW X hp H a1 aD
  have c0:w2.cell? ⟨p,0,none⟩=some (.int .i64 0):=L.szc
  have f0:=L.pb.free 0
  have aA:=(L.setSize 0).1
  have aR:PaIs W0 K p v0 st01 st00 false (.slice none 0 0) ((w2.setCell ⟨p,0,none⟩ (.int .i64 0)).setCell ⟨p,0,none⟩ (.int .i64 1)):=(aA.setSize 1).1
  have c3:(w2.setCell ⟨p,0,none⟩ (.int .i64 0)).cell? ⟨p,0,none⟩=some (.int .i64 0):=aA.szc
  have f3:=aA.pb.free 0
  have bA:=aR.stRange
  have aE:(psC st01).length=19:=rfl
  have bE:CsIs W0 d f l K.a r many P fr pg room ⟨laid (λ_=>zer64) (wrL 1 (hEnc 1 1 0 0) 1),[],0,false⟩ ⟨1,1,0,[]⟩ ⟨0,0,0,λ_=>none⟩ ((w2.setCell ⟨p,0,none⟩ (.int .i64 0)).setCell ⟨p,0,none⟩ (.int .i64 1)):=by
   have q1:=CfIs.other aF a7 (by rw[pgC_size' rfl rfl];decide) (λn e=>by cases e) aY (by decide) (by decide) (by decide) (by decide) (by decide) (GrowBut.setCell (Mu:=λk=>k=p) w2 ⟨p,0,none⟩ (.int .i64 0) rfl)
   exact CfIs.other q1 aA.pb (by rw[pgC_size' rfl rfl];decide) (λn e=>by cases e) aY (by decide) (by decide) (by decide) (by decide) (by decide) (GrowBut.setCell (Mu:=λk=>k=p) _ ⟨p,0,none⟩ (.int .i64 1) rfl)
  clear L aA aF a7
  refine a3.mono ?_
  rintro e w' ⟨rfl,rfl⟩
  go_wp2_with (refine wp_exec rfl (x_loadM rowPgSt bA aE rfl rfl) ?_)
  generalize (w2.setCell ⟨p,0,none⟩ (.int .i64 0)).setCell ⟨p,0,none⟩ (.int .i64 1)=w4 at *
  clear bP c3 f3 c0 f0 a3
  have a6:(headPB st01).length=512:=headPB_length rfl
  have b2:=hK.hP
  have b4:=hK.rm
  refine(phead_gives w4 st01 rfl).mono ?_
  rintro e w5 ⟨A5,c5,rfl,bF,aQ⟩
  have aI:=aR.grow aQ
  have bJ:=CfIs.grow bE aQ
  go_wp2_with fail
  refine(gwrite aI.ca hK (by omega) 0 A5 c5 (headPB st01) a6 bF).mono ?_
  rintro e w6 ⟨x,g,rfl,B,e1,e2,e3,e4,hq,aU,aN⟩
  have U:x=0/\g.D=λj=>if j=0 then some (headPB st01) else v0.D j:=by
   rcases hq with h1|h1
   ·exact⟨h1.1,h1.2.2⟩
   ·exfalso
    rcases h1.1 with h2|h2
    ·omega
    ·have:=aI.ca.tight h2.2 [] (λp b e=>by rw[bK] at e;cases e)
     simp at this
     omega
  obtain⟨rfl,aG⟩:=U
  have G:=aI.turn aN B
  have F:CsIs W0 d f l K.a r many P fr pg room ⟨laid (λ_=>zer64) (wrL 1 (hEnc 1 1 0 0) 1),[],0,false⟩ ⟨1,1,0,[]⟩ g.c w6:=by
   have h1:=B.cs.ca
   have h2:=aN
   have M:=aU
   unfold PgK.mu at h2
   unfold Names PgK.mu at M
   rw[aC,bR] at h2 M
   rw[aO,aC,bC,bB] at h1
   exact CfIs.turn bJ h2 h1 M
  have b0:w6.cell? ⟨p,0,none⟩=some (.int .i64 1):=G.szc
  clear aR aI aQ bF bA hq aU aN bE bJ
  go_wp2_with fail
  have aB:LogE w6 l d many fr pg 1 1 0:=by
   obtain⟨_,A9,c9,vs,bX,aT,bM⟩:=F.fh.lg
   have H:vs=[]:=List.map_eq_nil_iff.1 bM
   subst H
   obtain rfl:=aT.nil rfl
   obtain rfl:=aT.row.nil rfl
   exact⟨⟨_,F.fh.dk⟩,bX⟩
  have T:=F.fh.fb
  have a2:dirtyL (rowsR g.c.V) P=[(0,headPB st01)]:=by
   have bU:rowsR g.c.V ((0:Nat):Int)=some (headPB st01,true):=dirF_some.1 (show g.D 0=some _ by rw[aG];rfl)
   exact dirtyL_one (by omega) bU (λq b hq e=>by
    have h2:g.D (q:Int)=some b:=dirF_some.2 e
    rw[aG] at h2
    replace h2:(if (q:Int)=0 then some (headPB st01) else v0.D (q:Int))=some b:=h2
    rw[if_neg (by omega),bK] at h2
    cases h2)
  have aK:=F.ca
  have bG:=(callsIn_wide (n:=12)).1 (lcommit_in 12 (by decide) aK aB.dl (show FullV g.c.V from λk u hu=>(B.ro k u.y u.d (rowsR_some hu)).2.1) (by omega) (headPB st01) a6 a2 1 (λW' A k xs hB hA=>lfcommit (T.below hB T.lt) (aB.grow hB) A k xs (headPB st01) hA 1 ⟨by decide,by omega⟩ a5 (by omega) (by decide) (by omega) (by omega) (by decide)))
  refine bG.mono ?_
  rintro e w8 ⟨rfl,bD,aJ⟩
  obtain⟨C,aH⟩:∃C:PgV,C=⟨g.view K,⟨1⟩,⟨g.c.now,g.c.hh,g.c.mm,cleanV g.c.V⟩,g.i,g.N⟩:=⟨_,rfl⟩
  have aP:∀q b e,rowsR (cleanV g.c.V) q=some (b,e)->e=false/\∃e',rowsR g.c.V q=some (b,e'):=λq b e hq=>by
   unfold rowsR cleanV at hq
   cases Z:g.c.V q with
   | none=>rw[Z] at hq;cases hq
   | some u =>
    rw[Z,Option.map_some,Option.map_some] at hq
    injection hq with hq
    injection hq with q1 q2
    exact⟨q2.symm,u.d,by rw[rowsR_some Z,<-q1]⟩
  have aV:RowsOk K.P (g.view K) (rowsR (cleanV g.c.V)):=λq b e hq=>by
   obtain⟨_,e',h2⟩:=aP q b e hq
   have M:=B.ro q b e' h2
   refine⟨M.1,M.2.1,λ_ => ?_⟩
   have h4:rowsR g.c.V ((q.toNat:Nat):Int)=some (b,e'):=by rw[show ((q.toNat:Nat):Int)=q by omega];exact h2
   exact(RowsOk.view B.ro h4).symm
  have a9:(cntR K.P (cleanV g.c.V):Int)<=K.room:=by
   have h1:=cntR_le (P:=K.P) (V:=g.c.V) (V':=cleanV g.c.V) (λk E=>by
    unfold cleanV at E
    cases Z:g.c.V k with
    | none=>rw[Z] at E;cases E
    | some u=>rfl)
   have h2:=B.cn
   omega
  have a4:∀k,(caMu K.a r g.c.V k∨(k=d∨k=l))->W0.heap.size<=k:=λk E=>by
   rcases E with E|rfl|rfl
   ·exact F.nb k E
   ·exact F.fh.gd
   ·exact F.fh.gl
  have aZ:¬ (caMu K.a r g.c.V f∨(f=d∨f=l)):=λe=>by
   rcases e with e|e
   ·exact aK.notTy T (by decide) (by decide) e
   ·exact aB.dl.ne T (by decide) (by decide) e
  have bH:¬ (caMu K.a r g.c.V p∨(p=d∨p=l)):=λe=>by
   rcases e with e|e
   ·exact aK.notTy G.pb (by decide) (by decide) e
   ·exact aB.dl.ne G.pb (by decide) (by decide) e
  have bI:CaAt W0 K C w8:=by
   rw[aH]
   refine⟨⟨⟨B.cs.fh.up.trans (aJ.toBelow B.cs.fh.up.size a4),?_⟩,?_,?_⟩,⟨B.ok.now,B.ok.hh,B.ok.mm⟩,aV,a9⟩
   ·have h9:=aJ.blk T aZ
    rw[aO,bL,bN,bT]
    exact h9
   ·rw[aO,aC,bC,bB]
    exact bD
   ·intro k E
    rw[aC] at E
    exact F.nb k (caMu_clean k E)
  have I:PaIs W0 K p C st01 st00 false (.slice none 0 0) w8:=⟨bI,aJ.blk G.pb bH,G.np,G.hs,G.hl⟩
  have aM:C.S.sz=1/\C.Y K 0=headPB st01/\C.D=λ_=>none:=by
   rw[aH]
   refine⟨rfl,?_,dirF_none (λq b e=>by have:=(aP q b true e).1;cases this)⟩
   show g.view K 0=_
   rw[PgV.view_eq,show (((0:Nat):Int))=0 from rfl,aG]
   rfl
  have a8:C.N<=3/\C.i<=2:=by
   rw[aH]
   show g.N<=3/\g.i<=2
   omega
  have bV:=I.stRange
  have bQ:w8.there p 20 (psC st01).toArray.size:=blk_there I.pb (by rw[pgC_size' I.hs I.hl];simp[aE])
  obtain⟨a0,_⟩:=I.setLast (last':=st01) rfl
  have bZ:=Lib.hid a0
  clear G I a0 bI aJ aG b0 a2 bG aK bD aP aV a9 a4 aZ bH aB F B aH
  go_wp2_with (first
   | (refine wp_exec rfl (x_loadM rowPgSt bV aE rfl rfl) ?_)
   | (refine wpList_store_mid rfl 100 _ _ rfl p 20 (psC st01).toArray rfl rfl bQ (by simpa[aE] using rowPgSt.size) (all_oneCell_toArray (psC_one _)) ?_))
  simp only[Exit.jump]
  exact bodyPost_ret (results_tmp2 rfl _ _ _) rfl (OpOut.good ⟨hr,p,K.a,r,C,rfl,by rw[<-aX.out];exact bZ.out,a8.1,a8.2,aM.1,aM.2.2,by rw[<-aX.out];exact aM.2.1⟩)
section
variable {W0 W:World}{K:PgK}{p:Nat}{v:PgV}{st last:PgSt}{mk:Value}
theorem psetroot_gives (h:PaIs W0 K p v st last true mk W)(n:Int)(hn:0<=n/\n<st.size) :
  Calls Tryz.prog 36 #[.pointer (some ⟨p,0,none⟩),.int .i64 0,.int .i64 n] W λe w'=>e = .returned (.int .i64 0)/\PaIs W0 K p v { st with roots:=st.roots.set 0 n } last true mk w'/\GrowBut (λk=>k=p) W w':=by
 obtain⟨W1,E⟩:∃W1,W1=W.alloc (.cells #[.int .i64 0] 3):=⟨_,rfl⟩
 have j:Below W.heap.size W W1:=by rw[E];exact(Below.refl _ _).alloc (zH _) _
 have M:BlkIs W1 W.heap.size 3 #[.int .i64 0]:=by rw[E];exact BlkIs.new W _ _
 have hd:decide (n<0∨st.size<=n)=false:=decide_eq_false (by omega)
 have aE:=Lib.hid E.symm
 clear E
 go_enter Tryz.func36,Tryz.ntmps36
 go_wp2_with (go_at_call 85;rw[aE.out];refine(pthere_gives W1 (some ⟨p,0,none⟩) n 0).mono ?_;rintro e q ⟨f,rfl,aC,s,T⟩)
 have h2:=(h.grow j).grow s
 have F:=M.below s M.lt
 obtain⟨xs,g⟩:∃xs:List PAsk,xs=[⟨.func (.func 84) #[] #[.pointer (some ⟨W.heap.size,0,none⟩)],2,false⟩,⟨f,4,false⟩]:=⟨_,rfl⟩
 have S:∀v∈pasksC xs,v.oneCell'=true:=λv G=>by
  rw[g] at G
  simp only[pasksC,paskC,zL,zN,List.flatten_cons,List.flatten_nil,qB,zV,List.mem_cons,List.not_mem_nil,or_false] at G
  rcases G with rfl|rfl|rfl|rfl
  ·rfl
  ·rfl
  ·exact aC
  ·rfl
 obtain⟨W3,C⟩:∃W3,W3=q.alloc (.cells #[.func (.func 84) #[] #[.pointer (some ⟨W.heap.size,0,none⟩)],.int .i64 2,f,.int .i64 4] 140):=⟨_,rfl⟩
 have r:Below q.heap.size q W3:=by rw[C];exact(Below.refl _ _).alloc (zH _) _
 have aA:InG W3 W3.heap.size 2 (some ⟨q.heap.size,0,none⟩) xs.length xs.length (pasksC xs):=by
  have:=pasks_new q xs S 140 (by rw[g];simp)
  rw[C]
  subst g
  exact this
 have U:=h2.grow r
 have u:=F.below r F.lt
 have ha:∀x∈xs,PAskIs W3 x:=λx L=>by
  rw[g] at L
  simp only[List.mem_cons,List.not_mem_nil,or_false] at L
  rcases L with rfl|rfl
  ·refine PAskIs.one 2 ⟨enters_of Tryz.func84 (by kernel_rfl) rfl,λW4 aD => ?_⟩
   refine(psetroot1_ask (bi:=W.heap.size) (i:=0) ((u.below aD u.lt).boxed)).mono ?_
   rintro e w' ⟨rfl,rfl⟩
   exact⟨rfl,Below.refl _ _⟩
  ·have:=T p st.size rfl (h.grow j).szc
   rw[hd] at this
   exact PAskIs.later this r
 have H:=U.asked true (some ⟨q.heap.size,0,none⟩) xs.length xs aA (by rw[g];simp) ha
 have P:(if (true != true)=true then 191 else askE xs)=0:=by rw[g];rfl
 have O:xs.length=2:=by rw[g];rfl
 rw[P,O] at H
 rw[<-C]
 refine H.mono ?_
 rintro e w4 ⟨rfl,N⟩
 have b4:=u.below N u.lt
 have I:Below W.heap.size W w4:=((j.trans (s.mono j.size)).trans (r.mono (by have:=j.size;have:=s.size;omega))).trans (N.mono (by have:=j.size;have:=s.size;have:=r.size;omega))
 have X:Below W.heap.size W w4.drew:=I.trans ((Below.refl _ _).drew.mono I.size)
 have B:PaIs W0 K p v st last true mk w4.drew:=h.grow X
 have d:w4.drew.cell? ⟨W.heap.size,0,none⟩=some (.int .i64 0):=b4.boxed
 clear ha aA H P O T S h2 U F u r C g M b4 I N
 go_wp2_with fail
 refine RegF.start (λW':World=>W'.cell? ⟨W.heap.size,0,none⟩=some (.int .i64 0)) 99 (by kernel_rfl) ?_
 refine RegF.t0 0 (.pointer (some ⟨p,0,none⟩)) rfl d (λW c=>by obtain e0:=c;go_simp) ?_
 simp only[zE,zB,Act.put,zA,zG,zF]
 refine RegF.t0 1 (.int .i64 0) rfl d (λW c=>by obtain e0:=c;go_simp) ?_
 simp only[zE,zD,zB,Act.put,zA,zG,zF]
 refine RegF.t0 2 (.int .i64 n) rfl d (λW c=>by obtain e0:=c;go_simp) ?_
 simp only[zE,zD,zB,Act.put,zA,zG,zF]
 refine RegF.t0 3 (.pointer (some ⟨p,0,none⟩)) rfl d (λW c=>by obtain e0:=c;go_simp) ?_
 simp only[zE,zD,zB,Act.put,zA,zG,zF]
 refine RegF.t0 4 (.pointer (some ⟨p,0,none⟩)) rfl d (λW c=>by obtain e0:=c;go_simp) ?_
 simp only[zE,zD,zB,Act.put,zA,zG,zF]
 refine RegF.t0 5 (.pointer (some ⟨p,3,none⟩)) rfl d (λW c=>by obtain e0:=c;go_simp) ?_
 simp only[zE,zD,zB,Act.put,zA,zG,zF]
 refine RegF.t0 6 (.pointer (some ⟨p,3,none⟩)) rfl d (λW c=>by obtain e0:=c;go_simp) ?_
 simp only[zE,zD,zB,Act.put,zA,zG,zF]
 have aB:3<(psC st).length:=by rw[psC_length h.hs];decide
 have c3:w4.drew.cell? ⟨p,3,none⟩=some (psC st)[3]:=by have:=B.stRange 3 _ (zM aB);simpa using this
 generalize (psC st)[3]=z3 at c3
 have f3:=B.pb.free 3
 obtain⟨h5,V⟩:=B.setRoot (i:=0) (by decide) n
 have Z:(w4.drew.setCell ⟨p,3,none⟩ (.int .i64 n)).cell? ⟨W.heap.size,0,none⟩=some (.int .i64 0):=V.cell d (cell_lt d) (λe=>by have:=h.pb.lt;have e:W.heap.size=p:=e;omega)
 refine RegF.one 7 (by kernel_rfl) (RegF.opS (w':=w4.drew.setCell ⟨p,3,none⟩ (.int .i64 n)) rfl rfl (by go_simp) ⟨λ_=>Z,RegF.done (by kernel_rfl) ?_⟩)
 simp only[zE,zD,zB,Act.put]
 clear Z d B c3 f3
 go_wp2
 go_ret
 exact⟨rfl,h5,(GrowBut.below X).trans V⟩
end
section
variable {W0 W:World}{K:PgK}{p:Nat}{v:PgV}{st last:PgSt}{under:Bool}{mk:Value}{ms:List MkT}
theorem pforget_gives (h:PaIs W0 K p v st last true mk W)(V:MksIs W0 K v ms mk W)(n:Nat)(U:n<ms.length)(aF:ms.length<=900) :
  Calls Tryz.prog 78 #[.pointer (some ⟨p,0,none⟩),.int .i64 (n:Int)] W λe w'=>∃mk',e = .returned (.int .i64 0)/\PaIs W0 K p v st last true mk' w'/\MksIs W0 K v (ms.take n) mk' w'/\GrowBut (λk=>k=p) W w':=by
 obtain⟨g,c,rfl,aB,aE,_⟩:=V.row.elem n U
 have aA:decide ((n:Int)<0∨(ms.length:Int)<=(n:Int))=false:=decide_eq_false (by omega)
 go_enter Tryz.func78,Tryz.ntmps78
 go_wp2_with (go_at_call 127;refine(pmarked_gives W (some ⟨p,0,none⟩) (n:Int)).mono ?_;rintro e j ⟨f,rfl,S,q,P⟩)
 have h2:=h.grow q
 obtain⟨xs,d⟩:∃xs:List PAsk,xs=[⟨f,2,false⟩]:=⟨_,rfl⟩
 have O:∀v∈pasksC xs,v.oneCell'=true:=λv B=>by
  rw[d] at B
  simp only[pasksC,paskC,zL,zN,List.flatten_cons,List.flatten_nil,qB,zV,List.mem_cons,List.not_mem_nil,or_false] at B
  rcases B with rfl|rfl
  ·exact S
  ·rfl
 obtain⟨W3,u⟩:∃W3,W3=j.alloc (.cells #[f,.int .i64 2] 140):=⟨_,rfl⟩
 have s:Below j.heap.size j W3:=by rw[u];exact(Below.refl _ _).alloc (zH _) _
 have X:InG W3 W3.heap.size 2 (some ⟨j.heap.size,0,none⟩) xs.length xs.length (pasksC xs):=by
  have:=pasks_new j xs O 140 (by rw[d];simp)
  rw[u]
  subst d
  exact this
 have C:=h2.grow s
 have ha:∀x∈xs,PAskIs W3 x:=λx H=>by
  rw[d] at H
  simp only[List.mem_cons,List.not_mem_nil,or_false] at H
  subst H
  have:=P p _ _ _ rfl h.mks
  rw[aA] at this
  exact PAskIs.later this s
 have F:=C.asked true (some ⟨j.heap.size,0,none⟩) xs.length xs X (by rw[d];simp) ha
 have N:(if (true != true)=true then 191 else askE xs)=0:=by rw[d];rfl
 have L:xs.length=1:=by rw[d];rfl
 rw[N,L] at F
 rw[<-u]
 refine F.mono ?_
 rintro e w4 ⟨rfl,I⟩
 have G:Below W.heap.size W w4:=(q.trans (s.mono q.size)).trans (I.mono (by have:=q.size;have:=s.size;omega))
 have r:=C.grow I
 have Z:=V.grow G
 have aD:=r.mks
 have aC:=r.pb.free 40
 obtain⟨T,E⟩:=r.setMarks (mk':=.slice (some ⟨g,0,none⟩) n n)
 have M:=(Z.own r E).take rfl (Nat.le_of_lt U)
 have H5:=Lib.hid T
 have HM:=Lib.hid M
 have HG:=Lib.hid ((GrowBut.below G).trans E)
 clear ha X F N L P O h2 C s u d q I S r Z T M E G
 go_wp2_with (refine wp_exec rfl (x_cutM rfl rfl rfl rfl (by omega)) ?_)
 go_ret
 exact⟨_,rfl,H5.out,HM.out,HG.out⟩
theorem pmark_idle (h:PaIs W0 K p v st last false mk W):Calls Tryz.prog 75 #[.pointer (some ⟨p,0,none⟩)] W λe w'=>e = .returned (.tuple #[.int .i64 0,.int .i64 191])/\Below W.heap.size W w':=by
 have c:=h.asked0 true
 have d:(if (false != true)=true then 191 else 0:Int)=191:=rfl
 rw[d] at c
 go_enter Tryz.func75,Tryz.ntmps75
 go_wp2_with (go_at_call 56;refine c.mono ?_;rintro e g ⟨rfl,f⟩)
 go_ret2
 exact⟨rfl,f⟩
theorem proot_gives (h:PaIs W0 K p v st last under mk W)(i:Nat)(n:Int)(d:st.roots[i]? = some n):Calls Tryz.prog 25 #[.pointer (some ⟨p,0,none⟩),.int .i64 (i:Int)] W λe w'=>e = .returned (.tuple #[.int .i64 n,.int .i64 0])/\W=w':=by
 have f:=pnone_gives h.chc
 have g:i<16:=by have:=(List.getElem?_eq_some_iff.1 d).1;rw[h.hs] at this;exact this
 have c:W.cell? ⟨p,3+i,none⟩=some (.int .i64 n):=by
  have:=h.stRange (3+i) (.int .i64 n) (by
   unfold psC
   rw[show 3+i=i+1+1+1 by omega,List.getElem?_cons_succ,List.getElem?_cons_succ,List.getElem?_cons_succ,List.getElem?_map,d]
   rfl)
  rwa [qC] at this
 have s:¬ (i:Int)<0:=by omega
 have j:¬ (16:Int)<=(i:Int):=by omega
 have r:(0:Int)<=(i:Int):=by omega
 have q:(i:Int)<16:=by omega
 clear h d
 go_enter Tryz.func25,Tryz.ntmps25
 go_wp2_with (go_at_call 69;refine f.mono ?_;rintro e w' ⟨rfl,rfl⟩)
 go_ret2
 exact⟨rfl,rfl⟩
theorem proot_out (h:PaIs W0 K p v st last under mk W)(i:Int)(d:i<0∨16<=i):Calls Tryz.prog 25 #[.pointer (some ⟨p,0,none⟩),.int .i64 i] W λe w'=>e = .returned (.tuple #[.int .i64 0,.int .i64 2])/\W=w':=by
 have c:=pnone_gives h.chc
 clear h
 rcases(by omega:i<0∨(¬ i<0/\16<=i)) with h1|⟨h1,h2⟩
 all_goals
  clear d
  go_enter Tryz.func25,Tryz.ntmps25
  go_wp2_with (go_at_call 69;refine c.mono ?_;rintro e w' ⟨rfl,rfl⟩)
  go_ret2
  exact⟨rfl,rfl⟩
end
theorem pthereF_gives (w:World)(p:Nat)(size n c:Int)(hc:w.cell? ⟨p,0,none⟩=some (.int .i64 size)):Calls Tryz.prog 85 #[.pointer (some ⟨p,0,none⟩),.int .i64 n,.int .i64 c] w λe w'=>∃x y z,e = .returned (.agg #[.func (.func 138) #[] #[x,y,z],.int .i64 4])/\Below w.heap.size w w'/\AnsF w' 138 #[x,y,z] (decide (n<c∨size<=n)):=by
 obtain⟨W0,d⟩:∃W0,W0=((w.alloc (.cells #[.pointer (some ⟨p,0,none⟩)] 23)).alloc (.cells #[.int .i64 n] 3)).alloc (.cells #[.int .i64 c] 3):=⟨_,rfl⟩
 have g:Below w.heap.size w W0:=by rw[d];exact(((Below.refl _ w).alloc (zH _) _).alloc (by simp) _).alloc (by simp;omega) _
 have s:W0.heap.size=w.heap.size+1+1+1:=by rw[d];simp
 have j:BlkIs W0 w.heap.size 23 #[.pointer (some ⟨p,0,none⟩)]:=by rw[d];exact((BlkIs.new w _ _).alloc _).alloc _
 have q:BlkIs W0 (w.heap.size+1) 3 #[.int .i64 n]:=by
  have:=(BlkIs.new (w.alloc (.cells #[.pointer (some ⟨p,0,none⟩)] 23)) 3 #[.int .i64 n]).alloc (.cells #[.int .i64 c] 3)
  rw[World.size_alloc] at this
  rw[d]
  exact this
 have h:BlkIs W0 (w.heap.size+1+1) 3 #[.int .i64 c]:=by
  have:=BlkIs.new ((w.alloc (.cells #[.pointer (some ⟨p,0,none⟩)] 23)).alloc (.cells #[.int .i64 n] 3)) 3 #[.int .i64 c]
  rw[World.size_alloc,World.size_alloc] at this
  rw[d]
  exact this
 have C:AnsF W0 138 #[.pointer (some ⟨w.heap.size+1,0,none⟩),.pointer (some ⟨w.heap.size+1+1,0,none⟩),.pointer (some ⟨w.heap.size,0,none⟩)] (decide (n<c∨size<=n)) :=
  ansThere (p:=p) ((q.cell 0).trans rfl) ((h.cell 0).trans rfl) ((j.cell 0).trans rfl) ((g.cell (p:=⟨p,0,none⟩) (cell_lt hc)).trans hc) q.lt h.lt j.lt (zO (cell_lt hc) g.size)
 obtain⟨f,hf⟩:∃f:Value,f = .func (.func 138) #[] #[.pointer (some ⟨w.heap.size+1,0,none⟩),.pointer (some ⟨w.heap.size+1+1,0,none⟩),.pointer (some ⟨w.heap.size,0,none⟩)]:=⟨_,rfl⟩
 have E:f.oneCell'=true:=by rw[hf];rfl
 have F:=Lib.hid C
 have G:Hid (((w.alloc (.cells #[.pointer (some ⟨p,0,none⟩)] 23)).alloc (.cells #[.int .i64 n] 3)).alloc (.cells #[.int .i64 c] 3)=W0):=Lib.hid d.symm
 have u:=Lib.hid hf
 have r:=Lib.hid s
 clear C j q h d s hc hf
 go_enter Tryz.func85,Tryz.ntmps85
 go_wp2_with (rw[G.out];refine wp_storeBox rfl 140 (.tmp 6) (.tmp 8) (w:=W0) rfl (cs':=#[f,.int .i64 4]) (by rw[r.out];rfl) (by rw[u.out];rfl) rowPAsk rfl rfl (by simp[E];rfl) ?_;intro w4 B b4)
 have H:Below w.heap.size w w4:=g.trans (B.mono g.size)
 rw[r.out] at b4
 refine bodyPost_ret_by (results_cellW 6 rfl rfl rowPAsk b4 rfl) rfl ⟨_,_,_,by rw[u.out],H,F.out.later B⟩
theorem RdE.anyP {x:Int ⊕ List UInt8}{e:Ending}{w':World}(h:RdE x e w'):∃A n k er,e = .returned (.tuple #[.slice A n k,.int .i64 er]):=by
 cases x with
 | inl er =>
  obtain rfl:=h
  exact⟨none,0,0,er,rfl⟩
 | inr y =>
  obtain⟨A,c,rfl,d,_⟩:=h
  exact⟨A,y.length,c,0,rfl⟩
section
variable {W0 W:World}{K:PgK}{p:Nat}{v:PgV}{st last:PgSt}{under:Bool}{mk:Value}{ms:List MkT}
def PrOut (W0:World)(K:PgK)(p:Nat)(v:PgV)(st last:PgSt)(under:Bool)(mk:Value)(n:Int)(W:World)(e:Ending)(w':World):Prop:=∃x v',RdE x e w'/\PaIs W0 K p v' st last under mk w'/\v'.N=v.N+1/\v'.i=v.i/\v'.Y K=v.Y K/\v'.S.sz=v.S.sz/\v'.D=v.D/\(∀y,x = .inr y->y=v.view K n.toNat/\y.length=512)/\(∀er,x = .inl er->(er=4/\(K.P:Int)<=n)∨(er=160/\Tight K v.D))/\Names K W v v'/\GrowBut (K.mu v) W w'
theorem PrOut.of {n:Int}{e:Ending}{w':World}(h:∃x v',RdE x e w'/\PaIs W0 K p v' st last under mk w'/\v'.N=v.N+1/\v'.i=v.i/\v'.Y K=v.Y K/\v'.S.sz=v.S.sz/\v'.D=v.D/\(∀y,x = .inr y->y=v.view K n.toNat/\y.length=512)/\(∀er,x = .inl er->(er=4/\(K.P:Int)<=n)∨(er=160/\Tight K v.D))/\Names K W v v'/\GrowBut (K.mu v) W w'):PrOut W0 K p v st last under mk n W e w':=h
theorem preadp_gives (h:PaIs W0 K p v st last under mk W)(T:K.Ok)(hN:v.N<=800000)(n:Int)(hn:1<=n/\n<st.size)(f:List UInt8)(P:v.D n=some f):Calls Tryz.prog 144 #[.pointer (some ⟨p,0,none⟩),.int .i64 n] W (PrOut W0 K p v st last under mk n W):=by
 have M:=pnone_gives h.chc
 have s:=pthereF_gives W p st.size n 1 h.szc
 rw[decide_eq_false (by omega)] at s
 go_enter Tryz.func144,Tryz.ntmps144
 go_wp2_with (first
  | (go_at_call 69;refine M.mono ?_;rintro e w' ⟨rfl,rfl⟩)
  | (go_at_call 85;refine s.mono ?_;rintro e Z ⟨x,y,z,rfl,c,H⟩)
  | (refine wp_storeBox rfl 140 (.tmp 6) (.tmp 11) rfl rfl rfl rowPAsk rfl rfl (λu hu=>by simp at hu;rcases hu with rfl|rfl<;>rfl) ?_;intro V d E;have q:=H.later d;have c2:V.cell? ⟨Z.heap.size,0,none⟩=some (.func (.func 138) #[] #[x,y,z]):=(E.cell 0).trans rfl;have eg:=q.enters))
 refine(q.says _ (Below.refl _ _)).mono ?_
 rintro e w3 ⟨rfl,I⟩
 have j:Below W.heap.size W w3:=(c.trans (d.mono c.size)).trans (I.mono (by have:=c.size;have:=d.size;omega))
 have g:=h.grow j
 have aA:=g.chc
 clear M s H q c2 eg E c d I
 go_wp2_with fail
 refine(gread g.ca T hN n f P).mono ?_
 rintro e w4 ⟨v4,r,aB,_,O,S,r2,U,r4,r5,L,C⟩
 have G:=g.turn C O
 have aC:f=v.view K n.toNat:=by
  rw[PgV.view_eq,show ((n.toNat:Nat):Int)=n by omega,P]
  rfl
 have F:PrOut W0 K p v st last under mk n W e w4:=PrOut.of ⟨.inr f,v4,r,G,S,r2,U,r4,r5,λz B=>(by injection B with B;rw[<-B];exact⟨aC,aB⟩),(λer X=>by cases X),L.mono j.size,(GrowBut.below j).trans C⟩
 have HO:=Lib.hid F
 obtain⟨A4,k4,c4,er,rfl⟩:=r.anyP
 clear F g G O C L aA r
 go_wp2
 go_ret2
 exact HO.out
end
theorem num13_gives (e:Int)(w:World):Calls Tryz.prog 7 #[.int .i64 e] w λx w'=>x = .returned (.int .i64 e)/\w=w':=by
 go_enter Tryz.func7,Tryz.ntmps7
 go_wp2
 go_ret
 exact⟨rfl,rfl⟩
structure NewP (w:World)(K:PgK)(p:Nat)(v:PgV)(w':World):Prop where
 ok:K.Ok
 is:PaIs w K p v st01 st01 true (.slice none 0 0) w'
 nn:v.N<=3
 ii:v.i<=2
 sz:v.S.sz=1
 dd:v.D=λ_=>none
 yy:v.Y K 0=headPB st01
theorem begun13_gives (w:World)(pg room:Int)(P:Nat)(u:planOk 400 pg=true)(hP:(P:Int)=pg)(aB:P<=900)(E:2<=room/\room<=2000)(aA:(P:Int)<=room) :
  Calls Tryz.prog 5 #[.int .i64 pg,.int .i64 room] w λe w'=>∃K p v,e = .returned (.tuple #[.pointer (some ⟨p,0,none⟩),.bool true])/\(K.P=P/\K.pg=pg/\K.fr=400/\K.room=room)/\NewP w K p v w':=by
 have C:=(planOk_iff 400 pg).1 u
 obtain⟨many,H⟩:∃many:Nat,many=3602+8*P:=⟨_,rfl⟩
 have F:(many:Int)=2+9*400+8*pg:=by omega
 have N:many<=40000:=by omega
 have aG:1<=many:=by omega
 have aF:∀W,Calls Tryz.prog 20 #[.agg #[.int .i64 400,.int .i64 pg]] W λe w'=>e = .returned (.int .i64 (many:Int))/\Below W.heap.size W w':=λW=>by
  rw[F]
  exact refSectors_gives 400 pg W C.1 C.2
 obtain⟨W1,q⟩:∃W1,W1=w.alloc (.cells #[.int .i64 400,.int .i64 pg] 59):=⟨_,rfl⟩
 have s:BlkIs W1 w.heap.size 59 #[.int .i64 400,.int .i64 pg]:=by rw[q];exact BlkIs.new w _ _
 have c:Below w.heap.size w W1:=by rw[q];exact(Below.refl _ w).alloc (zH _) _
 have aK:=Lib.hid q.symm
 have aO:=Lib.hid H
 have S:=Lib.hid F
 have I:=Lib.hid u
 have M:=Lib.hid hP
 clear q H F u hP C
 go_enter Tryz.func5,Tryz.ntmps5
 go_wp2_with fail
 rw[aK.out]
 refine(aF _).mono ?_
 rintro e w2 ⟨rfl,j⟩
 go_wp2_with fail
 refine(new_gives _ many aG N).mono ?_
 rintro e w3 ⟨d,rfl,aE,U,Z⟩
 have B:=j.trans (Z.mono j.size)
 have G:=c.trans (B.mono c.size)
 have L:=s.below B s.lt
 have aJ:=zU (c.trans (j.mono c.size)).size aE
 have aC:=fopen_new2 w3 d many 400 pg G aJ U I.out S.out (by omega)
 go_wp2_with (refine wp_exec rfl (x_loadQ rowPlan L rfl rfl rfl) ?_)
 refine aC.mono ?_
 rintro e w4 ⟨f,l,rfl,aD,aN,aM⟩
 clear aC
 go_wp2_with fail
 refine(popen_new (P:=P) (room:=room) aD I.out S.out N M.out aB E aA).mono ?_
 rintro e w5 (⟨_,p,a,r,v0,rfl,V,n0,i0,s0,O,T⟩|⟨h,_⟩)
 rotate_left
 ·exact absurd E h
 obtain⟨K,g⟩:∃K:PgK,K=⟨d,f,l,a,r,many,P,400,pg,room⟩:=⟨_,rfl⟩
 rw[<-g] at V T
 have hK:K.Ok:=by rw[g];exact⟨M.out,aB,E,aA⟩
 have X:K.P=P/\K.pg=pg/\K.fr=400/\K.room=room:=by rw[g];exact⟨rfl,rfl,rfl,rfl⟩
 have aL:=Lib.hid X
 have aH:=Lib.hid O
 clear g X O aD U c B Z j G s L
 go_wp2_with (first
  | (go_at_call 7;refine(num13_gives _ _).mono ?_;rintro e wn ⟨rfl,rfl⟩)
  | (go_at_call 23;refine(pbegin_gives V).mono ?_;rintro e w6 ⟨rfl,aI,_⟩))
 exact bodyPost_ret (results_tmp2 rfl _ _ _) rfl ⟨K,p,v0,rfl,aL.out,hK,aI,n0,i0,s0,aH.out,T⟩
section
variable {W0 W W':World}{K:PgK}{p:Nat}{v v':PgV}{st last st' last':PgSt}{under under':Bool}{mk mk':Value}{ms:List MkT}
theorem PaIs.notTyQ (h:PaIs W0 K p v st last under mk W){k:Nat}{T:TypeId}{cs:Array Value}(d:BlkIs W k T cs)(h1:T≠109)(h2:T≠183)(g:T≠171)(e:T≠175)(f:T≠104):¬ pgMu K p v k:=λc=>by
 rcases c with rfl|c
 ·exact BlkIs.ne_type d h.pb f rfl
 ·exact h.ca.notTyK d h1 h2 g e c
theorem MksIs.turnQ (h:MksIs W0 K v ms mk W)(c:PaIs W0 K p v st last under mk' W)(g:GrowBut (pgMu K p v) W W')(r:Names K W v v'):MksIs W0 K v' ms mk W' :=
 ⟨h.row.keep g (λk j=>by
  rintro(e|e)
  ·subst e
   exact(h.row.blk k j).1.notTy c.pb (by decide)
  ·exact c.ca.notMk (h.row.blk k j).1 e),λx s=>by
  obtain⟨h1,h2,q⟩:=h.maps x s
  refine⟨h1.keepS g c.sms (λe => ?_),λe => ?_,q⟩
  ·rcases e with e|e
   ·obtain⟨B,u,f,d,_⟩:=h1.has
    rw[e] at d
    exact d.notBlk c.pb rfl
   ·exact h2 e
  ·rcases r _ e with e|e
   ·exact h2 e
   ·have:=h1.lt
    omega⟩
end
def Sup (D:Int->Option (List UInt8))(l:List Nat):Prop:=∀p b,D p=some b->p.toNat∈l
theorem Sup.putIn {D:Int->Option (List UInt8)}{l:List Nat}(h:Sup D l){n:Int}(hn:n.toNat∈l)(y:List UInt8):Sup (λj=>if j=n then some y else D j) l:=λp b e=>by
 replace e:(if p=n then some y else D p)=some b:=e
 by_cases c:p=n
 ·rw[c];exact hn
 ·rw[if_neg c] at e
  exact h p b e
theorem Sup.loose {K:PgK}{D:Int->Option (List UInt8)}{l:List Nat}(h:Sup D l)(c:(l.length:Int)<K.room):¬ Tight K D:=λht=>by
 have:=ht l h
 omega
section
variable {K:PgK}{v v':PgV}{st st':PgSt}{n x:Int}
theorem MkF.new (h:MkF K v v' st st' n x)(hf:st.first=0)(hs:st.size<K.pg)(ht:¬ Tight K v.D):x=0/\n=st.size/\st' = { st with size:=st.size+1 }/\v'.D=λj=>if j=st.size then some zeroB else v.D j:=by
 rcases h.dd with⟨h1,_,h3,_,h5,h6⟩|⟨_,h2,_⟩|⟨_,_,_,_,h5⟩
 ·exact⟨h1,h3,h5,by rw[h6,h3]⟩
 ·exact absurd hf h2
 ·rcases h5 with⟨_,h6,_⟩|h6|⟨h6,_⟩
  ·omega
  ·exact absurd h6 ht
  ·exact absurd hf h6
theorem MkF.old (h:MkF K v v' st st' n x)(hf:st.first≠0){f:Int}(c:v.view K st.first.toNat=linkB f)(e:0<=f/\f<st.size)(hs:st.size<=1000)(g:1<=st.many)(ht:¬ Tight K v.D):x=0/\n=st.first/\st' = { st with first:=f,many:=st.many - 1 }/\v'.D=λj=>if j=st.first then some zeroB else v.D j:=by
 have d:=linkB_next (f:=f) ⟨e.1,by omega⟩
 rcases h.dd with⟨_,h2,_⟩|⟨h1,_,h3,h4,h5⟩|⟨_,_,_,_,h5⟩
 ·exact absurd h2 hf
 ·rw[c,d] at h4
  exact⟨h1,h3,h4,by rw[h5,h3]⟩
 ·rcases h5 with⟨h6,_⟩|h6|⟨_,h6⟩
  ·exact absurd h6 hf
  ·exact absurd h6 ht
  ·rw[c,d] at h6
   omega
end
theorem tmust_ok (w:World):Calls Tryz.prog 34 #[.int .i64 0] w λe w'=>(∃v,e = .returned v)/\w=w':=by
 go_enter Tryz.func34,Tryz.ntmps34
 go_wp2
 go_end0
 exact⟨⟨_,rfl⟩,rfl⟩
structure TrAt (W0:World)(K:PgK)(p t:Nat)(k:Int)(v:PgV)(st last:PgSt)(under:Bool)(mk:Value)(ms:List MkT)(W:World):Prop where
 pa:PaIs W0 K p v st last under mk W
 mm:MksIs W0 K v ms mk W
 tb:BlkIs W t 32 #[.pointer (some ⟨p,0,none⟩),.int .i64 k]
structure KeptP (K:PgK)(v v':PgV):Prop where
 nn:v'.N<=v.N+1
 ii:v'.i=v.i
 yy:v'.Y K=v.Y K
 sz:v'.S.sz=v.S.sz
 dd:v'.D=v.D
structure PgNod (K:PgK)(v:PgV)(n:Int)(x:Nod):Prop where
 at_:(v.D n).isSome=true
 fits:FitsIn x (v.view K n.toNat)
 rd:rdNod (v.view K n.toNat)=some x
section
variable {W0 W W':World}{K:PgK}{p t:Nat}{k:Int}{v v':PgV}{st last st' last':PgSt}{under:Bool}{mk mk':Value}{ms:List MkT}
theorem TrAt.grow (h:TrAt W0 K p t k v st last under mk ms W)(hB:Below W.heap.size W W'):TrAt W0 K p t k v st last under mk ms W':=⟨h.pa.grow hB,h.mm.grow hB,h.tb.below hB h.tb.lt⟩
theorem TrAt.notMu (h:TrAt W0 K p t k v st last under mk ms W):¬ pgMu K p v t:=h.pa.notTyQ h.tb (by decide) (by decide) (by decide) (by decide) (by decide)
theorem TrAt.turn (h:TrAt W0 K p t k v st last under mk ms W)(e:PaIs W0 K p v' st' last under mk W')(c:GrowBut (pgMu K p v) W W')(d:Names K W v v'):TrAt W0 K p t k v' st' last under mk ms W' :=
 ⟨e,h.mm.turnQ h.pa c d,c.blk h.tb h.notMu⟩
theorem SmBlk.of {b:Nat}{T:TypeId}{cs:Array Value}(c:BlkIs W b T cs)(hs:cs.size<=64)(d:∀n,cs[0]? ≠ some (.int .u64 n)):SmBlk W b :=
 ⟨.inr (.inl ⟨_,_,c,hs,d⟩),.inr (.inl ⟨_,_,c,hs⟩)⟩
def Boxy (T:TypeId):Prop:=T≠109/\T≠183/\T≠171/\T≠175/\T≠104/\T≠114/\T≠32/\T≠208/\T≠999999
theorem PaIs.keepS (h:PaIs W0 K p v st last under mk W){b:Nat}{T:TypeId}{cs:Array Value}(d:GrowBut (λk=>k=b) W W')(c:BlkIs W b T cs)(j:SmBlk W b)(q:W0.heap.size<=b)(f:Boxy T):PaIs W0 K p v st last under mk W':=by
 obtain⟨t1,r,t3,t4,t5,g,_⟩:=f
 exact⟨h.ca.keep d (λk e=>by subst e;exact j) (λk e=>by subst e;exact q) (λk e=>by subst e;exact⟨h.ca.notTyK c t1 r t3 t4,BlkIs.ne_type c h.ca.cs.fh.fb g⟩),d.blk h.pb (λe=>BlkIs.ne_type c h.pb t5 e.symm),h.np,h.hs,h.hl⟩
theorem MksIs.keepB (h:MksIs W0 K v ms mk W){b:Nat}{T:TypeId}{cs:Array Value}(j:GrowBut (λk=>k=b) W W')(c:BlkIs W b T cs)(r:SmBlk W b)(g:Boxy T):MksIs W0 K v ms mk W' :=
 ⟨h.row.keep j (λk u e=>by
  have e:k=b:=e
  subst e
  exact(h.row.blk k u).1.notTy c ⟨g.2.2.2.2.2.2.2.1,g.2.2.2.2.2.2.2.2⟩),λx s=>by
  obtain⟨h1,h2,q⟩:=h.maps x s
  refine⟨h1.keepS j (λk e=>by subst e;exact r) (λe => ?_),h2,q⟩
  obtain⟨B,C,f,d,_⟩:=h1.has
  rw[e] at d
  exact d.notBlk c rfl⟩
theorem TrAt.keepB (h:TrAt W0 K p t k v st last under mk ms W){b:Nat}{T:TypeId}{cs:Array Value}(f:GrowBut (λk=>k=b) W W')(c:BlkIs W b T cs)(hs:cs.size<=64)(g:∀n,cs[0]? ≠ some (.int .u64 n))(j:W0.heap.size<=b)(d:Boxy T):TrAt W0 K p t k v st last under mk ms W' :=
 ⟨h.pa.keepS f c (SmBlk.of c hs g) j d,h.mm.keepB f c (SmBlk.of c hs g) d,f.blk h.tb (λe=>BlkIs.ne_type c h.tb d.2.2.2.2.2.2.1 e.symm)⟩
theorem TrAt.up (h:TrAt W0 K p t k v st last under mk ms W):W0.heap.size<=W.heap.size:=h.pa.ca.cs.fh.up.size
theorem TrAt.notB (h:TrAt W0 K p t k v st last under mk ms W){b:Nat}{T:TypeId}{cs:Array Value}(d:BlkIs W b T cs)(c:Boxy T):¬ pgMu K p v b:=h.pa.notTyQ d c.1 c.2.1 c.2.2.1 c.2.2.2.1 c.2.2.2.2.1
theorem growB_setRow (w:World)(b:Nat)(cs:Array Value):GrowBut (λk=>k=b) w (w.setRow b cs):=⟨rfl,rfl,rfl,by simp[World.setRow],λk _ c=>setRow_other w b k cs c⟩
theorem TrAt.tp (h:TrAt W0 K p t k v st last under mk ms W):W.cell? ⟨t,0,none⟩=some (.pointer (some ⟨p,0,none⟩)):=by rw[h.tb.cell];rfl
theorem TrAt.tk (h:TrAt W0 K p t k v st last under mk ms W):W.cell? ⟨t,1,none⟩=some (.int .i64 k):=by rw[h.tb.cell];rfl
theorem TrAt.none (h:TrAt W0 K p t k v st last under mk ms W):Calls Tryz.prog 26 #[.pointer (some ⟨t,0,none⟩)] W λe w'=>e = .returned (.bool false)/\W=w':=tnone_gives h.tp
theorem KeptP.view (h:KeptP K v v')(n:Nat):v'.view K n=v.view K n:=by rw[PgV.view_eq,PgV.view_eq,h.yy,h.dd]
theorem PgNod.kept {n:Int}{x:Nod}(h:PgNod K v n x)(c:KeptP K v v'):PgNod K v' n x:=⟨by rw[c.dd];exact h.at_,by rw[c.view];exact h.fits,by rw[c.view];exact h.rd⟩
theorem troot_gives (h:TrAt W0 K p t k v st last under mk ms W){i:Nat}(r:k=(i:Int)){n:Int}(j:st.roots[i]? = some n):Calls Tryz.prog 17 #[.pointer (some ⟨t,0,none⟩)] W λe w'=>e = .returned (.int .i64 n)/\Below W.heap.size W w':=by
 have u:=h.none
 have hd:=h.grow (Below.refl _ W).drew
 have q:=proot_gives hd.pa i n j
 have c:W.drew.cell? ⟨t,0,none⟩=some (.pointer (some ⟨p,0,none⟩))/\W.drew.cell? ⟨t,1,none⟩=some (.int .i64 k):=⟨hd.tp,hd.tk⟩
 rw[<-r] at q
 have s:Below W.heap.size W W.drew:=(Below.refl _ W).drew
 clear h hd r j
 go_enter Tryz.func17,Tryz.ntmps17
 go_wp2_with (go_at_call 26;refine u.mono ?_;rintro e B ⟨rfl,rfl⟩)
 refine RegF.start (λW':World=>W'.cell? ⟨t,0,none⟩=some (.pointer (some ⟨p,0,none⟩))/\W'.cell? ⟨t,1,none⟩=some (.int .i64 k)) 99 (by kernel_rfl) ?_
 generalize W.drew=g at *
 refine RegF.t0 0 (.pointer (some ⟨t,0,none⟩)) rfl c (λW ⟨d,f⟩=>by go_simp) ?_
 simp only[zE,zB,Act.put,zA,zG,zF]
 refine RegF.t0 1 (.pointer (some ⟨t,0,none⟩)) rfl c (λW ⟨d,f⟩=>by go_simp) ?_
 simp only[zE,zD,zB,Act.put,zA,zG,zF]
 refine RegF.t0 2 (.pointer (some ⟨t,0,none⟩)) rfl c (λW ⟨d,f⟩=>by go_simp) ?_
 simp only[zE,zD,zB,Act.put,zA,zG,zF]
 refine RegF.t0 3 (.pointer (some ⟨p,0,none⟩)) rfl c (λW ⟨d,f⟩=>by go_simp) ?_
 simp only[zE,zD,zB,Act.put,zA,zG,zF]
 refine RegF.t0 4 (.pointer (some ⟨t,0,none⟩)) rfl c (λW ⟨d,f⟩=>by go_simp) ?_
 simp only[zE,zD,zB,Act.put,zA,zG,zF]
 refine RegF.t0 5 (.pointer (some ⟨t,0,none⟩)) rfl c (λW ⟨d,f⟩=>by go_simp) ?_
 simp only[zE,zD,zB,Act.put,zA,zG,zF]
 refine RegF.t0 6 (.pointer (some ⟨t,1,none⟩)) rfl c (λW ⟨d,f⟩=>by go_simp) ?_
 simp only[zE,zD,zB,Act.put,zA,zG,zF]
 refine RegF.t0 7 (.int .i64 k) rfl c (λW ⟨d,f⟩=>by go_simp) ?_
 simp only[zE,zD,zB,Act.put,zA,zG,zF]
 refine RegF.one 8 (by kernel_rfl) ?_
 refine RegF.opC 25 #[.tmp 11,.tmp 15] #[23,3] rfl rfl rfl (enters_of Tryz.func25 (by kernel_rfl) rfl) #[.pointer (some ⟨p,0,none⟩),.int .i64 k] (by simp only[zK,zL,zN];rfl) (q.mono ?_)
 rintro e w5 ⟨rfl,rfl⟩
 refine⟨_,rfl,λ_=>c,?_⟩
 simp only[zE,zD,zB,Act.put,zA,zG,zF]
 refine RegF.one 9 (by kernel_rfl) (RegF.opV (w':=g) (.tuple #[.int .i64 n,.int .i64 0]) rfl rfl (by go_simp) ⟨λ_=>c,?_⟩)
 simp only[zE,zD,zB,Act.put,zA,zG,zF]
 refine RegF.t0 10 (.int .i64 n) rfl c (λW ⟨d,f⟩=>by go_simp) ?_
 simp only[zE,zD,zB,Act.put,zA,zG,zF]
 refine RegF.t0 11 (.int .i64 0) rfl c (λW ⟨d,f⟩=>by go_simp) ?_
 simp only[zE,zD,zB,Act.put,zA,zG,zF]
 refine RegF.one 12 (by kernel_rfl) (RegF.opV (w':=g) (.int .i64 n) rfl rfl (by go_simp) ⟨λ_=>c,?_⟩)
 simp only[zE,zD,zB,Act.put,zA,zG,zF]
 refine RegF.one 13 (by kernel_rfl) (RegF.opV (w':=g) (.int .i64 0) rfl rfl (by go_simp) ⟨λ_=>c,RegF.done (by kernel_rfl) ?_⟩)
 simp only[zE,zD,zB,Act.put,zA,zG,zF]
 go_wp2
 go_ret
 exact⟨rfl,s⟩
theorem tpage_gives (h:TrAt W0 K p t k v st last under mk ms W)(M:K.Ok)(hN:v.N<=800000)(n:Int)(hn:1<=n/\n<st.size)(hP:n<(K.P:Int))(O:¬ Tight K v.D)(T:(v.D n).isSome=true) :
  Calls Tryz.prog 87 #[.agg #[.pointer (some ⟨t,0,none⟩)],.int .i64 n] W λe w'=>∃v' A c,e = .returned (.slice A 512 c)/\InB w' w'.heap.size A c (v.view K n.toNat)/\(v.view K n.toNat).length=512/\TrAt W0 K p t k v' st last under mk ms w'/\KeptP K v v'/\Names K W v v'/\GrowBut (pgMu K p v) W w':=by
 obtain⟨W1,d⟩:∃W1,W1=W.alloc (.cells #[.pointer (some ⟨t,0,none⟩)] 74):=⟨_,rfl⟩
 have f:Below W.heap.size W W1:=by rw[d];exact below1 _ _
 have F:BlkIs W1 W.heap.size 74 #[.pointer (some ⟨t,0,none⟩)]:=by rw[d];exact BlkIs.new W _ _
 have h1:=h.grow f
 have c0:=h1.tp
 have c1:=F.boxed
 obtain⟨U,I⟩:=Option.isSome_iff_exists.1 T
 have C:=preadp_gives h1.pa M hN n hn U I
 have u:=c0
 rw[d] at u
 have aA:=Lib.hid d.symm
 clear d
 go_enter Tryz.func87,Tryz.ntmps87
 go_wp2_with fail
 rw[aA.out]
 refine C.mono ?_
 rintro e w2 ⟨x,v',L,q,e1,G,E,s,H,r,B,j,g⟩
 rcases x with er|y
 ·exfalso
  rcases B er rfl with h2|h2
  ·omega
  ·exact O h2.2
 obtain⟨rfl,Z⟩:=r y rfl
 obtain⟨A,c,rfl,X,_⟩:=L
 have aB:GrowBut (pgMu K p v) W w2:=(GrowBut.below f).trans (growMu g)
 have h2:=h1.turn q (growMu g) j
 have V:Names K W v v':=j.mono f.size
 have S:KeptP K v v':=⟨by omega,G,E,s,H⟩
 clear C h h1 q e1 G E s H r B j g c0 u c1 F
 go_wp2_with (go_at_call 34;refine(tmust_ok _).mono ?_;rintro e w3 ⟨⟨_,rfl⟩,rfl⟩)
 go_ret
 exact⟨v',A,c,rfl,X,Z,h2,S,V,aB⟩
theorem tnodeO_gives (h:TrAt W0 K p t k v st last under mk ms W)(hK:K.Ok)(hN:v.N<=800000)(n:Int)(hn:1<=n/\n<st.size)(hP:n<(K.P:Int))(hT:¬ Tight K v.D)(x:Nod)(Z:PgNod K v n x) :
  Calls Tryz.prog 44 #[.agg #[.pointer (some ⟨t,0,none⟩)],.int .i64 n] W λe w'=>∃v' E cc B C s ci,e = .returned (.agg (nodC x E cc B C s ci))/\NIs w' w'.heap.size x E cc B C s ci/\TrAt W0 K p t k v' st last under mk ms w'/\KeptP K v v'/\Names K W v v'/\GrowBut (pgMu K p v) W w'/\∃d,TrAt W0 K p t k v' st last under mk ms d/\Below d.heap.size d w'/\W.heap.size<=d.heap.size/\RowsOwn w' d.heap.size x E cc B C s ci:=by
 have a0:=h.up
 obtain⟨W1,j⟩:∃W1,W1=(W.alloc (.cells #[.pointer (some ⟨t,0,none⟩)] 74)).alloc (.cells zeroN 43):=⟨_,rfl⟩
 have aA:Below W.heap.size W W1:=by rw[j];exact below2 _ _ _
 have b1:BlkIs W1 W.heap.size 74 #[.pointer (some ⟨t,0,none⟩)]:=by rw[j];exact(BlkIs.new W _ _).alloc _
 have b4:BlkIs W1 (W.heap.size+1) 43 zeroN:=by
  have:=BlkIs.new (W.alloc (.cells #[.pointer (some ⟨t,0,none⟩)] 74)) 43 zeroN
  rw[World.size_alloc] at this
  rw[j]
  exact this
 have a1:W1.heap.size=W.heap.size+1+1:=by rw[j,World.size_alloc,World.size_alloc]
 have h1:=h.grow aA
 have c1:=b1.boxed
 have HP:=tpage_gives h1 hK hN n hn hP hT Z.at_
 have aB:=c1
 rw[j] at aB
 unfold zeroN at j b4 aB
 have aP:=Lib.hid j.symm
 have nb:=h1.notB b4 (by unfold Boxy;decide)
 clear j h
 go_enter Tryz.func44,Tryz.ntmps44
 go_wp2_with fail
 rw[aP.out]
 refine HP.mono ?_
 rintro e F ⟨v',A,c,rfl,aF,aG,h2,aO,aK,S⟩
 have L:=S.blk b4 nb
 have T:=ndecodeY_gives F A c (v.view K n.toNat) aF x Z.rd Z.fits
 rw[aG] at T
 unfold DecYesF at T
 clear HP
 go_wp2_with fail
 refine T.mono ?_
 rintro e f ⟨E,cc,B,C,s,ci,rfl,n3,G,aC⟩
 have aL:=aC.rows
 obtain⟨N,H⟩:∃N,N=nodC x E cc B C s ci:=⟨_,rfl⟩
 have V:N.size=4:=by rw[H];rfl
 have aI:∀u∈N.toList,u.oneCell'=true:=by rw[H];exact four_oneC rfl rfl rfl rfl
 have aY:∀m,N[0]? ≠ some (.int .u64 m):=λm e=>by rw[H] at e;cases e
 rw[<-H]
 have aZ:W.heap.size+2<=F.heap.size:=by have:=S.size;omega
 have aV:=G.size
 have h3:=h2.grow G
 have aD:=L.below G L.lt
 obtain⟨W4,U⟩:∃W4,W4=f.alloc (.cells #[.bool false,.slice none 0 0,.slice none 0 0,.slice none 0 0] 43):=⟨_,rfl⟩
 have aJ:BlkIs W4 f.heap.size 43 #[.bool false,.slice none 0 0,.slice none 0 0,.slice none 0 0]:=by rw[U];exact BlkIs.new f _ _
 have aM:Below f.heap.size f W4:=by rw[U];exact below1 _ _
 have q:Below f.heap.size f (W4.setRow f.heap.size N):=below_setRow aM (zH _) _
 have aT:=aJ.setRow N
 generalize aN:W4.setRow f.heap.size N=W5 at *
 have h5:=h3.grow q
 have n5:=n3.grow q
 have X:=aD.below q aD.lt
 have aX:=q.size
 have h6:=h5.keepB (growB_setRow W5 (W.heap.size+1) N) X (by decide) (λm e=>by cases e) (by omega) (by unfold Boxy;decide)
 have aE:=X.setRow N
 have n6:=n5.keepAt (w':=W5.setRow (W.heap.size+1) N) aL (by simp[World.setRow]) (λr M=>setRow_other _ _ r _ (by omega))
 have o6:=(aC.keepAt (w':=W5) (λr _ M=>q.block r M)).keepAt (w':=W5.setRow (W.heap.size+1) N) (λr M _=>setRow_other _ _ r _ (by omega))
 have o7:∃d,TrAt W0 K p t k v' st last under mk ms d/\Below d.heap.size d (W5.setRow (W.heap.size+1) N)/\W.heap.size<=d.heap.size/\RowsOwn (W5.setRow (W.heap.size+1) N) d.heap.size x E cc B C s ci:=by
  have aH:(F.setRow (W.heap.size+1) N).heap.size=F.heap.size:=by simp[World.setRow]
  have O:=G.trans (q.mono aV)
  refine⟨F.setRow (W.heap.size+1) N,h2.keepB (growB_setRow F (W.heap.size+1) N) L (by decide) (λm e=>by cases e) (by omega) (by unfold Boxy;decide),?_,by omega,by rw[aH];exact o6⟩
  rw[aH]
  refine⟨O.os,O.tape,O.output,by simp[World.setRow];exact O.size,λr M => ?_⟩
  by_cases e:r=W.heap.size+1
  ·rw[e]
   exact aE.trans (L.setRow N).symm
  ·exact(setRow_other _ _ r _ e).trans ((O.block r M).trans (setRow_other _ _ r _ e).symm)
 have aQ:GrowBut (pgMu K p v) W (W5.setRow (W.heap.size+1) N):=by
  have I:GrowBut (pgMu K p v) W W5:=(((GrowBut.below aA).trans S).trans (GrowBut.below G)).trans (GrowBut.below q)
  exact⟨I.os,I.tape,I.output,by simp[World.setRow];exact I.size,λk hk hm=>(setRow_other _ _ k _ (by omega)).trans (I.block k hk hm)⟩
 have aW:Names K W v v':=aK.mono aA.size
 have aS:=Lib.hid H
 have aR:=Lib.hid U.symm
 have aU:=Lib.hid aN
 clear h1 h2 h3 h5 n3 n5 aL aC aF aG aK S L aD b1 b4 c1 aB U aN H G aM q T
 go_wp2_with (first
  | (rw[aR.out];refine wp_storeW rfl 43 (.tmp 5) (.tmp 12) rfl f.heap.size rfl rfl rowNod aJ rfl V aI ?_;rw[aU.out])
  | (refine wp_loadW rfl 43 (.tmp 5) rfl f.heap.size rfl rowNod aT V ?_)
  | (refine wp_storeW rfl 43 (.tmp 4) (.tmp 17) rfl (W.heap.size+1) rfl rfl rowNod X rfl V aI ?_))
 exact bodyPost_ret_by (results_one rfl (rval_row (g:=W.heap.size+1) 4 rfl rowNod aE V)) rfl ⟨v',E,cc,B,C,s,ci,by rw[aS.out],n6,h6,aO,aW,aQ,o7⟩
theorem tnode_gives (h:TrAt W0 K p t k v st last under mk ms W)(q:K.Ok)(F:v.N<=800000)(n:Int)(hn:1<=n/\n<st.size)(hP:n<(K.P:Int))(s:¬ Tight K v.D)(x:Nod)(E:PgNod K v n x) :
  Calls Tryz.prog 44 #[.agg #[.pointer (some ⟨t,0,none⟩)],.int .i64 n] W λe w'=>∃v' g cc d f c j,e = .returned (.agg (nodC x g cc d f c j))/\NIs w' w'.heap.size x g cc d f c j/\TrAt W0 K p t k v' st last under mk ms w'/\KeptP K v v'/\Names K W v v'/\GrowBut (pgMu K p v) W w' :=
 (tnodeO_gives h q F n hn hP s x E).mono λe w' ⟨v',g,cc,d,f,c,j,h1,h2,u,r,B,C,_⟩=>⟨v',g,cc,d,f,c,j,h1,h2,u,r,B,C⟩
end
def pageN (x:Nod):List UInt8:=laidB x++zR (512 - (laidB x).length) 0
structure WrK (K:PgK)(v v':PgV)(n:Int)(y:List UInt8):Prop where
 nn:v'.N<=v.N+2
 ii:v'.i=v.i
 yy:v'.Y K=v.Y K
 sz:v'.S.sz=v.S.sz
 dd:v'.D=λj=>if j=n then some y else v.D j
section
variable {W0 W W':World}{K:PgK}{p t:Nat}{k:Int}{v v':PgV}{st last st' last':PgSt}{mk mk':Value}{ms:List MkT}
theorem twrite_gives (h:TrAt W0 K p t k v st last true mk ms W)(Z:K.Ok)(hN:v.N<=800000)(n:Int)(hn:1<=n/\n<st.size)(hP:n<(K.P:Int))(hT:¬ Tight K v.D)(x:Nod)(C:Option Addr)(cc:Nat)(r:Option Addr)(B:Nat)(g:Option Addr)(ci:Nat)(V:NIs W W.heap.size x C cc r B g ci)(hl:x.cells.length<=1000)(aH:x.keys.length<=1000)(aD:x.kids.length<=1001)(hR:RightP x)(aC:(laidB x).length<=512) :
  Calls Tryz.prog 37 #[.agg #[.pointer (some ⟨t,0,none⟩)],.int .i64 n,.agg (nodC x C cc r B g ci)] W λe w'=>∃v',(∃u,e = .returned u)/\TrAt W0 K p t k v' st last true mk ms w'/\WrK K v v' n (pageN x)/\Names K W v v'/\GrowBut (pgMu K p v) W w':=by
 obtain⟨N,s⟩:∃N,N=nodC x C cc r B g ci:=⟨_,rfl⟩
 have aF:N.size=4:=by rw[s];rfl
 obtain⟨W1,f⟩:∃W1,W1=(W.alloc (.cells #[.pointer (some ⟨t,0,none⟩)] 74)).alloc (.cells N 43):=⟨_,rfl⟩
 have d:Below W.heap.size W W1:=by rw[f];exact below2 _ _ _
 have L:BlkIs W1 W.heap.size 74 #[.pointer (some ⟨t,0,none⟩)]:=by rw[f];exact(BlkIs.new W _ _).alloc _
 have S:BlkIs W1 (W.heap.size+1) 43 N:=by
  have:=BlkIs.new (W.alloc (.cells #[.pointer (some ⟨t,0,none⟩)] 74)) 43 N
  rw[World.size_alloc] at this
  rw[f]
  exact this
 have h1:=h.grow d
 have O:=V.grow d
 have E:=encode_ok W1 x C cc r B g ci O hl aH aD hR aC
 have aB:(pageN x).length=512:=by unfold pageN;rw[zJ,List.length_replicate];omega
 unfold EncOut at E
 rw[show laidB x++zR (512 - (laidB x).length) 0=pageN x from rfl,<-s] at E
 rw[<-s]
 have aG:=Lib.hid f.symm
 clear f V O s h
 go_enter Tryz.func37,Tryz.ntmps37
 go_wp2_with (first
  | (rw[aG.out];refine wp_loadW rfl 43 (.tmp 5) rfl (W.heap.size+1) rfl rowNod S aF ?_))
 refine E.mono ?_
 rintro e w2 ⟨A,c,rfl,U,q⟩
 have h2:=h1.grow q
 have c0:=h2.tp
 have c1:=(L.below q L.lt).boxed
 have M:=pwritep_gives h2.pa Z hN n hn hP A c (pageN x) aB U
 go_wp2_with (first
  | (go_at_call 34;refine(tmust_ok _).mono ?_;rintro e w3 ⟨⟨_,rfl⟩,rfl⟩))
 refine M.mono ?_
 rintro e w4 ⟨xe,v',rfl,X,hF,G,I⟩
 obtain⟨rfl,T⟩:xe=0/\v'.D=λj=>if j=n then some (pageN x) else v.D j:=by
  rcases hF.dd with F|⟨_,F,_⟩
  ·exact F
  ·exact absurd (h2.pa.ca.tight F) hT
 have h4:=h2.turn X (growMu I) G
 have H:=d.trans (q.mono d.size)
 have hG:GrowBut (pgMu K p v) W w4:=(GrowBut.below H).trans (growMu I)
 have aA:WrK K v v' n (pageN x):=⟨by have:=hF.nn;omega,hF.ii,hF.yy,hF.sz,T⟩
 have aE:Names K W v v':=G.mono H.size
 clear X hF G I M E h1 h2 L S c0 c1 U T d q H
 go_wp2_with (first
  | (go_at_call 34;refine(tmust_ok _).mono ?_;rintro e w3 ⟨⟨_,rfl⟩,rfl⟩))
 go_end0
 exact⟨v',⟨_,rfl⟩,h4,aA,aE,hG⟩
theorem tmade_new (h:TrAt W0 K p t k v st last true mk ms W)(r:K.Ok)(L:v.N<=700000)(q:1<=st.size/\st.size<K.pg)(hf:st.first=0)(I:0<=st.many/\st.many<=1000)(C:¬ Tight K v.D) :
  Calls Tryz.prog 52 #[.agg #[.pointer (some ⟨t,0,none⟩)]] W λe w'=>∃v',e = .returned (.int .i64 st.size)/\TrAt W0 K p t k v' { st with size:=st.size+1 } last true mk ms w'/\WrK K v v' st.size zeroB/\Names K W v v'/\GrowBut (pgMu K p v) W w':=by
 have O:=r.hP
 obtain⟨W1,d⟩:∃W1,W1=W.alloc (.cells #[.pointer (some ⟨t,0,none⟩)] 74):=⟨_,rfl⟩
 have c:Below W.heap.size W W1:=by rw[d];exact below1 _ _
 have h1:=h.grow c
 have u:=h1.tp
 rw[d] at u
 have B:=pmake_gives h1.pa r L ⟨q.1,by omega⟩ ⟨by omega,by omega⟩ I (λe=>absurd hf e)
 have H:=Lib.hid d.symm
 clear d h
 go_enter Tryz.func52,Tryz.ntmps52
 go_wp2_with fail
 rw[H.out]
 refine B.mono ?_
 rintro e w2 ⟨n,x,v',st',rfl,j,hF,g,f⟩
 obtain⟨rfl,rfl,rfl,s⟩:=hF.new hf q.2 C
 have h2:=h1.turn j f g
 have G:GrowBut (pgMu K p v) W w2:=(GrowBut.below c).trans f
 have E:WrK K v v' st.size zeroB:=⟨hF.nn,hF.ii,hF.yy,hF.sz,s⟩
 have F:Names K W v v':=g.mono c.size
 clear j hF g f B h1 u c s hf
 go_wp2_with (first
  | (go_at_call 34;refine(tmust_ok _).mono ?_;rintro e M ⟨⟨_,rfl⟩,rfl⟩))
 go_ret
 exact⟨v',rfl,h2,E,F,G⟩
end
def noPan (Q:Exit->Act->World->Prop):Exit->Act->World->Prop
 | .panic _,_,_=>False
 | e,a,w=>Q e a w
theorem noPan_of {Q:Exit->Act->World->Prop}{e:Exit}{a:Act}{w:World}(h:noPan Q e a w):Q e a w:=by
 cases e<;>first|exact h|exact h.elim
theorem noPan_in {Q:Exit->Act->World->Prop}{a:Act}{w:World}(h:Q .normal a w):noPan Q .normal a w:=h
theorem tcaught_idle (p f:Value)(w:World) :
  CallsD Tryz.prog 27 #[p,f] .returning w λe c w'=>e = .returned (.tuple #[])/\c = .returning/\w'=w:=by
 refine callsD_of_wpS Tryz.func27 rfl λd cs hu => ?_
 apply wpS_seq
 apply wpS_region
 simp[wpOpsS,go_sem,recoverD,hu,Tryz.ntmps27,Exit.thenS]
 apply wpS_seq
 apply wpS_region
 simp[wpOpsS,go_sem,Exit.thenS]
 refine wpS_cond (t:=false) (by simp[Act.eval,Array.replicate]) ?_
 simp only[Bool.false_eq_true,if_false]
 refine wpS_of_wp (wp_skip ?_)
 cases d
 simp_all [bodyPostS,results,Tryz.results27]
section
variable {W0 W W':World}{K:PgK}{p t:Nat}{k:Int}{v v':PgV}{st last st' last':PgSt}{mk mk':Value}{ms:List MkT}
theorem TrAt.own (h:TrAt W0 K p t k v st last true mk ms W){b:Nat}{T:TypeId}{cs:Array Value}(d:BlkIs W b T cs)(c:Boxy T):¬ (b=p∨mkMu mk b):=λe=>by
 rcases e with e|e
 ·exact h.notB d c (.inl e)
 ·exact(h.mm.row.blk b e).1.notTy d ⟨c.2.2.2.2.2.2.2.1,c.2.2.2.2.2.2.2.2⟩
theorem TrAt.treeOwn (h:TrAt W0 K p t k v st last true mk ms W):¬ (t=p∨mkMu mk t):=λe=>by
 rcases e with e|e
 ·exact h.notMu (.inl e)
 ·exact(h.mm.row.blk t e).1.notTy h.tb (by decide)
structure DoneOut (W0:World)(K:PgK)(p t:Nat)(k:Int)(v:PgV)(st last:PgSt)(mk:Value)(ms:List MkT)(X:Nat->Prop)(W:World)(v':PgV)(st':PgSt)(w1:World)(w':World):Prop where
 at_:∃mk',TrAt W0 K p t k v' st' last true mk' ms w'
 keep:∀b T cs,b<W.heap.size->BlkIs w1 b T cs->Boxy T->BlkIs w' b T cs
 nm:Names K W v v'
 up:W.heap.size<=w'.heap.size
theorem tdone2_gives (h:TrAt W0 K p t k v st last true mk ms W)(hK:K.Ok)(bX:ms.length<=800)(F:Nat)(q1 q2:Value)(eg:∀args w,(callFunc F args).run Tryz.prog w = .ok (.enter F args) w)(X:Nat->Prop)(hX:∀j,X j->j<W.heap.size)(Post:PgV->PgSt->World->Prop)
  (HF:∀W' mk' M,(∀b T cs,BlkIs W b T cs->Boxy T->BlkIs W' b T cs)->W.heap.size<=W'.heap.size->TrAt W0 K p t k v st last true mk' (ms++[⟨st,M,v.D⟩]) W'->Calls Tryz.prog F #[.agg #[.pointer (some ⟨t,0,none⟩)],q1,q2] W' λe w'=>∃v' st',(∃z,e = .returned z)/\TrAt W0 K p t k v' st' last true mk' (ms++[⟨st,M,v.D⟩]) w'/\Post v' st' w'/\Names K W' v v'/\GrowBut (λj=>pgMu K p v j∨X j) W' w') :
  Calls Tryz.prog 31 #[.pointer (some ⟨t,0,none⟩),.func (.func F) #[] #[q1,q2]] W λe w'=>∃v' st' w1,e = .returned (.int .i64 0)/\Post v' st' w1/\DoneOut W0 K p t k v st last mk ms X W v' st' w1 w':=by
 have bL:∀(fn:Fn) (first aT:Array Value) (w:World),(Instr.makeFunc fn first aT).run Tryz.prog w = .ok (.func fn first aT) w:=λ_ _ _ _=>rfl
 obtain⟨W1,r⟩:∃W1,W1=(W.alloc (.cells #[.pointer (some ⟨t,0,none⟩)] 26)).alloc (.cells #[.int .i64 0] 27):=⟨_,rfl⟩
 have aR:Below W.heap.size W W1:=by rw[r];exact below2 _ _ _
 have O:BlkIs W1 W.heap.size 26 #[.pointer (some ⟨t,0,none⟩)]:=by rw[r];exact(BlkIs.new W _ _).alloc _
 have b4:BlkIs W1 (W.heap.size+1) 27 #[.int .i64 0]:=by
  have:=BlkIs.new (W.alloc (.cells #[.pointer (some ⟨t,0,none⟩)] 26)) 27 #[.int .i64 0]
  rw[World.size_alloc] at this
  rw[r]
  exact this
 have h1:=h.grow aR
 have bV:=h.up
 have bW:W.heap.size+2<=W1.heap.size:=by rw[r,World.size_alloc,World.size_alloc];omega
 have a5:=h1.tp
 have aM:=O.boxed
 rw[r] at a5 aM
 have HM:=pmark_gives h1.pa hK h1.mm (by omega)
 have bA:=Lib.hid r.symm
 have aE:∀b T cs,BlkIs W b T cs->BlkIs W1 b T cs:=λb T cs c=>c.below aR c.lt
 have o2:=h1.own O (by unfold Boxy;decide)
 have o4:=h1.own b4 (by unfold Boxy;decide)
 have ot:=h1.treeOwn
 have aV:∀b T cs,BlkIs W1 b T cs->Boxy T->¬ (b=p∨mkMu mk b):=λb T cs c u=>h1.own c u
 have a4:=h1.tb
 clear r h h1
 go_enter_defers Tryz.func31,Tryz.ntmps31
 go_wp2_with fail
 rw[bA.out]
 refine HM.mono ?_
 rintro e w2 ⟨M,mk',rfl,a1,aW,E⟩
 have h2:TrAt W0 K p t k v st last true mk' (ms++[⟨st,M,v.D⟩]) w2:=⟨a1,aW,E.blk a4 ot⟩
 have aC:=E.blk O o2
 have G:=E.blk b4 o4
 have bQ:=E.size
 have bE:=G.boxed
 have bG:=G.free 0
 have bC:=aC.boxed
 obtain⟨W4,H⟩:∃W4,W4=(w2.alloc (.cells #[.int .i64 (ms.length:Int)] 3)).setCell ⟨W.heap.size+1,0,none⟩ (.int .i64 0):=⟨_,rfl⟩
 have I:Below w2.heap.size w2 (w2.alloc (.cells #[.int .i64 (ms.length:Int)] 3)):=below1 _ _
 have N:=G.below I G.lt
 have a0:=aC.below I aC.lt
 have aY:BlkIs (w2.alloc (.cells #[.int .i64 (ms.length:Int)] 3)) w2.heap.size 3 #[.int .i64 (ms.length:Int)]:=BlkIs.new w2 _ _
 have h3:=h2.grow I
 have bS:=I.size
 have bD:=N.boxed
 have bI:=N.free 0
 have B:GrowBut (λj=>j=W.heap.size+1) (w2.alloc (.cells #[.int .i64 (ms.length:Int)] 3)) W4:=by rw[H];exact GrowBut.setCell _ _ _ rfl
 have h4:=h3.keepB B N (by decide) (λm e=>by cases e) (by omega) (by unfold Boxy;decide)
 have U:BlkIs W4 (W.heap.size+1) 27 #[.int .i64 0]:=by rw[H];exact N.set 0 _
 have aA:BlkIs W4 W.heap.size 26 #[.pointer (some ⟨t,0,none⟩)]:=B.blk a0 (by omega)
 have aH:BlkIs W4 w2.heap.size 3 #[.int .i64 (ms.length:Int)]:=B.blk aY (by omega)
 have a3:=U.boxed
 have aZ:=aA.boxed
 have bR:=B.size
 have a7:∀b T cs,BlkIs W b T cs->Boxy T->BlkIs W4 b T cs:=λb T cs c u=>by
  have g:=E.blk (aE b T cs c) (aV b T cs (aE b T cs c) u)
  exact B.blk (g.below I g.lt) (by have:=c.lt;omega)
 have aU:=HF W4 mk' M a7 (by omega) h4
 rw[H] at a3 aZ
 have bB:=Lib.hid H.symm
 clear H HF HM aE o2 o4 ot aV a4 a1 aW O b4 a5 aM aC G bC h2 h3 N a0 aY
 go_wp2_with fail
 rw[bB.out]
 refine aU.mono ?_
 rintro e w5 ⟨v',st',⟨z,rfl⟩,h5,bF,aL,L⟩
 have nx:∀b T cs,BlkIs W4 b T cs->Boxy T->W.heap.size<=b->¬ (pgMu K p v b∨X b):=λb T cs c u bP e=>by
  rcases e with e|e
  ·exact h4.notB c u e
  ·have:=hX b e
   omega
 have aD:=L.blk U (nx _ _ _ U (by unfold Boxy;decide) (by omega))
 have aG:=L.blk aA (nx _ _ _ aA (by unfold Boxy;decide) (by omega))
 have aI:=L.blk aH (nx _ _ _ aH (by unfold Boxy;decide) (by omega))
 have bM:=L.size
 have q:Below w5.heap.size w5 w5.drew:=(Below.refl _ _).drew
 have d:=h5.grow q
 have aF:=pforget_gives d.pa d.mm ms.length (by rw[zJ];simp) (by rw[zJ];simp;omega)
 rw[List.take_left' rfl] at aF
 have aB:=aG.below q aG.lt
 have aJ:=aD.below q aD.lt
 have Z:=aI.below q aI.lt
 have C:w5.drew.cell? ⟨W.heap.size,0,none⟩=some (.pointer (some ⟨t,0,none⟩))/\w5.drew.cell? ⟨t,0,none⟩=some (.pointer (some ⟨p,0,none⟩))/\w5.drew.cell? ⟨w2.heap.size,0,none⟩=some (.int .i64 (ms.length:Int)):=⟨aB.boxed,d.tp,Z.boxed⟩
 have aN:∀b T cs,BlkIs w5 b T cs->BlkIs w5.drew b T cs:=λb T cs c=>c.below q c.lt
 have bK:w5.heap.size<=w5.drew.heap.size:=q.size
 have bJ:Names K W v v':=aL.mono (by omega)
 clear h4 h5 L aL nx U aA aH aD aG aI bD bI a3 aZ bG bE a7 aU B q eg hX
 go_wp2_with fail
 refine Code.wp_mono (Q:=noPan _) (λe a w h=>noPan_of h) ?_
 refine RegF.start (λW':World=>W'.cell? ⟨W.heap.size,0,none⟩=some (.pointer (some ⟨t,0,none⟩))/\W'.cell? ⟨t,0,none⟩=some (.pointer (some ⟨p,0,none⟩))/\W'.cell? ⟨w2.heap.size,0,none⟩=some (.int .i64 (ms.length:Int))) 99 (by kernel_rfl) ?_
 generalize w5.drew=wd at *
 refine RegF.t0 0 (.pointer (some ⟨t,0,none⟩)) rfl C (λW ⟨S,g,V⟩=>by go_simp) ?_
 simp only[zE,zB,Act.put,zA,zG,zF]
 refine RegF.t0 1 (.pointer (some ⟨t,0,none⟩)) rfl C (λW ⟨S,g,V⟩=>by go_simp) ?_
 simp only[zE,zD,zB,Act.put,zA,zG,zF]
 refine RegF.t0 2 (.pointer (some ⟨t,0,none⟩)) rfl C (λW ⟨S,g,V⟩=>by go_simp) ?_
 simp only[zE,zD,zB,Act.put,zA,zG,zF]
 refine RegF.t0 3 (.pointer (some ⟨p,0,none⟩)) rfl C (λW ⟨S,g,V⟩=>by go_simp) ?_
 simp only[zE,zD,zB,Act.put,zA,zG,zF]
 refine RegF.t0 4 (.int .i64 (ms.length:Int)) rfl C (λW ⟨S,g,V⟩=>by go_simp) ?_
 simp only[zE,zD,zB,Act.put,zA,zG,zF]
 refine RegF.one 5 (by kernel_rfl) ?_
 refine RegF.opC 78 #[.tmp 25,.tmp 26] #[23,3] rfl rfl rfl (enters_of Tryz.func78 (by kernel_rfl) rfl) #[.pointer (some ⟨p,0,none⟩),.int .i64 (ms.length:Int)] (by simp only[zK,zL,zN];rfl) (aF.mono ?_)
 rintro e w6 ⟨a2,rfl,a6,aP,s⟩
 have aO:¬ W.heap.size=p:=λe=>d.notB aB (by unfold Boxy;decide) (.inl e)
 have aS:¬ W.heap.size+1=p:=λe=>d.notB aJ (by unfold Boxy;decide) (.inl e)
 have aK:¬ w2.heap.size=p:=λe=>d.notB Z (by unfold Boxy;decide) (.inl e)
 have h6:TrAt W0 K p t k v' st' last true a2 ms w6:=⟨a6,aP,s.blk d.tb (λe=>d.notMu (.inl e))⟩
 have P:=s.blk aJ aS
 have aQ:=s.blk aB aO
 have a8:=s.blk Z aK
 have aX:w6.cell? ⟨W.heap.size,0,none⟩=some (.pointer (some ⟨t,0,none⟩))/\w6.cell? ⟨t,0,none⟩=some (.pointer (some ⟨p,0,none⟩))/\w6.cell? ⟨w2.heap.size,0,none⟩=some (.int .i64 (ms.length:Int)):=⟨aQ.boxed,h6.tp,a8.boxed⟩
 refine⟨_,rfl,λ_=>aX,RegF.done (by kernel_rfl) ?_⟩
 simp only[zE,zD,zB,Act.put,zA,zG,zF]
 have bU:=P.boxed
 have f46:=P.free 0
 have bN:=s.size
 have g7:GrowBut (λj=>j=W.heap.size+1) w6 (w6.setCell ⟨W.heap.size+1,0,none⟩ (.int .i64 0)):=GrowBut.setCell _ _ _ rfl
 have h7:=h6.keepB g7 P (by decide) (λm e=>by cases e) (by omega) (by unfold Boxy;decide)
 have bH:=P.set 0 (.int .i64 0)
 have a9:∀b T cs,b<W.heap.size->BlkIs w5 b T cs->Boxy T->BlkIs (w6.setCell ⟨W.heap.size+1,0,none⟩ (.int .i64 0)) b T cs:=λb T cs bT c u=>by
  have g:=aN b T cs c
  exact g7.blk (s.blk g (λe=>d.notB g u (.inl e))) (by omega)
 have bO:=g7.size
 clear aX C aQ a8 aB aJ Z aF aN d h6 a6 aP s aO aS aK g7
 refine noPan_in ?_
 go_wp2
 refine leaves_cons (f:=27) (args:=#[.pointer (some ⟨W.heap.size+1,0,none⟩),.func (.func 76) #[] #[.pointer (some ⟨W.heap.size,0,none⟩),.pointer (some ⟨w2.heap.size,0,none⟩)]]) (by simp) (by simp[go_sem]) ?_
 refine(tcaught_idle _ _ _).mono ?_
 rintro e u' wz ⟨rfl,rfl,rfl⟩
 exact⟨_,results_one rfl (rval_cell (p:=⟨W.heap.size+1,0,none⟩) 4 rfl (by simp[go_sem]) bH.boxed),v',st',w5,rfl,bF,⟨⟨a2,h7⟩,a9,bJ,by omega⟩⟩
end
section
variable {W0 W W':World}{K:PgK}{p t:Nat}{k:Int}{v v':PgV}{st last st' last':PgSt}{under:Bool}{mk mk':Value}{ms:List MkT}
theorem topen_gives (h:PaIs W0 K p v st last under mk W)(g:MksIs W0 K v ms mk W)(hs:¬ st.size=0)(i:Nat)(n:Int)(f:st.roots[i]? = some n) :
  Calls Tryz.prog 6 #[.pointer (some ⟨p,0,none⟩),.int .i64 (i:Int)] W λe w'=>∃t,e = .returned (.tuple #[.pointer (some ⟨t,0,none⟩),.int .i64 0])/\TrAt W0 K p t (i:Int) v st last under mk ms w'/\Below W.heap.size W w':=by
 have j:=psize_gives h
 have s:=proot_gives h i n f
 obtain⟨W1,c⟩:∃W1,W1=W.alloc (.cells #[.pointer (some ⟨p,0,none⟩),.int .i64 (i:Int)] 32):=⟨_,rfl⟩
 have d:Below W.heap.size W W1:=by rw[c];exact below1 _ _
 have B:BlkIs W1 W.heap.size 32 #[.pointer (some ⟨p,0,none⟩),.int .i64 (i:Int)]:=by rw[c];exact BlkIs.new W _ _
 have q:TrAt W0 K p W.heap.size (i:Int) v st last under mk ms W1:=⟨h.grow d,g.grow d,B⟩
 have u:=Lib.hid c.symm
 clear c h g f
 go_enter Tryz.func6,Tryz.ntmps6
 go_wp2_with (first
  | (go_at_call 24;refine j.mono ?_;rintro e r ⟨rfl,rfl⟩)
  | (go_at_call 25;refine s.mono ?_;rintro e r ⟨rfl,rfl⟩))
 rw[u.out]
 exact bodyPost_ret (results_tmp2 rfl _ _ _) rfl ⟨_,rfl,q,d⟩
theorem topen_out (h:PaIs W0 K p v st last under mk W)(hs:¬ st.size=0)(i:Int)(c:i<0∨16<=i) :
  Calls Tryz.prog 6 #[.pointer (some ⟨p,0,none⟩),.int .i64 i] W λe w'=>e = .returned (.tuple #[.pointer none,.int .i64 2])/\W=w':=by
 have d:=psize_gives h
 have g:=proot_out h i c
 clear h c
 go_enter Tryz.func6,Tryz.ntmps6
 go_wp2_with (first
  | (go_at_call 24;refine d.mono ?_;rintro e f ⟨rfl,rfl⟩)
  | (go_at_call 25;refine g.mono ?_;rintro e f ⟨rfl,rfl⟩))
 exact bodyPost_ret (results_tmp2 rfl _ _ _) rfl ⟨rfl,rfl⟩
theorem tdone_idle (h:TrAt W0 K p t k v st last false mk ms W)(f:Value) :
  Calls Tryz.prog 31 #[.pointer (some ⟨t,0,none⟩),f] W λe w'=>e = .returned (.int .i64 191)/\Below W.heap.size W w':=by
 obtain⟨W1,c⟩:∃W1,W1=(W.alloc (.cells #[.pointer (some ⟨t,0,none⟩)] 26)).alloc (.cells #[.int .i64 0] 27):=⟨_,rfl⟩
 have g:Below W.heap.size W W1:=by rw[c];exact below2 _ _ _
 have b4:BlkIs W1 (W.heap.size+1) 27 #[.int .i64 0]:=by
  have:=BlkIs.new (W.alloc (.cells #[.pointer (some ⟨t,0,none⟩)] 26)) 27 #[.int .i64 0]
  rw[World.size_alloc] at this
  rw[c]
  exact this
 have u:BlkIs W1 W.heap.size 26 #[.pointer (some ⟨t,0,none⟩)]:=by rw[c];exact(BlkIs.new W _ _).alloc _
 have h1:=h.grow g
 have C:=h1.tp
 have B:=u.boxed
 rw[c] at C B
 have F:=pmark_idle h1.pa
 have I:=Lib.hid c.symm
 have L:=g.size
 clear c h h1
 go_enter_defers Tryz.func31,Tryz.ntmps31
 go_wp2_with fail
 rw[I.out]
 refine F.mono ?_
 rintro e j ⟨rfl,d⟩
 have O:=d.size
 have s:Below j.heap.size j (j.alloc (.cells #[.int .i64 0] 3)):=below1 _ _
 have q:=(b4.below d b4.lt).below s (b4.below d b4.lt).lt
 have P:=q.boxed
 have S:=q.free 0
 have r:=q.set 0 (.int .i64 191)
 have N:=r.boxed
 have T:=r.free 0
 have H:=r.set 0 (.int .i64 191)
 have E:Below W.heap.size W (j.alloc (.cells #[.int .i64 0] 3)):=(g.trans (d.mono L)).trans (s.mono (by omega))
 have G:=E.setCell (p:=⟨W.heap.size+1,0,none⟩) (by simp) (.int .i64 191)
 have M:=G.setCell (p:=⟨W.heap.size+1,0,none⟩) (by simp) (.int .i64 191)
 clear F u b4 C B d g s E q
 go_wp2
 first
  | exact⟨_,results_one rfl (rval_cell (p:=⟨W.heap.size+1,0,none⟩) 4 rfl (by simp[go_sem]) H.boxed),rfl,M⟩
  | exact⟨_,results_one rfl (rval_cell (p:=⟨W.heap.size+1,0,none⟩) 4 rfl (by simp[go_sem]) r.boxed),rfl,G⟩
theorem iclear_gives (h:TrAt W0 K p t k v st last false mk ms W) :
  Calls Tryz.prog 15 #[.pointer (some ⟨t,0,none⟩)] W λe w'=>e = .returned (.int .i64 191)/\Below W.heap.size W w':=by
 have f:=h.none
 have d:=tdone_idle h
 clear h
 go_enter Tryz.func15,Tryz.ntmps15
 go_wp2_with (first
  | (go_at_call 26;refine f.mono ?_;rintro e c ⟨rfl,rfl⟩)
  | (go_at_call 31;refine(d _).mono ?_;rintro e c ⟨rfl,hB⟩))
 go_ret
 exact⟨rfl,hB⟩
theorem iput_gives (h:TrAt W0 K p t k v st last false mk ms W)(c u:ByteArray)(hu:u.size<=4000) :
  Calls Tryz.prog 14 #[.pointer (some ⟨t,0,none⟩),.string c,.string u] W λe w'=>e = .returned (.int .i64 (if 81<c.size then 3 else 191))/\Below W.heap.size W w':=by
 obtain⟨W1,d⟩:∃W1,W1=(W.alloc (.cells #[.string c] 9)).alloc (.cells #[.string u] 9):=⟨_,rfl⟩
 have f:Below W.heap.size W W1:=by rw[d];exact below2 _ _ _
 have b4:BlkIs W1 W.heap.size 9 #[.string c]:=by rw[d];exact(BlkIs.new W _ _).alloc _
 have j:BlkIs W1 (W.heap.size+1) 9 #[.string u]:=by
  have:=BlkIs.new (W.alloc (.cells #[.string c] 9)) 9 #[.string u]
  rw[World.size_alloc] at this
  rw[d]
  exact this
 have h1:=h.grow f
 have q:=h1.none
 have B:=tdone_idle h1
 have c4:=b4.boxed
 have c5:=j.boxed
 have F:¬ (4000:Int)<(u.size:Int):=by omega
 have E:=f.size
 have r:=Lib.hid d.symm
 clear d h h1 b4 j
 by_cases g:81<c.size
 ·have C:(81:Int)<(c.size:Int):=by omega
  rw[if_pos g]
  clear g
  go_enter Tryz.func14,Tryz.ntmps14
  go_wp2_with (first
   | (go_at_call 26;rw[r.out];refine q.mono ?_;rintro e s ⟨rfl,rfl⟩))
  go_ret
  exact⟨rfl,f⟩
 ·have C:¬ (81:Int)<(c.size:Int):=by omega
  rw[if_neg g]
  clear g
  go_enter Tryz.func14,Tryz.ntmps14
  go_wp2_with (first
   | (go_at_call 26;rw[r.out];refine q.mono ?_;rintro e s ⟨rfl,rfl⟩)
   | (go_at_call 31;refine(B _).mono ?_;rintro e G ⟨rfl,hB⟩))
  go_ret
  exact⟨rfl,f.trans (hB.mono E)⟩
theorem idelete_gives (h:TrAt W0 K p t k v st last false mk ms W)(c:ByteArray) :
  Calls Tryz.prog 9 #[.pointer (some ⟨t,0,none⟩),.string c] W λe w'=>e = .returned (.tuple #[.bool false,.int .i64 (if 81<c.size then 3 else 191)])/\Below W.heap.size W w':=by
 obtain⟨W1,d⟩:∃W1,W1=(W.alloc (.cells #[.string c] 9)).alloc (.cells #[.bool false] 4):=⟨_,rfl⟩
 have f:Below W.heap.size W W1:=by rw[d];exact below2 _ _ _
 have r:BlkIs W1 W.heap.size 9 #[.string c]:=by rw[d];exact(BlkIs.new W _ _).alloc _
 have b4:BlkIs W1 (W.heap.size+1) 4 #[.bool false]:=by
  have:=BlkIs.new (W.alloc (.cells #[.string c] 9)) 4 #[.bool false]
  rw[World.size_alloc] at this
  rw[d]
  exact this
 have h1:=h.grow f
 have u:=h1.none
 have B:=tdone_idle h1
 have c3:=r.boxed
 have H:=f.size
 have C:=Lib.hid d.symm
 clear d h h1
 by_cases g:81<c.size
 ·have G:(81:Int)<(c.size:Int):=by omega
  have c4:=b4.boxed
  have N:=b4.free 0
  have q:=b4.set 0 (.bool false)
  have j:=f.setCell (p:=⟨W.heap.size+1,0,none⟩) (by simp) (.bool false)
  rw[if_pos g]
  clear g r
  go_enter Tryz.func9,Tryz.ntmps9
  go_wp2_with (first
   | (go_at_call 26;rw[C.out];refine u.mono ?_;rintro e E ⟨rfl,rfl⟩))
  exact bodyPost_ret_by (results_two rfl (rval_cell (p:=⟨W.heap.size+1,0,none⟩) 4 rfl (by simp[go_sem]) q.boxed) (rval_tmp 5 rfl)) rfl ⟨rfl,j⟩
 ·have G:¬ (81:Int)<(c.size:Int):=by omega
  rw[if_neg g]
  clear g
  go_enter Tryz.func9,Tryz.ntmps9
  go_wp2_with (first
   | (go_at_call 26;rw[C.out];refine u.mono ?_;rintro e E ⟨rfl,rfl⟩))
  refine(B _).mono ?_
  rintro e I ⟨rfl,hB⟩
  have s:=b4.below hB b4.lt
  have L:=s.boxed
  have M:=s.free 0
  have q:=s.set 0 (.bool false)
  have F:=f.trans (hB.mono H)
  have j:=F.setCell (p:=⟨W.heap.size+1,0,none⟩) (by simp) (.bool false)
  clear B u r b4 c3
  go_wp2
  exact bodyPost_ret_by (results_two rfl (rval_cell (p:=⟨W.heap.size+1,0,none⟩) 4 rfl (by simp[go_sem]) q.boxed) (rval_tmp 5 rfl)) rfl ⟨rfl,j⟩
end
end Go.Proofs.YtpibjkbadnffgaaGreat
namespace Go.Proofs.YtpibjkbadnffgaaGreat
open Go Go.RowKit Lou Go.Shelf
def renBld:Go.Shelf.Ren:=⟨fun|169=>74|n=>n,fun|70=>125|9=>9|0=>0|72=>127|37=>87|127=>204|3=>3|5=>5|n=>n,fun|n=>n⟩
theorem laysBld:Go.Proofs.Lays.n169 Tryz.prog renBld:={
 mixed:=by kernel_rfl
 f169:=Tryz.func74.trans (congrArg some (by kernel_rfl))
 t0:=Tryz.underlying0
 a0:=Tryz.isAgg0
 z0:=Tryz.sizeOf0
 v0:=Tryz.zeroValue0
 t3:=Tryz.underlying3
 a3:=Tryz.isAgg3
 z3:=Tryz.sizeOf3
 v3:=Tryz.zeroValue3
 t9:=Tryz.underlying9
 a9:=Tryz.isAgg9
 z9:=Tryz.sizeOf9
 v9:=Tryz.zeroValue9
 t37:=Tryz.underlying87
 a37:=Tryz.isAgg87
 z37:=Tryz.sizeOf87
 v37:=Tryz.zeroValue87
 t70:=Tryz.underlying125
 a70:=Tryz.isAgg125
 z70:=Tryz.sizeOf125
 v70:=Tryz.zeroValue125
 t72:=Tryz.underlying127
 a72:=Tryz.isAgg127
 z72:=Tryz.sizeOf127
 v72:=Tryz.zeroValue127
 t127:=Tryz.underlying204
 a127:=Tryz.isAgg204
 z127:=Tryz.sizeOf204
 v127:=Tryz.zeroValue204 }
theorem extraBld:Builder.Extra Tryz.prog renBld:={
 sizeBuilder:=by kernel_rfl
 liesBuilder:=by kernel_rfl
 t5:=Tryz.underlying5
 a5:=Tryz.isAgg5
 z5:=Tryz.sizeOf5
 v5:=Tryz.zeroValue5
 infoByte:=by kernel_rfl
 cellsByte:=by kernel_rfl
 sizeByte:=by kernel_rfl
 neB5:=by decide }
theorem bldString (B b:Nat)(l:List UInt8)(w:World)(h:Lib.IsBuilder 127 5 B b (Lib.byteCells l) w)(c:B<=w.heap.size) :
  Calls Tryz.prog 74 #[.pointer (some ⟨b,0,none⟩)] w λe w'=>e = .returned (.string ⟨l.toArray⟩)/\Below B w w':=Any.Builder_String_any laysBld extraBld B b l w h c
theorem infoBld:∃j,Tryz.prog.info? 127=some j/\j.size=2:=by
 have h:(Tryz.prog.info? 127).map (·.size)=some 2:=by kernel_rfl
 obtain⟨j,c,hs⟩:=Option.map_eq_some_iff.1 h
 exact⟨j,c,hs⟩
theorem bldCheck (b:Nat)(w:World)(g:w.cell? ⟨b,0,none⟩=some (.pointer none))(d:w.shape? b=some (127,2))(h:w.frozen? ⟨b,0,none⟩=false) :
  Calls Tryz.prog 125 #[.pointer (some ⟨b,0,none⟩)] w λe w'=>e = .returned (.tuple #[])/\w'=w.setCell ⟨b,0,none⟩ (.pointer (some ⟨b,0,none⟩)):=by
 obtain⟨j,c,f⟩:=infoBld
 go_enter Tryz.func125,Tryz.ntmps125
 go_wp2
 rw[Lib.run_to_unsafe w ⟨b,0,none⟩ Tryz.underlying125 Tryz.underlying274 c (by rw[f];decide) d (Nat.zero_lt_succ 1)]
 simp only[Result.andThen]
 rw[Oper.upon_value]
 go_wp2
 rw[run_callFunc_extern Tryz.func196 (by kernel_rfl) (by kernel_rfl) (by kernel_rfl) (e:=Extern.AbiNoEscape.same) (by kernel_rfl)]
 rw[Lib.run_noEscape]
 simp only[Result.andThen]
 rw[Oper.upon_value]
 go_wp2
 rw[Lib.run_from_unsafe w ⟨b,0,none⟩ Tryz.underlying274 Tryz.underlying125 c d extraBld.liesBuilder]
 simp only[Result.andThen]
 rw[Oper.upon_value]
 go_wp2
 go_end0
 exact⟨rfl,rfl⟩
theorem infoByte:(Tryz.prog.info? 5).map (λi=>(i.zero,i.size,i.bytes))=some (some (.int .u8 0),1,1):=by kernel_rfl
theorem bldWrite (b:Nat)(s:ByteArray)(w:World)(c:BlkIs w b 127 #[.pointer none,.slice none 0 0])(aA:s.size<=1000000) :
  Calls Tryz.prog 71 #[.pointer (some ⟨b,0,none⟩),.string s] w λe w'=>e = .returned (.tuple #[.int .i64 s.size,.nilIface])/\Lib.BuilderAt 127 5 b b (.pointer (some ⟨b,0,none⟩)) (Lib.strCells s) w'/\Below b w w':=by
 obtain⟨L,I,M,O,G⟩:=info_parts infoByte
 have N:=bldCheck b w (by rw[c.cell];rfl) (by simp[World.shape?,show w.heap[b]? = _ from c]) (c.free 0)
 have E:=c.set 0 (.pointer (some ⟨b,0,none⟩))
 have q:Below b w (w.setCell ⟨b,0,none⟩ (.pointer (some ⟨b,0,none⟩))):=(Below.refl _ _).setCell (p:=⟨b,0,none⟩) (zH _) _
 generalize P:w.setCell ⟨b,0,none⟩ (.pointer (some ⟨b,0,none⟩))=d at *
 have j:BlkIs d b 127 #[.pointer (some ⟨b,0,none⟩),.slice none 0 0]:=E
 have c0:d.cell? ⟨b,0,none⟩=some (.pointer (some ⟨b,0,none⟩)):=by rw[j.cell];rfl
 have c1:d.cell? ⟨b,1,none⟩=some (.slice none 0 0):=by rw[j.cell];rfl
 have H:d.ownsRow b 5 1 (.slice none 0 0) 0 []:=World.ownsRow_nil _ _ _ _
 have F:=j.lt
 clear P E c
 go_enter Tryz.func71,Tryz.ntmps71
 go_wp2_with fail
 refine N.mono ?_
 rintro e U ⟨rfl,rfl⟩
 go_wp2_with (at_builtin;refine Lib.wpList_append_own_string _ rfl _ _ 87 9 rfl b 5 L Tryz.underlying87 Tryz.underlying9 I M O G _ _ _ rfl H s rfl ?c3 ?c4 ?c5 ?_)
 case c3=>unfold maxLen;omega
 case c4=>omega
 case c5=>omega
 intro v' f B u _
 have h:f.heap[b]? = some (.cells #[.pointer (some ⟨b,0,none⟩),.slice none 0 0] 127 (0,0)):=by
  rw[u.block b F (λe=>by cases e)]
  exact j
 have V:f.cell? ⟨b,0,none⟩=some (.pointer (some ⟨b,0,none⟩)):=by rw[Lib.cell_of_heap h];rfl
 have Z:f.cell? ⟨b,1,none⟩=some (.slice none 0 0):=by rw[Lib.cell_of_heap h];rfl
 have X:f.frozen? ⟨b,1,none⟩=false:=Lib.frozen_of_heap h 1
 obtain⟨r,C,cap,rfl⟩:∃r C cap,v' = .slice r C cap:=by
  rcases B.2 with⟨hv,_⟩|⟨g,cap,cur,hv,_⟩
  ·exact⟨_,_,_,hv⟩
  ·exact⟨_,_,_,hv⟩
 go_wp2
 go_ret2
 refine⟨rfl,?_,?_⟩
 ·exact Lib.BuilderAt.put (T:=127) (e:=5) (zH _) h (bs':=Lib.strCells s) (by simpa[Lib.strCells_length] using B) (by decide)
 ·exact(q.grown u (by have:=q.size;omega) (λk S=>by cases S)).setCell (p:=⟨b,1,none⟩) (zH _) _
end Go.Proofs.YtpibjkbadnffgaaGreat
