/- Texts that the proof of TreeNone leans on, part 10. -/
import Derived.Lib.ConvBytes
import Derived.BigQuiet
import Derived.Test.YtpibjkbadnffgaaGreatTreeNoneB9
open List renaming mem_append → qK, mem_singleton → qN, getElem?_eq_getElem → zM, getElem_mem → qF, setIfInBounds_toArray → zA, set_cons_zero → zG, set_cons_succ → zF, length_cons → zP, getElem_toArray → zE, getElem_cons_zero → zB, getElem_cons_succ → zD, map_toArray → zK, map_cons → zL, map_nil → zN, size_toArray → zT, length_nil → qE, push_toArray → qD, append_toArray → qA, nil_append → zV, cons_append → qB
open Nat renaming lt_of_lt_of_le → zO, le_trans → zU, le_refl → zH, reduceAdd → qO, reduceSub → qP, zero_add → qC
open Array renaming replicate_succ → zX, replicate_zero → zY, getElem?_eq_some_iff → zI
set_option linter.unusedVariables false
set_option maxRecDepth 100000
set_option maxHeartbeats 8000000

namespace Go.Proofs.YtpibjkbadnffgaaGreat
open Go Go.RowKit Lou Go.Shelf
attribute [local go_sem] Oper.semAt_some
def cleanTo (pd:Int->Bool)(V:RowsV):RowsV:=λk=>(V k).map λv=>if pd k then { v with d:=false } else v
def cleanV (V:RowsV):RowsV:=λk=>(V k).map λv => { v with d:=false }
theorem cleanTo_start (V:RowsV):cleanTo (λ_=>false) V=V:=by
 funext k
 unfold cleanTo
 cases V k<;>rfl
theorem cleanTo_next {pd:Int->Bool}{V:RowsV}{k:Int}{v:RowV}(h:V k=some v):cleanTo (pdPush pd k) V=updV (cleanTo pd V) k (some { v with d:=false }):=by
 funext j
 unfold cleanTo updV
 by_cases e:j=k
 ·subst e
  rw[if_pos rfl,h,Option.map_some,pdPush_self,if_pos rfl]
 ·rw[if_neg e,pdPush_ne e]
theorem cleanTo_fin {pd:Int->Bool}{V:RowsV}(h:∀k x,ptrV V k=some x->pd k=true):cleanTo pd V=cleanV V:=by
 funext k
 unfold cleanTo cleanV
 cases e:V k with
 | none=>rfl
 | some v=>rw[Option.map_some,Option.map_some,h k _ (ptrV_some e),if_pos rfl]
theorem cleanTo_not {pd:Int->Bool}{V:RowsV}{k:Int}{v:RowV}(h:V k=some v)(e:pd k=false):cleanTo pd V k=some v:=by unfold cleanTo;rw[h,Option.map_some,e];rfl
theorem caMu_clean {a r:Nat}{V:RowsV}:∀k,caMu a r (cleanV V) k->caMu a r V k:=λk e=>by
 rcases e with e|e|⟨j,u,hu,rfl⟩
 ·exact .inl e
 ·exact .inr (.inl e)
 ·unfold cleanV at hu
  cases g:V j with
  | none=>rw[g] at hu;cases hu
  | some v =>
   rw[g,Option.map_some] at hu
   injection hu with hu
   subst hu
   exact .inr (.inr ⟨j,v,g,rfl⟩)
structure CleanAt (W9:World)(h r clock:Nat)(es:Array MapEntry)(a f P:Nat)(room now hh mm:Int)(V:RowsV)(seen:Array Nat)(pd:Int->Bool)(W:World):Prop where
 it:IterAt W h r clock seen
 sn:SeenIs es seen pd
 ca:CaIs W a f r P room now hh mm (cleanTo pd V)
 mp:MapIs W r es clock
 gb:GrowBut (caMu a r V) W9 W
 sz:h<W.heap.size
theorem CleanAt.next {E w:World}{h r C:Nat}{B:Array MapEntry}{a f P:Nat}{room now hh mm:Int}{V:RowsV}{q:Array Nat}{pd:Int->Bool}(hc:CleanAt E h r C B a f P room now hh mm V q pd w){g:World}{b:Nat}{k:Int}{v:RowV}(A:V k=some v)(X:pd k=false)(aA:v.b<h)(H:r<h)
  (N:IterAt g h r C (q.push b)) (hB:Below h w g) (Z:Below w.heap.size w g∨True) (U:SeenIs B (q.push b) (pdPush pd k)) (j:CaIs g a f r P room now hh mm (cleanTo pd V)) (T:GrowBut (caMu a r V) E g) :
  CleanAt E h r C B a f P room now hh mm V (q.push b) (pdPush pd k) (g.setCell ⟨v.b,2,none⟩ (.bool false))/\(g.setCell ⟨v.b,2,none⟩ (.bool false)).rangeLeft r h=g.rangeLeft r h:=by
 have u:=cleanTo_not A X
 obtain⟨h1,p⟩:=j.setRow (v1:={ v with d:=false }) u rfl 2 (.bool false) (by simp[rowC]) (.inl ⟨rfl,rfl,rfl⟩) (j.rows k v u).at0 (j.hu u _ rfl)
 have O:=j.rb u
 have hl:r<g.heap.size:=zO (zO H (Nat.le_of_lt hc.sz)) hB.size
 have L:h<g.heap.size:=zO hc.sz hB.size
 have I:=p.block h L (by omega)
 have M:=p.block r hl O
 refine⟨⟨N.keep I,U,by rw[cleanTo_next A];exact h1,M.trans ((hB.block r H).trans hc.mp),T.trans (p.more (λk' e _=>by rw[e];exact .inr (.inr ⟨k,v,A,rfl⟩))),zO L p.size⟩,rangeLeft_keep M I⟩
def pwO (x:Nat×(Option Addr×Nat)):Int×Option Addr×Nat:=((x.1:Int),x.2.1,x.2.2)
section
set_option maxRecDepth 100000
variable {F:Fence}{n:Nat}{w:World}{ops:Array Oper}{rest:List Oper}{o:Oper}{a:Act}{Q:Exit->Act->World->Prop}
theorem wpIn_appG2 (hg:o.guard=none){S T:TypeId}{sz E:Nat}{z:Value}(p:ElT S T sz E z)(s x:Operand)(q:o.op = .call { callee:=.builtin .append,args:=#[s,x],argTypes:=#[S,S] })
  (base:Nat) (v:Value) (k:Nat) (cs:List Value) (hs:a.eval s=v) (N:w.ownsRow base T sz v k cs) (B g c m:Nat) (A:List Value) (hx:a.eval x = .slice (some ⟨g,0,none⟩) m c) (C:InG w B sz (some ⟨g,0,none⟩) m c A) (L:0<m)
  (hm:k+m<=maxLen) (aC:(k+m)*E<=140737488355328) (aD:base<=w.heap.size)
  (h:∀v' w',w'.ownsRow base T sz v' (k+m) (cs++A)->w.grownBy w' v.ownBlock->(v'.ownBlock=v.ownBlock∨v'.ownBlock=some w.heap.size)->wpListIn F n Tryz.prog ops Q rest (a.put o.dst v') w'):wpListIn F n Tryz.prog ops Q (o::rest) a w:=by
 obtain⟨X,U,Z,aB,M⟩:=info_parts p.inf
 refine wpListIn_plain hg λK I => ?_
 obtain⟨v',w',aA,r1,r2,_,O⟩:=run_append_own_at (P:=Tryz.prog) w base S o.type T X z sz E p.und U Z aB M p.zs p.pos v k cs N ⟨g,0,none⟩ m c A C.len (λj u hu=>by
  obtain⟨g',o',e,_,hr⟩:=C.lies L
  injection e with e
  injection e with e1 e2
  subst e1 e2
  rw[Addr.add_mid]
  exact hr j u hu) C.one hm aC aD
 unfold Oper.wpIn
 refine⟨?_,?_⟩
 ·simp[Oper.about,q,resolve,Target.leads,Sem.run_pure]
 ·rw[Oper.semAt_plain F _ _ (by rw[q];intro c H;cases H)]
  simp[execOp,q,resolve,invoke,builtin,hs,hx,aA,Result.andThen]
  exact I _ _ (h v' w' r1 r2 O)
end
structure CmtAt (w:World)(B4:Nat)(Y:Int->Option (List UInt8))(pre:List (Nat×(Option Addr×Nat)))(U:Nat->Prop)(W:World):Prop where
 has:∃Aw cw,BlkIs W w.heap.size 194 #[.slice Aw pre.length cw]/\W.ownsRow B4 197 2 (.slice Aw pre.length cw) pre.length (pwsC (pre.map pwO))/\(∀k,U k↔k=w.heap.size∨(Value.slice Aw pre.length cw).ownBlock=some k)
 bys:∀x∈pre,∃y,Y (x.1:Int)=some y/\y.length=512/\InB W W.heap.size x.2.1 x.2.2 y/\TyB W x.2.1
 up:Below w.heap.size w W
 b4:w.heap.size<B4/\B4<=W.heap.size
theorem CmtAt.st (w:World)(j:Nat)(Y:Int->Option (List UInt8)):StU j (λk U W=>CmtAt w j Y k U W):=λk U X Z row ⟨⟨L,H,h1,h2,A⟩,u,p,q⟩ g h=>by
 refine⟨⟨L,H,h1.kept g (λr e=>(h r e).2),ownG_kept h2 g (λr e=>(h r e).2),A⟩,λx I => ?_,p.trans (grown_below g p.size (λr e=>by have:=(h r e).1;omega)),q.1,zU q.2 g.size⟩
 obtain⟨y,C,E,M,N⟩:=u x I
 exact⟨y,C,E,InB.ownFrom (B:=j) _ _ _ () X Z row M g h,TyB.ownFrom (B:=j) _ () X Z row N g h⟩
theorem CmtAt.lts {w:World}{j:Nat}{Y:Int->Option (List UInt8)}{p:List (Nat×(Option Addr×Nat))}{U:Nat->Prop}{W:World}(h:CmtAt w j Y p U W):∀k,U k->k<W.heap.size:=λk q=>by
 obtain⟨u,A,h1,h2,g⟩:=h.has
 rcases(g k).1 q with rfl|e
 ·exact h1.lt
 ·exact ownG_lt h2 k e
theorem CmtAt.next {w:World}{M:Nat}{Y:Int->Option (List UInt8)}{q:List (Nat×(Option Addr×Nat))}{U:Nat->Prop}{V Va w5:World}{x:Nat×(Option Addr×Nat)}{E:Option Addr}{C:Nat}(h:CmtAt w M Y q U V)(L:BlkIs V w.heap.size 194 #[.slice E q.length C])(aE:V.ownsRow M 197 2 (.slice E q.length C) q.length (pwsC (q.map pwO)))(H:∀k,U k↔k=w.heap.size∨(Value.slice E q.length C).ownBlock=some k)
  (hx:∃y,Y (x.1:Int)=some y/\y.length=512/\InB V V.heap.size x.2.1 x.2.2 y/\TyB V x.2.1) (N:Below V.heap.size V Va) {v5:Value} (O:w5.ownsRow M 197 2 v5 (q.length+1) (pwsC (q.map pwO)++pwC (pwO x))) (aA:Va.grownBy w5 (Value.slice E q.length C).ownBlock) (aH:v5.ownBlock=(Value.slice E q.length C).ownBlock∨v5.ownBlock=some Va.heap.size) :
  ∃U',LaterU V.heap.size U U'/\KeepU U V (w5.setCell ⟨w.heap.size,0,none⟩ v5)/\CmtAt w M Y (q++[x]) U' (w5.setCell ⟨w.heap.size,0,none⟩ v5):=by
 have e1:pwsC (q.map pwO)++pwC (pwO x)=pwsC ((q++[x]).map pwO):=by rw[List.map_append,List.map_singleton,pwsC_snoc]
 have e2:(q++[x]).length=q.length+1:=by simp
 rw[e1] at O
 obtain⟨Z,c5,rfl,_⟩:=ownG_in O (pwsC_one _)
 have aF:=ownG_ge aE
 have aI:=ownG_ge O
 have hs:=N.size
 have h4:=h.b4
 have aK:=L.lt
 have aL:=h.lts
 have k5:KeepU U V w5:=(KeepU.grow U N).trans (KeepU.grown U aA (λr e=>(H r).2 (.inr e)))
 have kc:KeepU U w5 (w5.setCell ⟨w.heap.size,0,none⟩ (.slice Z (q.length+1) c5)):=KeepU.setCell _ _ _ ((H _).2 (.inl rfl))
 have bx:BlkIs w5 w.heap.size 194 #[.slice E q.length C]:=(L.below N L.lt).grown aA (λe=>by have:=aF _ e.symm;omega)
 have aC:∀{W:World} {A:Option Addr} {c:Nat} {y:List UInt8},InB V V.heap.size A c y->y.length=512->TyB V A->KeepU U V W->InB W W.heap.size A c y/\TyB W A:=λ{W A c y} hi hl ht B=>by
  have aB:∀g cs,BlkIs V g 5 cs->¬ U g:=λg cs aD e=>by
   rcases(H g).1 e with rfl|e
   ·exact BlkIs.ne_type L aD (by decide) rfl
   ·obtain⟨aJ,aG⟩:=ownG_ty aE g e
    exact BlkIs.ne_type aG aD (by decide) rfl
  refine⟨⟨hi.le,hi.max,hi.nil,λh0 => ?_⟩,λg o e => ?_⟩
  ·obtain⟨g,o,e,hg,hc⟩:=hi.lies h0
   obtain⟨cs,T⟩:=ht g o e
   exact⟨g,o,e,zO hg B.1,λj hj=>B.cell (p:=⟨g,o+j,none⟩) (hc j hj) (aB g cs T)⟩
  ·obtain⟨cs,T⟩:=ht g o e
   exact⟨cs,B.blk T (aB g cs T)⟩
 have X:=k5.trans kc
 refine⟨λk=>k=w.heap.size∨(Value.slice Z (q.length+1) c5).ownBlock=some k,λk B => ?_,X,⟨⟨Z,c5,by rw[e2];exact bx.set 0 _,?_,λk=>by rw[e2]⟩,λu hu => ?_,?_,h4.1,zU h4.2 X.1⟩⟩
 ·rcases B with rfl|B
  ·exact .inl ((H _).2 (.inl rfl))
  ·rcases aH with e|e
   ·rw[e] at B;exact .inl ((H _).2 (.inr B))
   ·rw[e] at B;injection B with B;exact .inr (by omega)
 ·rw[e2]
  exact ownG_later O (λr hr=>Below.heap_setCell w5 ⟨w.heap.size,0,none⟩ _ r (λe=>by have h7:=aI r hr;have h8:r=w.heap.size:=e;omega))
 ·rcases qK.1 hu with hu|hu
  ·obtain⟨y,y1,I,y3,y4⟩:=h.bys u hu
   obtain⟨z1,z2⟩:=aC y3 I y4 X
   exact⟨y,y1,I,z1,z2⟩
  ·rw[qN] at hu
   subst hu
   obtain⟨y,y1,I,y3,y4⟩:=hx
   obtain⟨z1,z2⟩:=aC y3 I y4 X
   exact⟨y,y1,I,z1,z2⟩
 ·have h5:=h.up.size
  exact h.up.trans (((N.mono h5).trans (grown_below aA (by omega) (λr e=>by have:=aF r e;omega))).setCell (zH _) _)
end Go.Proofs.YtpibjkbadnffgaaGreat
namespace Go.Proofs.YtpibjkbadnffgaaGreat
open Go Go.RowKit Lou Go.Shelf
attribute [local go_sem] Oper.semAt_some
def rowsR (V:RowsV):RowsC:=λk=>(V k).map λv=>(v.y,v.d)
theorem rowsR_dirty {V:RowsV}{k:Int}{y:List UInt8}:rowsR V k=some (y,true)↔dirtyY V k=some y:=by
 unfold rowsR dirtyY
 cases e:V k with
 | none=>simp
 | some v =>
  cases hd:v.d<;>simp[hd]
theorem dirtyF_is {V:RowsV}{k:Int}:(dirtyF V k).isSome=(dirtyY V k).isSome:=by
 unfold dirtyF dirtyY
 cases V k with
 | none=>rfl
 | some v=>cases hd:v.d<;>simp[hd]
theorem dirtyL_keys (V:RowsV):∀P,(dirtyL (rowsR V) P).map (·.1)=keysV (dirtyF V) P
 | 0=>rfl
 | P+1=>by
  have h:=dirtyL_keys V P
  unfold dirtyL
  rw[List.map_append,h]
  unfold keysV
  rw[List.range_succ,List.filter_append]
  congr 1
  have h1:=@rowsR_dirty V (P:Int)
  split
  ·next b e =>
   have:=h1.1 e
   simp[dirtyF_is,this]
  ·next e =>
   cases g:dirtyY V (P:Int) with
   | none=>simp[dirtyF_is,g]
   | some y=>exact absurd (h1.2 g) (e y)
theorem CmtAt.args {w V:World}{M:Nat}{Y:Int->Option (List UInt8)}{u:List (Nat×(Option Addr×Nat))}{U:Nat->Prop}(h:CmtAt w M Y u U V)(L:List (Nat×List UInt8))(p:u.map (·.1)=L.map (·.1))(T:∀x∈L,Y (x.1:Int)=some x.2) :
  ∃C E,BlkIs V w.heap.size 194 #[.slice C L.length E]/\PwArgs V M C L.length (λk=>(u.map pwO).getD k (0,none,0)) (pwL L):=by
 obtain⟨C,E,I,own,_⟩:=h.has
 have hl:u.length=L.length:=by have:=congrArg List.length p;simpa using this
 rw[hl] at I own
 have aC:=ownG_ge own
 obtain⟨A,c,e,Z⟩:=ownG_in own (pwsC_one _)
 injection e with e1 _ e3
 subst e1 e3
 have H:∀k (p:k<L.length),(u.map pwO).getD k (0,none,0)=pwO (u[k]'(by omega)):=λk p=>by
  rw[List.getD_eq_getElem?_getD,zM (by simp;omega),List.getElem_map]
  rfl
 have aB:∀k (p:k<L.length),pwL L k=((L[k].1:Int),L[k].2):=λk p=>by unfold pwL;rw[zM p]
 have h1:∀k (hq:k<L.length),(u[k]'(by omega)).1=L[k].1:=λk hq=>by
  have h2:(u.map (·.1))[k]? = (L.map (·.1))[k]?:=by rw[p]
  rw[zM (by simp;omega),zM (by simp;omega)] at h2
  simpa using h2
 have N:∀k (p:k<L.length),L[k].2.length=512/\InB V V.heap.size (u[k]'(by omega)).2.1 (u[k]'(by omega)).2.2 L[k].2/\TyB V (u[k]'(by omega)).2.1:=λk p=>by
  obtain⟨y,B,X,y3,y4⟩:=h.bys _ (qF (by omega:k<u.length))
  have h2:=T _ (qF p)
  rw[h1 k p,h2] at B
  injection B with B
  subst B
  exact⟨X,y3,y4⟩
 refine⟨C,E,I,⟨λg o e=>aC g (by rw[e];rfl),λh0 => ?_,λk p => ?_,λk p => ?_⟩⟩
 ·obtain⟨g,o,e,hg,hr⟩:=Z.lies (by omega)
  refine⟨g,o,e,λj O q v hq => ?_,hg⟩
  have aA:(pwC ((u.map pwO)[j]'(by simp;omega)))[q]? = some v:=by
   have e:=H j O
   simp only[e] at hq
   rw[List.getElem_map]
   exact hq
  have:=hr (j*2+q) v (pwsC_get _ j (by simp;omega) q v aA)
  rw[show o+j*2+q=o+(j*2+q) by omega]
  exact this
 ·obtain⟨q1,q2,_⟩:=N k p
  simp only[H k p,aB k p]
  exact⟨by show ((L[k].1:Nat):Int)=(((u[k]'(by omega)).1:Nat):Int);rw[h1 k p],q1,q2⟩
 ·simp only[H k p]
  exact(N k p).2.2
theorem pwC_one (x:Int×Option Addr×Nat):∀v∈pwC x,v.oneCell'=true:=by
 intro v e
 simp[pwC] at e
 rcases e with rfl|rfl<;>rfl
theorem CaIs.belowN {W W':World}{a f r P B:Nat}{room now hh mm:Int}{V:RowsV}(h:CaIs W a f r P room now hh mm V)(hB:Below B W W')(C:∀k,caMu a r V k->k<B)(M:∀k v,V k=some v->∀g o,v.A=some ⟨g,o,none⟩->0<v.y.length->g<B):CaIs W' a f r P room now hh mm V:=by
 obtain⟨I,c,O,L,hs⟩:=h.mp
 refine⟨h.cb.below hB (C _ (.inl rfl)),⟨I,c,O.below hB (C _ (.inr (.inl rfl))),L,hs⟩,λk v u => ?_,h.inj,h.iat⟩
 have q:=h.rows k v u
 refine⟨q.blk.below hB (C _ (.inr (.inr ⟨k,v,u,rfl⟩))),q.key,⟨q.bys.le,q.bys.max,q.bys.nil,λE => ?_⟩,q.len,q.at0⟩
 obtain⟨g,o,e,N,hc⟩:=q.bys.lies E
 exact⟨g,o,e,zO N hB.size,λj H=>(hB.cell (p:=⟨g,o+j,none⟩) (M k v u g o e E)).trans (hc j H)⟩
theorem cleanTo_of {pd:Int->Bool}{V:RowsV}{k:Int}{v:RowV}(h:cleanTo pd V k=some v):∃u,V k=some u/\v.b=u.b/\v.A=u.A/\v.y=u.y:=by
 unfold cleanTo at h
 cases e:V k with
 | none=>rw[e] at h;cases h
 | some u =>
  rw[e,Option.map_some] at h
  injection h with h
  subst h
  refine⟨u,rfl,?_,?_,?_⟩<;>split<;>rfl
theorem CleanAt.iter {h w w4:World}{r L:Nat}{E:Array MapEntry}{a f P:Nat}{room now hh mm:Int}{V:RowsV}{N:Array Nat}{pd:Int->Bool}(hc:CleanAt h h.heap.size r L E a f P room now hh mm V N pd w)(A:CaIs h a f r P room now hh mm V)(hB:Below h.heap.size w w4):CaIs w4 a f r P room now hh mm (cleanTo pd V)/\GrowBut (caMu a r V) h w4:=by
 refine⟨hc.ca.belowN hB (λk O=>A.lts k ?_) (λk v p g o e B => ?_),⟨hB.os.trans hc.gb.os,hB.tape.trans hc.gb.tape,hB.output.trans hc.gb.output,zU hc.gb.size hB.size,λi q hn=>(hB.block i q).trans (hc.gb.block i q hn)⟩⟩
 ·rcases O with e|e|⟨j,v,p,e⟩
  ·exact .inl e
  ·exact .inr (.inl e)
  ·obtain⟨u,h1,h2,_⟩:=cleanTo_of p
   exact .inr (.inr ⟨j,u,h1,by rw[e,h2]⟩)
 ·obtain⟨u,h1,_,I,H⟩:=cleanTo_of p
  have C:=(A.rows k u h1).bys
  rw[H] at B
  obtain⟨T,o',M,U,_⟩:=C.lies B
  rw[I,M] at e
  injection e with e
  injection e with e1 e2
  omega
section
variable {W0 W W' w:World}{d f l a r many P:Nat}{fr pg room now hh mm:Int}{s:DS}{S:LgS}{V:RowsV}{c:CaSt}
theorem CfIs.notTy (h:CfIs W0 d f l a r many P fr pg room now hh mm s S V W){g:Nat}{T:TypeId}{cs:Array Value}(j:BlkIs W g T cs)(h1:T≠171)(h2:T≠175)(q:T≠109)(p:T≠183)(B:T≠114):¬ sysMu d l a r V g/\g≠f:=by
 have u:=h.ca.notTy j h1 h2
 have k:=h.fh.ne j q p
 refine⟨λA => ?_,λe => ?_⟩
 ·rcases A with e|e|e
  ·exact k (.inl e)
  ·exact k (.inr e)
  ·exact u e
 ·subst e
  exact BlkIs.ne_type j h.fh.fb B rfl
theorem CfIs.other (h:CfIs W0 d f l a r many P fr pg room now hh mm s S V W){g:Nat}{T:TypeId}{cs:Array Value}(j:BlkIs W g T cs)(hs:cs.size<=64)(hu:∀n,cs[0]? ≠ some (.int .u64 n))(B:W0.heap.size<=g)(h1:T≠171)(h2:T≠175)(u:T≠109)(p:T≠183)(q:T≠114)(A:GrowBut (λk=>k=g) W W'):CfIs W0 d f l a r many P fr pg room now hh mm s S V W' :=
 h.keep A (λk e=>by subst e;exact⟨.inr (.inl ⟨_,_,j,hs,hu⟩),.inr (.inl ⟨_,_,j,hs⟩)⟩) (λk e=>by subst e;exact B) (λk e=>by subst e;exact h.notTy j h1 h2 u p q)
end
end Go.Proofs.YtpibjkbadnffgaaGreat
namespace Go.Proofs.YtpibjkbadnffgaaGreat
open Go Go.RowKit Lou
def dropTo (pd:Int->Bool)(V:RowsV):RowsV:=λk=>match V k with|some v=>if pd k && v.d then none else some v|none=>none
def dropV (V:RowsV):RowsV:=λk=>match V k with|some v=>if v.d then none else some v|none=>none
theorem dropTo_start (V:RowsV):dropTo (λ_=>false) V=V:=by
 funext k
 unfold dropTo
 cases V k<;>rfl
theorem dropTo_of {pd:Int->Bool}{V:RowsV}{k:Int}{v:RowV}(h:dropTo pd V k=some v):V k=some v/\(pd k=true->v.d=false):=by
 unfold dropTo at h
 cases e:V k with
 | none=>rw[e] at h;cases h
 | some u =>
  rw[e] at h
  simp only at h
  split at h
  ·cases h
  ·rename_i hn
   injection h with h
   subst h
   refine⟨rfl,λg => ?_⟩
   cases hd:u.d with
   | false=>rfl
   | true=>exact absurd (by simp[g,hd]) hn
theorem dropTo_keep {pd:Int->Bool}{V:RowsV}{k:Int}{v:RowV}(h:V k=some v)(hd:v.d=false):dropTo (pdPush pd k) V=dropTo pd V:=by
 funext j
 unfold dropTo
 by_cases e:j=k
 ·subst e
  rw[h]
  simp[hd]
 ·rw[pdPush_ne e]
theorem dropTo_del {pd:Int->Bool}{V:RowsV}{k:Int}{v:RowV}(h:V k=some v)(hd:v.d=true):dropTo (pdPush pd k) V=updV (dropTo pd V) k none:=by
 funext j
 unfold dropTo updV
 by_cases e:j=k
 ·subst e
  rw[if_pos rfl,h,pdPush_self]
  simp[hd]
 ·rw[if_neg e,pdPush_ne e]
theorem dropTo_fin {pd:Int->Bool}{V:RowsV}(h:∀k x,ptrV (dropTo pd V) k=some x->pd k=true):dropTo pd V=dropV V:=by
 funext k
 cases e:V k with
 | none=>unfold dropTo dropV;rw[e]
 | some v =>
  cases hd:v.d with
  | false=>unfold dropTo dropV;rw[e];simp[hd]
  | true =>
   cases g:pd k with
   | true=>unfold dropTo dropV;rw[e];simp[hd,g]
   | false =>
    have h1:dropTo pd V k=some v:=by unfold dropTo;rw[e];simp[g]
    have:=h k _ (ptrV_some h1)
    rw[g] at this
    cases this
theorem dropV_of {V:RowsV}{k:Int}{v:RowV}(h:dropV V k=some v):V k=some v/\v.d=false:=by
 unfold dropV at h
 cases e:V k with
 | none=>rw[e] at h;cases h
 | some u =>
  rw[e] at h
  simp only at h
  split at h
  ·cases h
  ·rename_i hn
   injection h with h
   subst h
   exact⟨rfl,by simpa using hn⟩
theorem caMu_sub {a r:Nat}{V V':RowsV}(h:∀k v,V' k=some v->V k=some v):∀k,caMu a r V' k->caMu a r V k:=λk g=>by
 rcases g with g|g|⟨j,u,hu,e⟩
 ·exact .inl g
 ·exact .inr (.inl g)
 ·exact .inr (.inr ⟨j,u,h j u hu,e⟩)
structure DropAt (W9:World)(h r clock:Nat)(a f P:Nat)(room now hh mm:Int)(V:RowsV)(es:Array MapEntry)(seen:Array Nat)(pd:Int->Bool)(W:World):Prop where
 it:IterAt W h r clock seen
 sn:SeenIs es seen pd
 mp:MapIs W r es clock
 ev:EnV es (ptrV (dropTo pd V))
 st:MapKept.Stamped es clock
 ca:CaIs W a f r P room now hh mm (dropTo pd V)
 gb:GrowBut (caMu a r V) W9 W
 sz:h<W.heap.size
theorem DropAt.iter {j w w4:World}{r C:Nat}{B:Array MapEntry}{a f P:Nat}{room now hh mm:Int}{V:RowsV}{H:Array Nat}{pd:Int->Bool}(hc:DropAt j j.heap.size r C a f P room now hh mm V B H pd w)(q:CaIs j a f r P room now hh mm V)(hB:Below j.heap.size w w4):CaIs w4 a f r P room now hh mm (dropTo pd V)/\GrowBut (caMu a r V) j w4:=by
 refine⟨hc.ca.belowN hB (λk L=>q.lts k (caMu_sub (λk v h=>(dropTo_of h).1) k L)) (λk v A g o e I => ?_),⟨hB.os.trans hc.gb.os,hB.tape.trans hc.gb.tape,hB.output.trans hc.gb.output,zU hc.gb.size hB.size,λi p hn=>(hB.block i p).trans (hc.gb.block i p hn)⟩⟩
 have u:=(q.rows k v (dropTo_of A).1).bys
 obtain⟨M,o',E,N,_⟩:=u.lies I
 rw[E] at e
 injection e with e
 injection e with e1 e2
 omega
theorem leftSize {w:World}{m r g j:Nat}{e:Array MapEntry}{h:Array Nat}(k:MapIs w m e g)(p:IterAt w r m j h):w.rangeLeft m r=(leftOf e h).size:=by
 obtain⟨c0,h1,_⟩:=p
 have h2:w.heap[m]? = some (.map e g):=k
 unfold World.rangeLeft
 rw[h2,h1]
theorem dirtyQ_gives {W:World}{v:RowV}(k:Int)(g:BlkIs W v.b 175 (rowC v)):Calls Tryz.prog 105 #[.int .i64 k,.pointer (some ⟨v.b,0,none⟩)] W λe w'=>e = .returned (.bool v.d)/\W=w':=by
 have k2:W.cell? ⟨v.b,2,none⟩=some (.bool v.d):=by rw[g.cell];rfl
 go_enter Tryz.func105,Tryz.ntmps105
 go_wp2
 go_ret
 exact⟨rfl,rfl⟩
section
variable {w:World}{a f r P:Nat}{room now hh mm:Int}{V:RowsV}
theorem opDel2 {ops:Array Oper}{Q:Exit->Act->World->Prop}{g:Act}{w:World}{r p:Nat}{k:Int}{j:Array MapEntry}{f:Int->Option Value}{x y:Operand}{o:Oper}{rest:List Oper}(E:o.guard=none)(u:o.op = .call { callee:=.builtin .delete,args:=#[x,y],argTypes:=#[163,3] })(h1:g.eval x = .map (some r))(h2:g.eval y = .int .i64 k)(A:EnV j f)(q:MapKept.Stamped j p)(I:MapIs w r j p)
  (h:∀e,EnV e (fsetV f k none)->MapKept.Stamped e p->e.toList.Sublist j.toList->wpList Tryz.prog ops Q rest (g.put o.dst (.tuple #[])) (setMap w r e p)):wpList Tryz.prog ops Q (o::rest) g w:=by
 obtain⟨e,L,C,H,B⟩:=x_delT2 (ρ:=g.eval) (o:=o) Tryz.underlying163 A q I u h1 h2
 exact wp_exec E L (h e C H B)
theorem delFunc_gives (h:CaIs w a f r P room now hh mm V) :
  Calls Tryz.prog 104 #[.map (some r),.func (.func 105) #[] #[]] w λe w'=>(∃v,e = .returned v)/\CaIs w' a f r P room now hh mm (dropV V)/\GrowBut (caMu a r V) w w':=by
 obtain⟨p,clock,H,he,A⟩:=h.mp
 have aA:=H.lt
 obtain⟨W1,E⟩:∃W1,W1=w.alloc (.mapIter (some r) clock #[] clock):=⟨_,rfl⟩
 have L:Below w.heap.size w W1:=by rw[E];exact(Below.refl _ _).alloc (zH _) _
 have at0:DropAt w w.heap.size r clock a f P room now hh mm V p #[] (λ_=>false) W1:=⟨⟨clock,by rw[E];exact heap_alloc_new w _,zH _⟩,SeenIs.start p,H.below L aA,by rw[dropTo_start];exact he,A,by rw[dropTo_start];exact h.below L,GrowBut.below L,by rw[E];simp⟩
 have aP:=Lib.hid E.symm
 clear E L
 go_enter Tryz.func104,Tryz.ntmps104
 go_wp2_with (refine wp_exec rfl (x_range H Tryz.underlying163 rfl rfl) ?_;rw[aP.out])
 simp only[Act.put,zA,zG,zF]
 go_loopw [8] (λ_ wr=>∃p u pd,DropAt w w.heap.size r clock a f P room now hh mm V p u pd wr) (λ_ wr=>wr.rangeLeft r w.heap.size)
 case atStart=>exact⟨_,_,_,at0⟩
 case round =>
  clear H he A at0 p
  obtain⟨p,u,pd,g⟩:=hrel
  have aL:∀x∈p.toList,x.born<clock:=((MapKept.stamped_iff p clock).1 g.st).1
  rcases iterV 0 g.it g.mp g.ev g.st aL (zH _) aA g.sz g.sn with⟨hall,hrun⟩|⟨k,xv,b,w4,hk,hpk,hrun,hit4,hB4,hdec,hent,hsn4⟩
  ·have aG:=g.ca
   rw[dropTo_fin hall] at aG
   have aM:=g.gb
   clear hall
   go_wp2_with (refine wp_exec rfl (x_next hrun rfl) ?_)
   go_end0
   exact⟨⟨_,rfl⟩,aG,aM⟩
  ·obtain⟨v,hv,rfl⟩:=ptrV_ptr hk
   obtain⟨aJ,_⟩:=dropTo_of hv
   obtain⟨C,N⟩:=g.iter h hB4
   have B:=g.mp.below hB4 aA
   have X:=g.ev
   have aF:=g.sz
   have A:=g.st
   have I:=dirtyQ_gives k (C.rows k v hv).blk
   have aC:=leftSize B hit4
   cases hd:v.d with
   | false =>
    rw[hd] at I
    have U:=dropTo_keep (pd:=pd) aJ hd
    have aQ:DropAt w w.heap.size r clock a f P room now hh mm V p (u.push b) (pdPush pd k) w4:=⟨hit4,hsn4,B,by rw[U];exact X,A,by rw[U];exact C,N,zO aF hB4.size⟩
    clear U hd g X A C N B aC
    go_wp2_with (first
     | (refine wp_exec rfl (x_next hrun rfl) ?_)
     | (refine wp_exec rfl (x_entry hent rfl) ?_)
     | (refine I.mono ?_;rintro e w' ⟨rfl,rfl⟩))
    exact⟨⟨_,_,_,aQ⟩,hdec⟩
   | true =>
    rw[hd] at I
    have aH:=dropTo_del (pd:=pd) aJ hd
    have aB:=Lib.hid aH
    have aR:=Lib.hid hd
    have aI:w.heap.size<w4.heap.size:=zO aF hB4.size
    have aO:∀q,EnV q (fsetV (ptrV (dropTo pd V)) k none)->MapKept.Stamped q clock->q.toList.Sublist p.toList->(∃p u pd,DropAt w w.heap.size r clock a f P room now hh mm V p u pd (setMap w4 r q clock))/\(setMap w4 r q clock).rangeLeft r w.heap.size<wr.rangeLeft r w.heap.size:=λq O T M=>by
     obtain⟨aK,Z⟩:=C.del k B q clock O T
     have aD:=B.set q clock
     have e1:=Z.block w.heap.size aI (by omega)
     have aE:=hit4.keep e1
     have aN:=hsn4.sub (λx hx=>M.subset hx)
     refine⟨⟨q,u.push b,pdPush pd k,aE,aN,aD,by rw[aB.out,ptrV_upd];exact O,T,by rw[aB.out];exact aK,N.trans (Z.more (λj e _ => .inr (.inl e))),zO aI Z.size⟩,?_⟩
     rw[leftSize aD aE]
     have:=leftOf_sub (u.push b) M
     omega
    clear aH hd g C N aC
    go_wp2_with (first
     | (refine wp_exec rfl (x_next hrun rfl) ?_)
     | (refine wp_exec rfl (x_entry hent rfl) ?_)
     | (refine opDel2 rfl rfl rfl rfl X A B ?_;intro q O T M;have HF:=Lib.hid (aO q O T M);simp only[Act.put])
     | (refine I.mono ?_;rintro e w' ⟨rfl,rfl⟩))
    exact HF.out
theorem cdrop_gives (h:CaIs w a f r P room now hh mm V):Calls Tryz.prog 57 #[.pointer (some ⟨a,0,none⟩)] w λe w'=>e = .returned (.int .i64 0)/\CaIs w' a f r P room now hh mm (dropV V)/\GrowBut (caMu a r V) w w':=by
 have p:=cnone_gives h.cb
 have j:=delFunc_gives h
 have k3:w.cell? ⟨a,3,none⟩=some (.map (some r)):=(h.cb.cell _).trans rfl
 go_enter Tryz.func57,Tryz.ntmps57
 go_wp2_with (first
  | (go_at_call 103;refine p.mono ?_;rintro e w' ⟨rfl,rfl⟩)
  | (go_at_call 104;refine j.mono ?_;rintro e q ⟨⟨v,rfl⟩,g,k⟩))
 go_ret
 exact⟨rfl,g,k⟩
end
theorem rowsR_upd (V:RowsV)(k:Int)(v:RowV):rowsR (updV V k (some v))=rowsPut (rowsR V) k (v.y,v.d):=by
 funext j
 unfold rowsR updV rowsPut
 split<;>rfl
theorem rowsR_none {V:RowsV}{k:Int}(h:V k=none):rowsR V k=none:=by unfold rowsR;rw[h];rfl
theorem rowsR_some {V:RowsV}{k:Int}{v:RowV}(h:V k=some v):rowsR V k=some (v.y,v.d):=by unfold rowsR;rw[h];rfl
def FullV (V:RowsV):Prop:=∀k v,V k=some v->v.y.length=512
theorem RowsOk.full {P:Nat}{Y:Nat->List UInt8}{V:RowsV}(h:RowsOk P Y (rowsR V)):FullV V:=λk v e=>(h k v.y v.d (rowsR_some e)).2.1
section
variable {fr pg room:Int}{P:Nat}{G:Nat->List UInt8}{S:LgS}{c c':CaSt}{i:Nat}
theorem RowsOk.congr {Y g:Nat->List UInt8}{R:RowsC}(h:RowsOk P Y R)(k:∀p,p<P->g p=Y p):RowsOk P g R:=λp b d e=>by
 obtain⟨h1,h2,j⟩:=h p b d e
 exact⟨h1,h2,λhd=>by rw[k p.toNat (by omega)];exact j hd⟩
end
section
variable {fr pg:Int}{P:Nat}{G1 G2 G1' G2':Nat->List UInt8}{S1 S2 S1' S2':LgS}{R1 R2 R1' R2':RowsC}
end

section
variable {ρ:Operand->Value}{w:World}{o:Oper}{x y z:Operand}
theorem x_loadQ {g k:Nat}{t T:TypeId}{cs:Array Value}(e:RowTy Tryz.prog T k)(h:BlkIs w g t cs)(q:cs.size=k)(j:o.op = .load T x)(p:ρ x = .pointer (some ⟨g,0,none⟩)):(execOp ρ o).run Tryz.prog w = .ok (.value (.agg cs)) w:=by
 have:=x_loadM (ρ:=ρ) (o:=o) e h.range (by simpa using q) j p
 simpa using this
end


theorem fopen_new2 {W0:World}(w:World)(d many:Nat)(fr pg:Int)(u:Below W0.heap.size W0 w)(hd:W0.heap.size<=d)(q:DkIs w d many (λ_=>zer64) [] 0 false)(C:planOk fr pg=true)(H:(many:Int)=2+9*fr+8*pg)(B:many<=1000000) :
  Calls Tryz.prog 21 #[.pointer (some ⟨d,0,none⟩),.agg #[.int .i64 fr,.int .i64 pg]] w λe w'=>∃f l,e = .returned (.tuple #[.pointer (some ⟨f,0,none⟩),.int .i64 0])/\FhIs W0 d f l many fr pg ⟨laid (λ_=>zer64) (wrL 1 (hEnc 1 1 0 0) 1),[],0,false⟩ ⟨1,1,0,[]⟩ w'/\w.heap.size<=f/\w.heap.size<=l:=by
 have I:=q.lt
 have A:Below w.heap.size w (w.alloc (.cells #[.int .i64 fr,.int .i64 pg] 59)):=(Below.refl _ w).alloc (zH _) _
 have E:=BlkIs.new w 59 #[.int .i64 fr,.int .i64 pg]
 have hs:=u.size
 refine(fopenW_gives w d fr pg (λl g=>w.heap.size<=l/\DkIs g d many (laid (λ_=>zer64) (wrL 1 (hEnc 1 1 0 0) 1)) [] 0 false/\BlkIs g l 183 (lgC (some ⟨d,0,none⟩) fr pg 1 1 0 none 0 0)/\Below W0.heap.size W0 g) ((open_newG _ fr pg d many 0 (q.grow A) C H B (by decide) (by decide)).mono ?_)).mono ?_
 ·rintro e g ⟨l,rfl,hl,j,h,p⟩
  refine⟨l,rfl,E.grown p (λe=>by injection e with e;omega),by simp at hl;omega,j,h,(u.trans (A.mono hs)).trans (grown_below p (by simp;omega) (λr e=>by injection e with e;rw[<-e];exact hd))⟩
 ·rintro e w' ⟨l,g,rfl,⟨hl,j,h,k⟩,rfl⟩
  have ha:Below g.heap.size g (g.alloc (.cells (flFC l fr pg) 114)):=(Below.refl _ _).alloc (zH _) _
  exact⟨_,l,rfl,⟨k.trans (ha.mono k.size),j.grow ha,LogIs.grow ⟨by omega,none,0,[],h,FrsIs.mt _ _,rfl⟩ ha,BlkIs.new _ _ _,hd,by omega⟩,by have:=h.lt;omega,hl⟩
theorem LI.nz {G:Nat->List UInt8}{S:LgS}{g:Nat}(h:LI G S g):∃k,¬ G k=zer64:=⟨S.sr % 2,λe=>by
 have h1:=isHead_headW (s:=S.sr) (e:=S.ep) (z:=g) (c:=S.fs.length) h.on.sr h.on.ep h.on.hzl h.on.hn
 rw[<-h.on.hd,e,isHead_zer] at h1
 cases h1⟩
theorem StP.nz {fr pg:Int}{G:Nat->List UInt8}{S:LgS}{i:Nat}(h:StP fr pg G S i):∃k,¬ G k=zer64:=by
 obtain⟨e,h⟩:=h.li
 exact h.nz
theorem cnew_bad (w:World)(f l d:Nat)(fr pg room:Int)(S:LgS)(h:BlkIs w f 114 (flFC l fr pg))(j:LogIs w l d fr pg S)(k:¬ (2<=room/\room<=2000)) :
  Calls Tryz.prog 60 #[.pointer (some ⟨f,0,none⟩),.int .i64 room] w λe w'=>e = .returned (.tuple #[.pointer none,.int .i64 2])/\w=w':=by
 have g:=fdisk_gives h j
 by_cases h1:room<2
 ·go_enter Tryz.func60,Tryz.ntmps60
  go_wp2_with (go_at_call 111;refine g.mono ?_;rintro e w' ⟨rfl,rfl⟩)
  exact bodyPost_ret (results_tmp2 rfl _ _ _) rfl ⟨rfl,rfl⟩
 ·have h2:2000<room:=by omega
  go_enter Tryz.func60,Tryz.ntmps60
  go_wp2_with (go_at_call 111;refine g.mono ?_;rintro e w' ⟨rfl,rfl⟩)
  exact bodyPost_ret (results_tmp2 rfl _ _ _) rfl ⟨rfl,rfl⟩
def NewOut (W0:World)(d f l many P:Nat)(fr pg room:Int)(S:LgS)(s:DS)(W:World)(e:Ending)(w':World):Prop :=
 ((2<=room/\room<=2000)/\∃a r,e = .returned (.tuple #[.pointer (some ⟨a,0,none⟩),.int .i64 0])/\CsIs W0 d f l a r many P fr pg room s S ⟨0,0,0,λ_=>none⟩ w'/\(∀k,sysMu d l a r (λ_=>none) k->k=d∨k=l∨W.heap.size<=k)/\Below W.heap.size W w') ∨
 (¬ (2<=room/\room<=2000)/\e = .returned (.tuple #[.pointer none,.int .i64 2])/\W=w')
theorem cnew_out {W0 W:World}{d f l many P:Nat}{fr pg room:Int}{S:LgS}{s:DS}(h:FhIs W0 d f l many fr pg s S W)(E:∃k,¬ s.g k=zer64)(B:∀x∈S.fs,x.y.length=512) :
  Calls Tryz.prog 60 #[.pointer (some ⟨f,0,none⟩),.int .i64 room] W (NewOut W0 d f l many P fr pg room S s W):=by
 have hs:=h.up.size
 by_cases p:2<=room/\room<=2000
 ·refine(cnew_gives W f l d P fr pg room S h.fb h.lg p).mono ?_
  rintro e w' ⟨a,r,rfl,h1,h2,C,A⟩
  refine .inl ⟨p,a,r,rfl,⟨h.grow A,C,λk u => ?_,E,B⟩,λk u => ?_,A⟩
  ·rcases u with rfl|rfl|⟨j,v,q,_⟩
   ·omega
   ·omega
   ·cases q
  ·rcases u with e|e|e|e|⟨j,v,q,_⟩
   ·exact .inl e
   ·exact .inr (.inl e)
   ·exact .inr (.inr (by rw[e];exact h1))
   ·exact .inr (.inr (by rw[e];exact h2))
   ·cases q
 ·refine(cnew_bad W f l d fr pg room S h.fb h.lg p).mono ?_
  rintro e w' ⟨rfl,rfl⟩
  exact .inr ⟨p,rfl,rfl⟩
section
variable {W0 W:World}{d f l a r many P:Nat}{fr pg room:Int}{s:DS}{S:LgS}{c:CaSt}
variable {G:Nat->List UInt8}{i:Nat}
end


section
variable {W0 W W':World}{d1 f1 l1 a1 r1 d2 f2 l2 a2 r2 many P:Nat}{fr pg rm1 rm2:Int}{G1 G1' G2:Nat->List UInt8}{S1 S1' S2:LgS}{c1 c1' c2:CaSt}{i:Nat}
theorem dropV_sub {V:RowsV}{a r:Nat}:∀k,caMu a r (dropV V) k->caMu a r V k:=caMu_sub (λk v e=>(dropV_of e).1)
end
structure PgSt where
 size:Int
 first:Int
 many:Int
 roots:List Int
deriving Inhabited
def psC (s:PgSt):List Value:=.int .i64 s.size :: .int .i64 s.first :: .int .i64 s.many::s.roots.map (Value.int .i64)
theorem psC_length {s:PgSt}(h:s.roots.length=16):(psC s).length=19:=by simp[psC,h]
def pgC (s:PgSt)(cv:Value)(l:PgSt)(under:Bool)(mk:Value):Array Value:=(psC s++cv::(psC l++[.bool under,mk])).toArray
section
variable {s l:PgSt}{cv mk:Value}{under:Bool}
theorem pgC_c (hs:s.roots.length=16):(pgC s cv l under mk)[19]? = some cv:=by
 unfold pgC
 rw[List.getElem?_toArray,List.getElem?_append_right (by rw[psC_length hs];omega),psC_length hs]
 rfl
theorem pgC_under (hs:s.roots.length=16)(hl:l.roots.length=16):(pgC s cv l under mk)[39]? = some (.bool under):=by
 unfold pgC
 rw[List.getElem?_toArray,List.getElem?_append_right (by rw[psC_length hs];omega),psC_length hs,show 39 - 19=19+1 from rfl,List.getElem?_cons_succ,List.getElem?_append_right (by rw[psC_length hl];omega),psC_length hl]
 rfl
theorem pgC_marks (hs:s.roots.length=16)(hl:l.roots.length=16):(pgC s cv l under mk)[40]? = some mk:=by
 unfold pgC
 rw[List.getElem?_toArray,List.getElem?_append_right (by rw[psC_length hs];omega),psC_length hs,show 40 - 19=20+1 from rfl,List.getElem?_cons_succ,List.getElem?_append_right (by rw[psC_length hl];omega),psC_length hl]
 rfl
theorem pgC_state' (hs:s.roots.length=16){j:Nat}(e:j<19):(pgC s cv l under mk)[j]? = (psC s)[j]?:=by
 unfold pgC
 rw[List.getElem?_toArray,List.getElem?_append_left (by rw[psC_length hs];exact e)]
theorem pgC_size (hs:s.roots.length=16):(pgC s cv l under mk)[0]? = some (.int .i64 s.size):=(pgC_state' hs (by omega)).trans rfl
theorem pgC_first (hs:s.roots.length=16):(pgC s cv l under mk)[1]? = some (.int .i64 s.first):=(pgC_state' hs (by omega)).trans rfl
end
theorem pnone_nil (w:World):Calls Tryz.prog 69 #[.pointer none] w λe w'=>e = .returned (.bool true)/\w=w':=by
 go_enter Tryz.func69,Tryz.ntmps69
 go_wp2
 go_ret
 exact⟨rfl,rfl⟩
theorem pnone_gives {w:World}{p a:Nat}(hc:w.cell? ⟨p,19,none⟩=some (.pointer (some ⟨a,0,none⟩))):Calls Tryz.prog 69 #[.pointer (some ⟨p,0,none⟩)] w λe w'=>e = .returned (.bool false)/\w=w':=by
 go_enter Tryz.func69,Tryz.ntmps69
 go_wp2
 go_ret
 exact⟨rfl,rfl⟩
theorem ptold_ok (w:World)(x:Int):Calls Tryz.prog 157 #[.int .i64 x,.int .i64 0] w λe w'=>e = .returned (.tuple #[.int .i64 x,.int .i64 0])/\w=w':=by
 go_enter Tryz.func157,Tryz.ntmps157
 go_wp2
 exact bodyPost_ret (results_tmp2 rfl _ _ _) rfl ⟨rfl,rfl⟩
theorem ptold_err (w:World)(x er:Int)(h:er≠0):Calls Tryz.prog 157 #[.int .i64 x,.int .i64 er] w λe w'=>e = .returned (.tuple #[.int .i64 0,.int .i64 er])/\w=w':=by
 go_enter Tryz.func157,Tryz.ntmps157
 go_wp2
 exact bodyPost_ret (results_tmp2 rfl _ _ _) rfl ⟨rfl,rfl⟩
theorem nodup_len:∀{l m:List Nat},l.Nodup->(∀x∈l,x∈m)->l.length<=m.length
 | [],m,_,_=>Nat.zero_le _
 | x::l,m,h,hs=>by
  obtain⟨h1,h2⟩:=List.nodup_cons.1 h
  have j:x∈m:=hs x (by simp)
  have:=nodup_len (l:=l) (m:=m.erase x) h2 (λy g=>(List.mem_erase_of_ne (λe=>h1 (by rw[<-e];exact g))).2 (hs y (by simp[g])))
  rw[List.length_erase_of_mem j] at this
  have:=List.length_pos_of_mem j
  simp only[zP]
  omega
def cntR (P:Nat)(V:RowsV):Nat:=(keysV (ptrV V) P).length
theorem ptrV_isSome {V:RowsV}{k:Int}:(ptrV V k).isSome=(V k).isSome:=by unfold ptrV;cases V k<;>rfl
theorem keysV_row {V:RowsV}{P k:Nat}:k∈keysV (ptrV V) P↔k<P/\(V (k:Int)).isSome=true:=by rw[keysV_mem,ptrV_isSome]
theorem cntR_le {P:Nat}{V V':RowsV}(h:∀k,(V' k).isSome=true->(V k).isSome=true):cntR P V'<=cntR P V :=
 nodup_len (keysV_nodup _ _) (λx e=>by rw[keysV_row] at e ⊢;exact⟨e.1,h _ e.2⟩)
theorem cntR_put (P:Nat)(V:RowsV)(k:Int)(v:RowV):cntR P (updV V k (some v))<=cntR P V+1:=by
 have:=nodup_len (l:=keysV (ptrV (updV V k (some v))) P) (m:=k.toNat::keysV (ptrV V) P) (keysV_nodup _ _) (λx g=>by
  rw[keysV_row] at g
  rw[List.mem_cons,keysV_row]
  by_cases e:(x:Int)=k
  ·left;omega
  ·rw[updV_ne e] at g
   exact .inr g)
 simpa[cntR] using this
section
variable {fr pg room:Int}{P:Nat}{Y:Nat->List UInt8}{G:Nat->List UInt8}{S:LgS}{c c':CaSt}{V V1:RowsV}
theorem cntR_same {k:Int}{u v:RowV}(h:V k=some u):cntR P (updV V k (some v))<=cntR P V:=cntR_le λj g=>by
 by_cases e:j=k
 ·rw[e,h];rfl
 ·rw[updV_ne e] at g;exact g
theorem cntR_drop:cntR P (dropV V)<=cntR P V:=cntR_le λk e=>by
 cases h:dropV V k with
 | none=>rw[h] at e;cases e
 | some v=>rw[(dropV_of h).1];rfl
theorem NoRoom.dirty (h:NoRoom P room V){l:List Nat}(hl:∀p b,rowsR V p=some (b,true)->p.toNat∈l)(hn:∀k v,V k=some v->0<=k):room<=(l.length:Int):=by
 have:=nodup_len (l:=keysV (ptrV V) P) (m:=l) (keysV_nodup _ _) (λx g=>by
  rw[keysV_row] at g
  cases e:V (x:Int) with
  | none=>rw[e] at g;cases g.2
  | some v =>
   have hd:=h.2 _ _ e
   have:=hl (x:Int) v.y (by rw[rowsR_some e,hd])
   simpa using this)
 have:=h.1
 omega
end
end Go.Proofs.YtpibjkbadnffgaaGreat
namespace Go.Proofs.YtpibjkbadnffgaaGreat
open Go Go.RowKit Lou Go.Shelf Go.Sort
def TakesL (w:World)(a f r P:Nat)(room now hh mm:Int)(V:RowsV)(page:Int)(e:Ending)(w':World):Prop :=
 (∃v,V page=some v/\e = .returned (.tuple #[.pointer (some ⟨v.b,0,none⟩),.int .i64 0])/\CaIs w' a f r P room (now+1) hh mm (updV V page (some { v with at_:=now+1 }))) ∨
 (V page=none/\∃b,w.heap.size<=b/\e = .returned (.tuple #[.pointer (some ⟨b,0,none⟩),.int .i64 0])/\CaIs w' a f r P room (now+1) hh mm (updV V page (some ⟨b,now+1,none,0,[],false⟩)))
theorem takesL_gives (w:World)(a f r P:Nat)(room now hh mm:Int)(V:RowsV)(h:CaIs w a f r P room now hh mm V)(hP:P<=1000)(hn:0<=now/\now<=1000000)(bN:2<=room)(page:Int)(bD:0<=page/\page<(P:Int))(bK:V page=none->((keysV (ptrV V) P).length:Int)<room) :
  Calls Tryz.prog 115 #[.pointer (some ⟨a,0,none⟩),.int .i64 page] w λe w'=>TakesL w a f r P room now hh mm V page e w'/\GrowBut (caMu a r V) w w':=by
 have aN:Below w.heap.size w (w.alloc (.cells #[.pointer (some ⟨a,0,none⟩)] 101)):=(Below.refl _ w).alloc (zH _) _
 have O:=BlkIs.new w 101 #[.pointer (some ⟨a,0,none⟩)]
 have aT:¬ w.heap.size=a:=λe=>by have:=h.cb.lt;omega
 have hw:IntKind.i64.wrap (now+1)=now+1:=wrap_i64_fr _ (by omega) (by omega)
 obtain⟨W0,aF⟩:∃W0,W0=w.alloc (.cells #[.pointer (some ⟨a,0,none⟩)] 101):=⟨_,rfl⟩
 have bS:W0.heap.size=w.heap.size+1:=by rw[aF];simp
 rw[<-aF] at aN O
 have A:=h.below aN
 have k0:=O.boxed
 have k3:W0.cell? ⟨a,3,none⟩=some (.map (some r)):=(A.cb.cell _).trans rfl
 obtain⟨I,clock,aD,he,a7⟩:=A.mp
 have aS:GrowBut (λk=>caMu a r V k∨w.heap.size<=k) w W0:=GrowBut.below aN
 have a5:∀{W':World},GrowBut (λk=>caMu a r V k∨w.heap.size<=k) w W'->GrowBut (caMu a r V) w W':=λhG=>hG.more (λk e hk=>by
  rcases e with e|e
  ·exact e
  ·omega)
 have aV:=Lib.hid aF.symm
 clear aF
 have bR:=hw
 cases H:V page with
 | some v =>
  have hl:=ptrV_some H
  have bJ:W0.cell? ⟨a,2,none⟩=some (.int .i64 now):=(A.cb.cell _).trans rfl
  have bL:=A.cb.free 2
  go_enter Tryz.func115,Tryz.ntmps115
  go_wp2_with (first
   | (rw[aV.out])
   | (refine wp_exec rfl (lookR he aD hl rfl rfl rfl) ?_))
  have h1:=A
  have bx:=O
  have T:=aS
  have q:=H
  obtain⟨v1,aA⟩:∃v1,v1=v:=⟨_,rfl⟩
  rw[<-aA] at q ⊢
  have aO:caMu a r V v1.b∨w.heap.size<=v1.b:=.inl (.inr (.inr ⟨page,v1,q,rfl⟩))
  obtain⟨W,L⟩:∃W,W=W0:=⟨_,rfl⟩
  rw[<-L] at h1 bx T ⊢
  clear L
  have aC:=h1.setCa 2 (.int .i64 (now+1)) (now':=now+1) (hh':=hh) (mm':=mm) rfl (by omega)
  have B:=aC.2.blk bx (show ¬ w.heap.size=a from aT)
  obtain⟨X,M⟩:=aC
  have aQ:=h1.rows page v1 q
  have u:=X.below (W':=(W.setCell ⟨a,2,none⟩ (.int .i64 (now+1))).drew) (Below.refl _ _).drew
  have hU:=used_gives (W:=(W.setCell ⟨a,2,none⟩ (.int .i64 (now+1))).drew) (u.rows page v1 q).blk (now+1)
  have U:=u.setRow (v1:={ v1 with at_:=now+1 }) q rfl 0 (.int .i64 (now+1)) rfl (.inl ⟨rfl,rfl,rfl⟩) ⟨by show 0<=now+1;omega,Int.le_refl _⟩ (λ_ k v hk Z=>by
   have:=(h1.rows k v Z).at0.2
   show v.at_≠now+1
   omega)
  have g:(W.setCell ⟨a,2,none⟩ (.int .i64 (now+1))).drew.cell? ⟨w.heap.size,0,none⟩=some (.pointer (some ⟨a,0,none⟩))/\(W.setCell ⟨a,2,none⟩ (.int .i64 (now+1))).drew.cell? ⟨a,2,none⟩=some (.int .i64 (now+1)):=⟨B.boxed,(u.cb.cell _).trans rfl⟩
  have aK:GrowBut (λk=>caMu a r V k∨w.heap.size<=k) w (((W.setCell ⟨a,2,none⟩ (.int .i64 (now+1))).drew).setCell ⟨v1.b,0,none⟩ (.int .i64 (now+1))):=((T.trans (M.more (λk e _ => .inl (.inl e)))).trans (GrowBut.below (Below.refl _ _).drew)).trans (U.2.more (λk e _=>by rw[e];exact aO))
  clear X M u aQ bx B
  refine RegF.start (λW:World=>W.cell? ⟨w.heap.size,0,none⟩=some (.pointer (some ⟨a,0,none⟩))/\W.cell? ⟨a,2,none⟩=some (.int .i64 (now+1))) 7 (by kernel_rfl) ?_
  refine RegF.t1 0 (.pointer (some ⟨v1.b,0,none⟩)) rfl g (λW ⟨j,p⟩=>by go_simp) ?_
  simp only[zE,zB,Act.put,zA,zG,zF]
  refine RegF.t1 1 (.pointer (some ⟨v1.b,0,none⟩)) rfl g (λW ⟨j,p⟩=>by go_simp) ?_
  simp only[zE,zD,zB,Act.put,zA,zG,zF]
  refine RegF.t1 2 (.pointer (some ⟨v1.b,0,none⟩)) rfl g (λW ⟨j,p⟩=>by go_simp) ?_
  simp only[zE,zD,zB,Act.put,zA,zG,zF]
  refine RegF.t1 3 (.pointer (some ⟨a,0,none⟩)) rfl g (λW ⟨j,p⟩=>by go_simp) ?_
  simp only[zE,zD,zB,Act.put,zA,zG,zF]
  refine RegF.t1 4 (.pointer (some ⟨a,0,none⟩)) rfl g (λW ⟨j,p⟩=>by go_simp) ?_
  simp only[zE,zD,zB,Act.put,zA,zG,zF]
  refine RegF.t1 5 (.pointer (some ⟨a,2,none⟩)) rfl g (λW ⟨j,p⟩=>by go_simp) ?_
  simp only[zE,zD,zB,Act.put,zA,zG,zF]
  refine RegF.t1 6 (.int .i64 (now+1)) rfl g (λW ⟨j,p⟩=>by go_simp) ?_
  simp only[zE,zD,zB,Act.put,zA,zG,zF]
  refine RegF.one 7 (by kernel_rfl) ?_
  refine RegF.opC 181 #[.tmp 58,.tmp 62] #[173,3] rfl rfl rfl (enters_of Tryz.func181 (by kernel_rfl) rfl) #[.pointer (some ⟨v1.b,0,none⟩),.int .i64 (now+1)] (by simp only[zK,zL,zN];rfl) (hU.mono ?_)
  rintro e w9 ⟨rfl,rfl⟩
  refine⟨_,rfl,λh=>absurd rfl h,RegF.done (by kernel_rfl) ?_⟩
  simp only[zE,zD,zB,Act.put,zA,zG,zF]
  clear g
  go_wp2
  exact bodyPost_ret (results_tmp2 rfl _ _ _) rfl ⟨.inl ⟨v1,q,rfl,U.1⟩,a5 aK⟩
 | none =>
  have hl:=ptrV_none H
  have a9:=A.size he
  obtain⟨n,aL⟩:∃n,n=(keysV (ptrV V) P).length:=⟨_,rfl⟩
  have bO:n<=P:=by rw[aL];exact keysV_len _ _
  rw[<-aL] at a9
  have bI:W0.drew.cell? ⟨a,1,none⟩=some (.int .i64 room):=(A.cb.cell _).trans rfl
  have aE:Below W0.heap.size W0 W0.drew:=(Below.refl _ _).drew
  have h1:=A.below aE
  have B:BlkIs W0.drew w.heap.size 101 #[.pointer (some ⟨a,0,none⟩)]:=O.below aE O.lt
  have a0:MapIs W0.drew r I clock:=aD
  have g:W0.drew.cell? ⟨w.heap.size,0,none⟩=some (.pointer (some ⟨a,0,none⟩))/\W0.drew.cell? ⟨a,3,none⟩=some (.map (some r))/\W0.drew.cell? ⟨a,1,none⟩=some (.int .i64 room)/\MapIs W0.drew r I clock:=⟨k0,k3,bI,aD⟩
  go_enter Tryz.func115,Tryz.ntmps115
  go_wp2_with (first
   | (rw[aV.out])
   | (refine wp_exec rfl (look0R he aD hl rfl rfl rfl) ?_))
  refine RegF.start (λW:World=>W.cell? ⟨w.heap.size,0,none⟩=some (.pointer (some ⟨a,0,none⟩))/\W.cell? ⟨a,3,none⟩=some (.map (some r))/\W.cell? ⟨a,1,none⟩=some (.int .i64 room)/\MapIs W r I clock) 99 (by kernel_rfl) ?_
  refine RegF.t0 0 (.pointer (some ⟨a,0,none⟩)) rfl g (λW ⟨j,p,E,C⟩=>by go_simp) ?_
  simp only[zE,zB,Act.put,zA,zG,zF]
  refine RegF.t0 1 (.pointer (some ⟨a,0,none⟩)) rfl g (λW ⟨j,p,E,C⟩=>by go_simp) ?_
  simp only[zE,zD,zB,Act.put,zA,zG,zF]
  refine RegF.t0 2 (.pointer (some ⟨a,3,none⟩)) rfl g (λW ⟨j,p,E,C⟩=>by go_simp) ?_
  simp only[zE,zD,zB,Act.put,zA,zG,zF]
  refine RegF.t0 3 (.map (some r)) rfl g (λW ⟨j,p,E,C⟩=>by go_simp) ?_
  simp only[zE,zD,zB,Act.put,zA,zG,zF]
  refine RegF.t0 4 (.int .i64 (I.size:Int)) rfl g (λW hW=>x_lenT Tryz.underlying163 hW.2.2.2 rfl rfl) ?_
  simp only[zE,zD,zB,Act.put,zA,zG,zF]
  refine RegF.t0 5 (.pointer (some ⟨a,0,none⟩)) rfl g (λW ⟨j,p,E,C⟩=>by go_simp) ?_
  simp only[zE,zD,zB,Act.put,zA,zG,zF]
  refine RegF.t0 6 (.pointer (some ⟨a,0,none⟩)) rfl g (λW ⟨j,p,E,C⟩=>by go_simp) ?_
  simp only[zE,zD,zB,Act.put,zA,zG,zF]
  refine RegF.t0 7 (.pointer (some ⟨a,1,none⟩)) rfl g (λW ⟨j,p,E,C⟩=>by go_simp) ?_
  simp only[zE,zD,zB,Act.put,zA,zG,zF]
  refine RegF.t0 8 (.int .i64 room) rfl g (λW ⟨j,p,E,C⟩=>by go_simp) ?_
  simp only[zE,zD,zB,Act.put,zA,zG,zF]
  refine RegF.one 9 (by kernel_rfl) (RegF.opV (w':=W0.drew) (.bool (decide ((I.size:Int) ≥ room))) rfl rfl (by go_simp) ⟨λ_=>g,RegF.done (by kernel_rfl) ?_⟩)
  simp only[zE,zD,zB,Act.put,zA,zG,zF]
  clear g
  obtain⟨W1,aU⟩:∃W1,W1=W0.drew:=⟨_,rfl⟩
  rw[<-aU] at h1 B a0 aE ⊢
  clear aU
  have bF:GrowBut (λk=>caMu a r V k∨w.heap.size<=k) w W1:=aS.trans (GrowBut.below aE)
  have a8:=bK H
  rw[<-aL] at a8
  rw[show decide ((I.size:Int) ≥ room)=false from decide_eq_false (by omega)]
  have hd:=h1
  have aW:=a0
  have bH:=he
  have bB:=a7
  have a4:=B
  have bA:=H
  have a3:=bF
  have aB:Below W1.heap.size W1 (W1.alloc (.cells #[.int .i64 0,.slice none 0 0,.bool false] 175)):=(Below.refl _ _).alloc (zH _) _
  have aP:=BlkIs.new W1 175 #[.int .i64 0,.slice none 0 0,.bool false]
  have aJ:w.heap.size<=W1.heap.size:=a3.size
  obtain⟨N,aI⟩:∃N,N=W1.alloc (.cells #[.int .i64 0,.slice none 0 0,.bool false] 175):=⟨_,rfl⟩
  rw[<-aI] at aB aP
  have hf:=hd.below aB
  have aH:MapIs N r _ _:=aW.below aB aW.lt
  have aM:=a4.below aB a4.lt
  have bG:=a3.trans (GrowBut.below (Mu:=λk=>caMu a r V k∨w.heap.size<=k) aB)
  have bE:=Lib.hid aI.symm
  clear aI
  have bP:=aM.boxed
  have bM:N.cell? ⟨a,3,none⟩=some (.map (some r)):=(hf.cb.cell _).trans rfl
  have aX:∀k v,V k=some v->v.b≠W1.heap.size:=λk v Z e=>by
   have:=(hd.rows k v Z).blk.lt
   omega
  obtain⟨b1,aY⟩:∃b1,b1=W1.heap.size:=⟨_,rfl⟩
  rw[<-aY] at aP aX aJ
  go_wp2_with (first
   | (rw[bE.out])
   | (rw[<-aY])
   | (refine wp_putR rfl rfl rfl rfl rfl bH bB aH ?_
      intro aR ck2 a6 bC
      have aG:=hf.fresh bD bA hn.1 aP aX aH aR ck2 a6 bC
      have bx:=aG.2.blk aM (λe=>aH.notBlk aM e.symm)
      have h1:=aG.1
      have T:=bG.trans (aG.2.more (Nu:=λk=>caMu a r V k∨w.heap.size<=k) (λk e _ => .inl (.inr (.inl e))))
      clear aG
      obtain⟨W,L⟩:∃W,W=setMap N r aR ck2:=⟨_,rfl⟩
      rw[<-L] at bx h1 T ⊢
      clear L
      have bQ:=bx.boxed
      have bJ:W.cell? ⟨a,2,none⟩=some (.int .i64 now):=(h1.cb.cell _).trans rfl
      have bL:=h1.cb.free 2))
  obtain⟨v1,aA⟩:∃v1:RowV,v1=⟨b1,0,none,0,[],false⟩:=⟨_,rfl⟩
  rw[<-aA] at h1
  have aZ:v1.b=b1:=by rw[aA]
  rw[<-aZ]
  have q:=updV_self (V) page (some v1)
  have aO:caMu a r V v1.b∨w.heap.size<=v1.b:=.inr (by rw[aZ];exact aJ)
  have aC:=h1.setCa 2 (.int .i64 (now+1)) (now':=now+1) (hh':=hh) (mm':=mm) rfl (by omega)
  have B:=aC.2.blk bx (show ¬ w.heap.size=a from aT)
  obtain⟨X,M⟩:=aC
  have aQ:=h1.rows page v1 q
  have u:=X.below (W':=(W.setCell ⟨a,2,none⟩ (.int .i64 (now+1))).drew) (Below.refl _ _).drew
  have hU:=used_gives (W:=(W.setCell ⟨a,2,none⟩ (.int .i64 (now+1))).drew) (u.rows page v1 q).blk (now+1)
  have U:=u.setRow (v1:={ v1 with at_:=now+1 }) q rfl 0 (.int .i64 (now+1)) rfl (.inl ⟨rfl,rfl,rfl⟩) ⟨by show 0<=now+1;omega,Int.le_refl _⟩ (λ_ k v hk Z=>by
   have:=(h1.rows k v Z).at0.2
   show v.at_≠now+1
   omega)
  have g:(W.setCell ⟨a,2,none⟩ (.int .i64 (now+1))).drew.cell? ⟨w.heap.size,0,none⟩=some (.pointer (some ⟨a,0,none⟩))/\(W.setCell ⟨a,2,none⟩ (.int .i64 (now+1))).drew.cell? ⟨a,2,none⟩=some (.int .i64 (now+1)):=⟨B.boxed,(u.cb.cell _).trans rfl⟩
  have aK:GrowBut (λk=>caMu a r V k∨w.heap.size<=k) w (((W.setCell ⟨a,2,none⟩ (.int .i64 (now+1))).drew).setCell ⟨v1.b,0,none⟩ (.int .i64 (now+1))):=((T.trans (M.more (λk e _ => .inl (.inl e)))).trans (GrowBut.below (Below.refl _ _).drew)).trans (U.2.more (λk e _=>by rw[e];exact aO))
  clear X M u aQ bx B
  refine RegF.start (λW:World=>W.cell? ⟨w.heap.size,0,none⟩=some (.pointer (some ⟨a,0,none⟩))/\W.cell? ⟨a,2,none⟩=some (.int .i64 (now+1))) 7 (by kernel_rfl) ?_
  refine RegF.t1 0 (.pointer (some ⟨v1.b,0,none⟩)) rfl g (λW ⟨j,p⟩=>by go_simp) ?_
  simp only[zE,zB,Act.put,zA,zG,zF]
  refine RegF.t1 1 (.pointer (some ⟨v1.b,0,none⟩)) rfl g (λW ⟨j,p⟩=>by go_simp) ?_
  simp only[zE,zD,zB,Act.put,zA,zG,zF]
  refine RegF.t1 2 (.pointer (some ⟨v1.b,0,none⟩)) rfl g (λW ⟨j,p⟩=>by go_simp) ?_
  simp only[zE,zD,zB,Act.put,zA,zG,zF]
  refine RegF.t1 3 (.pointer (some ⟨a,0,none⟩)) rfl g (λW ⟨j,p⟩=>by go_simp) ?_
  simp only[zE,zD,zB,Act.put,zA,zG,zF]
  refine RegF.t1 4 (.pointer (some ⟨a,0,none⟩)) rfl g (λW ⟨j,p⟩=>by go_simp) ?_
  simp only[zE,zD,zB,Act.put,zA,zG,zF]
  refine RegF.t1 5 (.pointer (some ⟨a,2,none⟩)) rfl g (λW ⟨j,p⟩=>by go_simp) ?_
  simp only[zE,zD,zB,Act.put,zA,zG,zF]
  refine RegF.t1 6 (.int .i64 (now+1)) rfl g (λW ⟨j,p⟩=>by go_simp) ?_
  simp only[zE,zD,zB,Act.put,zA,zG,zF]
  refine RegF.one 7 (by kernel_rfl) ?_
  refine RegF.opC 181 #[.tmp 58,.tmp 62] #[173,3] rfl rfl rfl (enters_of Tryz.func181 (by kernel_rfl) rfl) #[.pointer (some ⟨v1.b,0,none⟩),.int .i64 (now+1)] (by simp only[zK,zL,zN];rfl) (hU.mono ?_)
  rintro e w9 ⟨rfl,rfl⟩
  refine⟨_,rfl,λh=>absurd rfl h,RegF.done (by kernel_rfl) ?_⟩
  simp only[zE,zD,zB,Act.put,zA,zG,zF]
  clear g
  go_wp2
  have hQ:=U.1
  rw[updV_updV] at hQ
  subst aA
  exact bodyPost_ret (results_tmp2 rfl _ _ _) rfl ⟨.inr ⟨H,b1,aJ,rfl,hQ⟩,a5 aK⟩
end Go.Proofs.YtpibjkbadnffgaaGreat
namespace Go.Proofs.YtpibjkbadnffgaaGreat
open Go Go.RowKit Lou
section
variable {w:World}{a f r P:Nat}{room now hh mm:Int}{V:RowsV}
theorem takesL_hit (h:CaIs w a f r P room now hh mm V)(hP:P<=1000)(hn:0<=now/\now<=1000000)(j:2<=room){page:Int}{v:RowV}(g:V page=some v) :
  Calls Tryz.prog 115 #[.pointer (some ⟨a,0,none⟩),.int .i64 page] w λe w'=>e = .returned (.tuple #[.pointer (some ⟨v.b,0,none⟩),.int .i64 0])/\CaIs w' a f r P room (now+1) hh mm (updV V page (some { v with at_:=now+1 }))/\GrowBut (caMu a r V) w w':=by
 refine(takesL_gives w a f r P room now hh mm V h hP hn j page (h.rows page v g).key (λe=>by rw[g] at e;cases e)).mono ?_
 rintro e w' ⟨⟨v',h1,rfl,h2⟩|⟨h1,_⟩,k⟩
 ·rw[g] at h1
  injection h1 with h1
  subst h1
  exact⟨rfl,h2,k⟩
 ·rw[g] at h1
  cases h1
def TookL (V:RowsV)(page:Int)(b:Nat)(sz:Nat):Prop:=(∃v,V page=some v/\b=v.b)∨(V page=none/\sz<=b)
theorem TookL.mu {page:Int}{b sz:Nat}(h:TookL V page b sz):caMu a r V b∨sz<=b:=by
 rcases h with⟨v,h1,h2⟩|⟨_,h3⟩
 ·exact .inl (.inr (.inr ⟨page,v,h1,h2⟩))
 ·exact .inr h3
end
theorem creadL_hit (w:World)(a f r P:Nat)(room now hh mm:Int)(V:RowsV)(h:CaIs w a f r P room now hh mm V)(hP:P<=1000)(hn:0<=now/\now<=1000000)(U:2<=room)(aA:0<=hh/\hh<=1000000)(page:Int)(v:RowV)(j:V page=some v) :
  Calls Tryz.prog 65 #[.pointer (some ⟨a,0,none⟩),.int .i64 page] w λe w'=>∃A c,e = .returned (.tuple #[.slice A v.y.length c,.int .i64 0])/\InB w' w'.heap.size A c v.y/\TyB w' A/\CaIs w' a f r P room (now+1) (hh+1) mm (updV V page (some { v with at_:=now+1 }))/\GrowBut (caMu a r V) w w':=by
 have T:=cnone_gives h.cb
 have k3:w.cell? ⟨a,3,none⟩=some (.map (some r)):=(h.cb.cell _).trans rfl
 have u:=add1_gives (w:=w) (a:=⟨a,4,none⟩) (x:=hh) ((h.cb.cell _).trans rfl) (h.cb.free 4) rfl (by omega)
 obtain⟨h1,H⟩:=h.setCa 4 (.int .i64 (hh+1)) (now':=now) (hh':=hh+1) (mm':=mm) rfl (Int.le_refl _)
 have q:=takesL_hit h1 hP hn U j
 obtain⟨es,aB,I,M,Z⟩:=h.mp
 have hl:=ptrV_some j
 obtain⟨C,E⟩:∃C,C=w.setCell ⟨a,4,none⟩ (.int .i64 (hh+1)):=⟨_,rfl⟩
 rw[<-E] at u h1 H q
 clear E
 go_enter Tryz.func65,Tryz.ntmps65
 go_wp2_with (first
  | (go_at_call 103;refine T.mono ?_;rintro e w' ⟨rfl,rfl⟩)
  | (refine wp_exec rfl (lookR M I hl rfl rfl rfl) ?_)
  | (go_at_call 120;refine u.mono ?_;rintro e w' ⟨rfl,rfl⟩)
  | (go_at_call 115;refine q.mono ?_;rintro e p ⟨rfl,h2,L⟩
     have g:=h2.rows page _ (updV_self V page _)
     have k2:p.cell? ⟨v.b,1,none⟩=some (.slice v.A v.y.length v.c):=(g.blk.cell _).trans rfl
     have N:=cloneP_gives p v.A v.c v.y g.bys g.short)
  | (go_at_call 116;refine N.mono ?_;rintro e w3 ⟨A,c,rfl,O,aC,X,B⟩))
 exact bodyPost_ret (results_tmp2 rfl _ _ _) rfl ⟨A,c,rfl,O,X,h2.below B,((H.more (λk e _ => .inl e)).trans L).trans (GrowBut.below B)⟩
theorem cwriteL_gives (w:World)(a f l r P:Nat)(fr pg room now hh mm:Int)(V:RowsV)(h:CaIs w a f r P room now hh mm V)(hf:BlkIs w f 114 (flFC l fr pg))(hP:P<=1000)(aI:(P:Int)=pg)(hn:0<=now/\now<=1000000)(aH:2<=room)(page:Int)(aC:0<=page/\page<pg)(A:Option Addr)(c:Nat)(y:List UInt8)(q:y.length=512)(aD:InB w w.heap.size A c y)(aE:V page=none->((keysV (ptrV V) P).length:Int)<room) :
  Calls Tryz.prog 62 #[.pointer (some ⟨a,0,none⟩),.int .i64 page,.slice A 512 c] w λe w'=>∃b Z c',TookL V page b w.heap.size/\e = .returned (.int .i64 0)/\CaIs w' a f r P room (now+1) hh mm (updV V page (some ⟨b,now+1,Z,c',y,true⟩))/\GrowBut (caMu a r V) w w':=by
 have HN:=cnone_gives h.cb
 have T:=fplan_gives hf
 have k0:w.cell? ⟨a,0,none⟩=some (.pointer (some ⟨f,0,none⟩)):=(h.cb.cell _).trans rfl
 have hq:=planPages fr pg
 have h0:¬ page<0:=by omega
 have h1:¬ pg<=page:=by omega
 have HT:∀W,Below w.heap.size w W->Calls Tryz.prog 115 #[.pointer (some ⟨a,0,none⟩),.int .i64 page] W λe w'=>∃v1,TookL V page v1.b w.heap.size/\v1.at_=now+1/\e = .returned (.tuple #[.pointer (some ⟨v1.b,0,none⟩),.int .i64 0])/\CaIs w' a f r P room (now+1) hh mm (updV V page (some v1))/\GrowBut (caMu a r V) W w':=λW hB=>by
  refine(takesL_gives W a f r P room now hh mm V (h.below hB) hP hn aH page ⟨aC.1,by omega⟩ aE).mono ?_
  rintro e w' ⟨⟨v,u,rfl,h2⟩|⟨u,b,j,rfl,g⟩,N⟩
  ·exact⟨{ v with at_:=now+1 },.inl ⟨v,u,rfl⟩,rfl,rfl,h2,N⟩
  ·exact⟨⟨b,now+1,none,0,[],false⟩,.inr ⟨u,zU hB.size j⟩,rfl,rfl,g,N⟩
 go_enter Tryz.func62,Tryz.ntmps62
 go_wp2_with fail
 refine wp_scope_straight ?_
 go_wp2_with (first
  | (go_at_call 103;refine HN.mono ?_;rintro e w' ⟨rfl,rfl⟩)
  | (go_at_call 114;refine T.mono ?_;rintro e w1 ⟨rfl,C⟩))
 refine(HT w1 C).mono ?_
 rintro e B ⟨v1,I,aB,rfl,h2,U⟩
 have O:=(GrowBut.below (Mu:=caMu a r V) C).trans U
 have aF:InB B B.heap.size A c y:=RowIs.keepB aD (.inl q) O h.ca
 have H:=cloneP_gives B A c y aF (by omega)
 rw[q] at H
 have M:=updV_self V page (some v1)
 go_wp2_with (first
  | (go_at_call 116;refine H.mono ?_;rintro e E ⟨A3,c3,rfl,X,aK,aJ,L⟩
     have j:=h2.below L
     have p:=j.rows page _ M
     have k1:E.cell? ⟨v1.b,1,none⟩=some (.slice v1.A v1.y.length v1.c):=(p.blk.cell _).trans rfl
     have k2:=p.blk.free 1
     have k3:E.cell? ⟨v1.b,2,none⟩=some (.bool v1.d):=(p.blk.cell _).trans rfl
     have k4:=p.blk.free 2
     obtain⟨g,aG⟩:=j.fill M q X))
 go_step3
 go_wp2
 simp only[Exit.noGoto]
 go_ret
 rw[updV_updV,aB] at g
 refine⟨v1.b,A3,c3,I,rfl,g,?_⟩
 have aA:=(O.more (Nu:=λk=>caMu a r V k∨w.heap.size<=k) (λk e _ => .inl e)).trans ((GrowBut.below L).trans (aG.more (λk e _=>by rw[e];exact I.mu)))
 exact aA.more (λk e hk=>by rcases e with e|e;exact e;omega)
end Go.Proofs.YtpibjkbadnffgaaGreat
namespace Go.Proofs.YtpibjkbadnffgaaGreat
open Go Go.RowKit Lou Go.Shelf
attribute [local go_sem] Oper.semAt_some
section
variable {w W W':World}{a f r P:Nat}{room now hh mm:Int}{V:RowsV}
theorem CaIs.notDfL (h:CaIs W a f r P room now hh mm V){D:Nat}{E:Option (List Deferred)}(g:W.heap[D]? = some (.deferred E)):¬ caMu a r V D:=by
 have hc:∀{T:TypeId} {cs:Array Value} {k:Nat},BlkIs W k T cs->D≠k:=λq e=>by
  subst e
  have p:W.heap[D]? = some (.cells _ _ (0,0)):=q
  rw[g] at p
  cases p
 rintro(e|e|⟨j,v,u,e⟩)
 ·exact hc h.cb e
 ·obtain⟨A,c,C,_⟩:=h.mp
  have B:W.heap[r]? = some (.map A c):=C
  rw[e,B] at g
  cases g
 ·exact hc (h.rows j v u).blk e
theorem CaIs.takenL (h:CaIs W a f r P room now hh mm V){D:Nat}{p:Option (List Deferred)}(j:W.heap[D]? = some (.deferred p))(o:Obj):CaIs (W.putObj D o) a f r P room now hh mm V/\GrowBut (λk=>k=D) W (W.putObj D o):=by
 have g:GrowBut (λk=>k=D) W (W.putObj D o):=GrowBut.grown (grownBy_putObj' W D o) (λr e=>by injection e with e;exact .inl e.symm)
 exact⟨h.keep g (λk e=>by subst e;exact .inr (.inr ⟨_,j⟩)) (λk e=>by subst e;exact h.notDfL j),g⟩
structure DlB (W:World)(d l:Nat):Prop where
 dk:∃cs,BlkIs W d 109 cs/\cs.size<=64/\∀n,cs[0]? ≠ some (.int .u64 n)
 lg:∃cs,BlkIs W l 183 cs/\cs.size<=64/\∀n,cs[0]? ≠ some (.int .u64 n)
theorem DlB.grow {d l:Nat}(h:DlB W d l)(hB:Below W.heap.size W W'):DlB W' d l:=by
 obtain⟨⟨c1,g,h1⟩,⟨c2,e,h2⟩⟩:=h
 exact⟨⟨c1,g.below hB g.lt,h1⟩,⟨c2,e.below hB e.lt,h2⟩⟩
theorem CaIs.turnDl {d l:Nat}(h:CaIs W a f r P room now hh mm V)(hd:DlB W d l)(p:GrowBut (λk=>k=d∨k=l) W W'):CaIs W' a f r P room now hh mm V:=by
 obtain⟨⟨c1,j,h1⟩,⟨c2,g,h2⟩⟩:=hd
 exact h.keep p (λk e=>by rcases e with rfl|rfl;exact .inr (.inl ⟨_,_,j,h1⟩);exact .inr (.inl ⟨_,_,g,h2⟩)) (λk e=>by rcases e with rfl|rfl;exact h.notTy j (by decide) (by decide);exact h.notTy g (by decide) (by decide))
theorem DlB.ne {d l k:Nat}{T:TypeId}{cs:Array Value}(h:DlB W d l)(g:BlkIs W k T cs)(h1:T≠109)(h2:T≠183):¬ (k=d∨k=l):=by
 obtain⟨⟨c1,p,_⟩,⟨c2,j,_⟩⟩:=h
 rintro(e|e)
 ·exact BlkIs.ne_type g p h1 e
 ·exact BlkIs.ne_type g j h2 e
theorem DlB.notDf {d l D:Nat}(h:DlB W d l){u:Option (List Deferred)}(j:W.heap[D]? = some (.deferred u)):¬ (D=d∨D=l):=by
 obtain⟨⟨c1,q,_⟩,⟨c2,p,_⟩⟩:=h
 have k:W.heap[d]? = some (.cells _ _ (0,0)):=q
 have g:W.heap[l]? = some (.cells _ _ (0,0)):=p
 rintro(e|e)<;>subst e
 ·rw[j] at k;cases k
 ·rw[j] at g;cases g
theorem lcommit_in (n:Nat)(hn:10<=n)(h:CaIs w a f r P room now hh mm V){d l:Nat}(bT:DlB w d l)(bV:∀k v,V k=some v->v.y.length=512)(cD:P<=1000)(y0:List UInt8)(cH:y0.length=512)(a6:dirtyL (rowsR V) P=[(0,y0)])(z:Int)
  (HF:∀W' A k xs,Below w.heap.size w W'->PwArgs W' w.heap.size A 1 xs (pwL [(0,y0)])->Calls Tryz.prog 119 #[.pointer (some ⟨f,0,none⟩),.int .i64 z,.slice A 1 k] W' λe w'=>e = .returned (.int .i64 0)/\GrowBut (λk=>k=d∨k=l) W' w') :
  CallsIn Fence.wide n Tryz.prog 64 #[.pointer (some ⟨a,0,none⟩),.int .i64 z] w λe w'=>e = .returned (.int .i64 0)/\CaIs w' a f r P room now hh mm (cleanV V)/\GrowBut (λk=>caMu a r V k∨(k=d∨k=l)) w w':=by
 have h1:1<=n:=by omega
 obtain⟨W2,aE⟩:∃W2,W2=w.alloc (.cells #[.slice none 0 0] 194):=⟨_,rfl⟩
 have aP:Below w.heap.size w W2:=by rw[aE];exact(Below.refl _ w).alloc (zH _) _
 have b0:BlkIs W2 w.heap.size 194 #[.slice none 0 0]:=by rw[aE];exact BlkIs.new w _ _
 have s2:W2.heap.size=w.heap.size+1:=by rw[aE];simp
 have h2:=h.below aP
 have HN:=cnone_gives h.cb
 have HD:=cdirty_gives W2 a f r P room now hh mm V h2
 have bM:∀k y,dirtyY V k=some y->0<=k/\k<(P:Int):=λk y hy=>by
  unfold dirtyY at hy
  cases p:V k with
  | none=>rw[p] at hy;cases hy
  | some v=>exact(h.rows k v p).key
 have aN:=dirtyPg h2 bV
 have bJ:=aN.keys bM
 have bO:=Lib.hid aE.symm
 clear aE
 refine callsIn_of_wp_marks Tryz.func64 rfl trivial ?_ rfl
 simp only[Tryz.ntmps64,zT,zP,qE,qO,qP,zX,zY,qD,qA,zV,qB]
 gi_wp2_with (first
  | (refine⟨trivial,?_⟩;gi_at_call 103;refine(callsIn_wide.2 HN).mono ?_;rintro e w' ⟨rfl,rfl⟩)
  | (refine⟨trivial,?_⟩;gi_at_call 117;rw[bO.out];refine(callsIn_wide.2 HD).mono ?_;rintro e W4 ⟨q,s4,eo,co,rfl,hq,a4,a7,bK,aG,cI,cK⟩))
 have bH:=aN.grow aG
 have b4:=b0.below aG b0.lt
 have aY:Below w.heap.size w W4:=aP.trans (aG.mono aP.size)
 have cF:=aG.size
 clear HN HD h2 aN bO b0
 refine wpIn_rangeFunc_U rfl h1 (gf:=182) (lb:=#[.pointer (some ⟨q,0,none⟩)]) rfl trivial (enters_of Tryz.func182 (by kernel_rfl) rfl)
  (dirty1_seq (n - 1) (by omega) q s4 P co eo (dirtyF V) (dirtyY V) W4 hq a4 a7 bK bH bJ (by omega)) (Below.refl _ _) (λ_=>rfl) (λk=>k=w.heap.size)
  ⟨λe=>by omega,λe=>by omega,λk e=>by subst e;exact .inr ⟨_,_,b4,by show 1<=64;decide⟩⟩
  (λN U X=>CmtAt w W4.heap.size (dirtyY V) N U X) (λ_ _ _ _=>False) (CmtAt.st _ _ _) (λ_ _ _ _ _ _ h _ _=>h) (λs U X hs=>hs.lts) ?ownR
  ⟨⟨none,0,b4,World.ownsRow_nil _ _ _ _,λk=>⟨λe => .inl e,λe=>e.elim id (λe=>by cases e)⟩⟩,(λx hx=>by cases hx),aY,by omega,zH _⟩ ?act ?assign ?body ?done ?stop
 case ownR =>
  rintro N x _ X Y row ⟨u,e2,y,e3,e4,e5,e6⟩ bB hr
  exact⟨u,e2,y,e3,e4,InB.ownFrom (B:=W4.heap.size) _ _ _ () X Y row e5 bB hr,TyB.ownFrom (B:=W4.heap.size) _ () X Y row e6 bB hr⟩
 case assign =>
  intro l1 x V K hK
  simp only[pgEnc]
  gi_wp2
  exact hK
 case body =>
  rintro l1 N ⟨I,H,M⟩ U X E ⟨u,_,y,e3,e4,e5,e6⟩
  have cE:N.length<=1000:=by
   have h3:=(List.getElem?_eq_some_iff.1 u).1
   have h4:=keysV_len (dirtyF V) P
   omega
  obtain⟨Aw,cw,hb,own,hU⟩:=E.has
  have k1:=hb.boxed
  have kf:=hb.free 0
  have aF:Below X.heap.size X (X.alloc (.cells #[.int .i64 (I:Int),.slice H 512 M] 197)):=(Below.refl _ X).alloc (zH _) _
  have bE:=ownG_grow own aF
  have bR:InG (X.alloc (.cells #[.int .i64 (I:Int),.slice H 512 M] 197)) (X.alloc (.cells #[.int .i64 (I:Int),.slice H 512 M] 197)).heap.size 2 (some ⟨X.heap.size,0,none⟩) 1 1 (pwC (pwO (I,H,M))) :=
   ⟨zH _,by omega,(λe=>by cases e),rfl,(by intro v p;simp[pwC,pwO] at p;rcases p with rfl|rfl<;>rfl),λ_=>⟨X.heap.size,0,rfl,by simp,λj v hj=>by
    rw[(BlkIs.new X 197 #[.int .i64 (I:Int),.slice H 512 M]).cell,qC]
    simpa[pwC,pwO] using hj⟩⟩
  have cB:=E.b4
  have b8:W4.heap.size<=(X.alloc (.cells #[.int .i64 (I:Int),.slice H 512 M] 197)).heap.size:=by have:=aF.size;omega
  have b2:=ownG_ge bE
  have bU:=λ(v5:Value) (w5:World) o5 g5 bW=>E.next (x:=(I,H,M)) hb own hU ⟨y,e3,e4,e5,e6⟩ aF (v5:=v5) (w5:=w5) o5 g5 bW
  have b6:=hb.below aF hb.lt
  clear u e3 e4 e5 e6
  gi_wp2_with (gi_at_builtin;refine wpIn_appG2 rfl elPW (.tmp 19) (.tmp 23) rfl W4.heap.size (.slice Aw N.length cw) N.length (pwsC (N.map pwO)) rfl bE _ _ 1 1 (pwC (pwO (I,H,M))) rfl bR (by omega) (by unfold maxLen;omega) (by omega) b8 ?_;intro v5 w5 bI bP b7;obtain⟨A5,k5,rfl,_⟩:=ownG_in bI (λv p=>(qK.1 p).elim (pwsC_one _ v) (pwC_one _ v));have b5:=b6.grown bP (λe=>by have:=b2 _ e.symm;omega);have c5:=b5.boxed;have f5:=b5.free 0)
  exact bU _ _ bI bP b7
 case done =>
  rintro D ys U X hD a0 E hK
  obtain⟨L,hL⟩:∃L,L=dirtyL (rowsR V) P:=⟨_,rfl⟩
  have aV:ys.map (·.1)=L.map (·.1):=by rw[a0,hL,dirtyL_keys]
  have a3:∀x∈L,dirtyY V (x.1:Int)=some x.2:=λx hx=>by
   rw[hL] at hx
   exact rowsR_dirty.1 (dirtyL_mem.1 hx).2
  obtain⟨Aw,cw,aB,HA⟩:=E.args L aV a3
  have b9:L.length=1:=by rw[hL,a6];rfl
  rw[hL.trans a6] at HA
  rw[b9] at aB
  have aA:=E.up
  have hV:=h.below aA
  have bF:=bT.grow aA
  have bZ:=(zI.1 hK).1
  have cB:=E.b4
  have bL:=HF X.drew Aw cw _ (aA.trans ((Below.refl _ _).drew.mono aA.size)) (HA.grow (Below.refl _ _).drew |> λq=>⟨λg o e=>by have:=q.ge g o e;omega,q.row,q.bys,q.tys⟩)
  have cJ:=aA.size
  clear a0 E aV a3 hL bH bJ bM hq a4 a7 bK b4 aY HA
  have k1:=aB.boxed
  have Z:=aB.boxed
  have O:X.drew.cell? ⟨a,0,none⟩=some (.pointer (some ⟨f,0,none⟩)):=(hV.cb.cell 0).trans rfl
  have bA:=hV.below (Below.refl _ _).drew
  have aI:=bF.grow (Below.refl _ _).drew
  have aM:=aB.below (Below.refl _ _).drew aB.lt
  gi_wp2_with fail
  refine wpIn_wide.2 ?_
  refine wp_region_noPanic ?_
  refine RegF.start (λW:World=>W.cell? ⟨a,0,none⟩=some (.pointer (some ⟨f,0,none⟩))/\W.cell? ⟨w.heap.size,0,none⟩=some (.slice Aw 1 cw)) 99 (by kernel_rfl) ?_
  refine RegF.t0 0 (.pointer (some ⟨a,0,none⟩)) rfl ⟨O,Z⟩ (λW ⟨e0,u⟩=>by go_simp) ?_
  simp only[zE,zB,Act.put,zA,zG,zF]
  refine RegF.t0 1 (.pointer (some ⟨a,0,none⟩)) rfl ⟨O,Z⟩ (λW ⟨e0,u⟩=>by go_simp) ?_
  simp only[zE,zD,zB,Act.put,zA,zG,zF]
  refine RegF.t0 2 (.pointer (some ⟨a,0,none⟩)) rfl ⟨O,Z⟩ (λW ⟨e0,u⟩=>by go_simp) ?_
  simp only[zE,zD,zB,Act.put,zA,zG,zF]
  refine RegF.t0 3 (.pointer (some ⟨f,0,none⟩)) rfl ⟨O,Z⟩ (λW ⟨e0,u⟩=>by go_simp) ?_
  simp only[zE,zD,zB,Act.put,zA,zG,zF]
  refine RegF.t0 4 (.int .i64 z) rfl ⟨O,Z⟩ (λW ⟨e0,u⟩=>by go_simp) ?_
  simp only[zE,zD,zB,Act.put,zA,zG,zF]
  refine RegF.t0 5 (.slice Aw 1 cw) rfl ⟨O,Z⟩ (λW ⟨e0,u⟩=>by go_simp) ?_
  simp only[zE,zD,zB,Act.put,zA,zG,zF]
  refine RegF.one 6 (by kernel_rfl) ?_
  refine RegF.opC 119 #[.tmp 50,.tmp 51,.tmp 52] #[64,3,194] rfl rfl rfl (enters_of Tryz.func119 (by kernel_rfl) rfl) #[.pointer (some ⟨f,0,none⟩),.int .i64 z,.slice Aw 1 cw] (by simp only[zK,zL,zN];rfl) (bL.mono ?_)
  rintro e w9 ⟨rfl,aD⟩
  have T:=bA.turnDl aI aD
  have aZ:=aD.blk aM (aI.ne aM (by decide) (by decide))
  have aQ:=aZ.boxed
  have aS:w9.cell? ⟨a,0,none⟩=some (.pointer (some ⟨f,0,none⟩)):=(T.cb.cell 0).trans rfl
  have aT:X.drew.heap[D]? = some (.deferred (some [])):=hK
  have aL:=(aD.block D bZ (aI.notDf aT)).trans aT
  have a8:GrowBut (λk=>caMu a r V k∨(k=d∨k=l)) w w9:=(GrowBut.below (aA.trans ((Below.refl _ X).drew.mono aA.size))).trans (aD.more (λk e _ => .inr e))
  clear bA aM Z bL aI aT aD aZ O bF hV aB k1
  refine⟨_,rfl,λ_=>⟨aS,aQ⟩,?_⟩
  simp only[zE,zD,zB,Act.put,zA,zG,zF]
  refine RegF.one 7 (by kernel_rfl) (RegF.opV (w':=w9) (.int .i64 0) rfl rfl (by go_simp) ⟨λ_=>⟨aS,aQ⟩,RegF.done (by kernel_rfl) ?_⟩)
  simp only[zE,zD,zB,Act.put,zA,zG,zF]
  simp only[NoPanic]
  have cG:=a8.size
  have bS:=(zI.1 aL).1
  obtain⟨es,clock,aO,he,aW⟩:=T.mp
  have cC:w9.cell? ⟨a,3,none⟩=some (.map (some r)):=(T.cb.cell 3).trans rfl
  have bY:∀x∈es.toList,x.born<clock:=((MapKept.stamped_iff es clock).1 aW).1
  have aU:=aO.lt
  obtain⟨W10,aC⟩:∃W10,W10=w9.alloc (.mapIter (some r) clock #[] clock):=⟨_,rfl⟩
  have aH:Below w9.heap.size w9 W10:=by rw[aC];exact(Below.refl _ _).alloc (zH _) _
  have at0:CleanAt w9 w9.heap.size r clock es a f P room now hh mm V #[] (λ_=>false) W10:=⟨⟨clock,by rw[aC];exact heap_alloc_new w9 _,zH _⟩,SeenIs.start es,by rw[cleanTo_start];exact T.below aH,aO.below aH aU,GrowBut.below aH,by rw[aC];simp⟩
  have cA:=Lib.hid aC.symm
  clear aC aH aS aQ
  gi_wp2_with (refine wpV_exec rfl (x_range aO Tryz.underlying163 rfl rfl) ?_;rw[cA.out])
  simp only[Act.put,zA,zG,zF]
  gi_loopw [61] (λ_ wr=>∃aJ pd,CleanAt w9 w9.heap.size r clock es a f P room now hh mm V aJ pd wr) (λ_ wr=>wr.rangeLeft r w9.heap.size)
  case atStart=>exact⟨_,_,at0⟩
  case round =>
   obtain⟨aJ,pd,C⟩:=hrel
   rcases iterV 0 C.it C.mp he aW bY (zH _) aU C.sz C.sn with⟨hall,hrun⟩|⟨k,xv,b,w4,hk,hpk,hrun,hit4,hB4',hdec,hent,hsn4⟩
   ·have bN:=cleanTo_fin hall
    have a9:=C.ca
    rw[bN] at a9
    have aX:=C.gb
    have bG:wr.heap[D]? = some (.deferred (some [])):=(aX.block D bS (T.notDfL aL)).trans aL
    clear bN hall
    gi_wp2_with (refine wpV_exec rfl (x_next hrun rfl) ?_)
    refine⟨by simp,.inl ⟨D,_,rfl,run_takeDeferred bG,?_⟩⟩
    obtain⟨t1,t2⟩:=a9.takenL bG (.deferred none)
    have bQ:=((a8.more (Nu:=λk=>(caMu a r V k∨(k=d∨k=l))∨w.heap.size<=k) (λk e _ => .inl e)).trans (aX.more (λk e _ => .inl (.inl e)))).trans (t2.more (λk e _ => .inr (by omega)))
    exact⟨_,results_tmp rfl _ _ _,rfl,t1,bQ.more (λk e hk=>e.elim id (λe=>by omega))⟩
   ·obtain⟨v,p,rfl⟩:=ptrV_ptr hk
    have b1:=(T.rows k v p).blk.lt
    obtain⟨aR,bD⟩:=C.iter T hB4'
    obtain⟨a5,bC⟩:=C.next p hpk b1 aU hit4 hB4' (.inr trivial) hsn4 aR bD
    have aK:=aR.rows k v (cleanTo_not p hpk)
    have k24:w4.cell? ⟨v.b,2,none⟩=some (.bool v.d):=(aK.blk.cell 2).trans rfl
    have f24:=aK.blk.free 2
    have b3:(w4.setCell ⟨v.b,2,none⟩ (.bool false)).rangeLeft r w9.heap.size<wr.rangeLeft r w9.heap.size:=by rw[bC];exact hdec
    have bX:Hid (∃aJ pd,CleanAt w9 w9.heap.size r clock es a f P room now hh mm V aJ pd (w4.setCell ⟨v.b,2,none⟩ (.bool false))):=Lib.hid ⟨_,_,a5⟩
    clear aR bD a5 bC aK C
    gi_wp2_with (first
     | (refine wpV_exec rfl (x_next hrun rfl) ?_)
     | (refine wpV_exec rfl (x_entry hent rfl) ?_))
    go_roundw
    case rel=>exact bX.out
    case measure=>exact b3
 case stop =>
  rintro D c N U V _ _ h _
  exact h.elim
end
end Go.Proofs.YtpibjkbadnffgaaGreat
namespace Go.Proofs.YtpibjkbadnffgaaGreat
open Go Go.RowKit Lou
structure LogE (w:World)(l d many:Nat)(fr pg:Int)(sr ep:Nat)(sz:Int):Prop where
 dk:∃g,DkIs w d many g [] 0 false
 lg:BlkIs w l 183 (lgC (some ⟨d,0,none⟩) fr pg sr ep sz none 0 0)
section
variable {w w':World}{l d many:Nat}{fr pg:Int}{sr ep:Nat}{sz:Int}
theorem LogE.grow (h:LogE w l d many fr pg sr ep sz)(hB:Below w.heap.size w w'):LogE w' l d many fr pg sr ep sz:=by
 obtain⟨⟨g,h1⟩,h2⟩:=h
 exact⟨⟨g,h1.grow hB⟩,h2.below hB h2.lt⟩
theorem LogE.dl (h:LogE w l d many fr pg sr ep sz):DlB w d l:=by
 obtain⟨⟨g,h1⟩,h2⟩:=h
 obtain⟨r,A,n,c,j⟩:=DkIs.bk h1
 exact⟨⟨_,j,by show 5<=64;decide,λn e=>by cases e⟩,⟨_,h2,by show 7<=64;decide,λn e=>by cases e⟩⟩
theorem LogE.ne (h:LogE w l d many fr pg sr ep sz):l≠d:=by
 obtain⟨⟨g,h1⟩,h2⟩:=h
 obtain⟨r,A,n,c,e⟩:=DkIs.bk h1
 exact BlkIs.ne_type h2 e (by decide)
theorem lfcommit {f B:Nat}(M:BlkIs w f 114 (flFC l fr pg))(O:LogE w l d many fr pg sr ep sz)(H:Option Addr)(c:Nat)(xs:Nat->Int×Option Addr×Nat)(y:List UInt8)(Z:PwArgs w B H 1 xs (pwL [(0,y)]))(z:Int)(hz:0<=z/\z<=pg)(aJ:planOk fr pg=true)(aK:0<pg)(aF:headOk sz 1=true)(aN:11<=many)(aH:many<=1000000)(aI:sr+1<18446744073709551616) :
  Calls Tryz.prog 119 #[.pointer (some ⟨f,0,none⟩),.int .i64 z,.slice H 1 c] w λe w'=>e = .returned (.int .i64 0)/\GrowBut (λk=>k=d∨k=l) w w':=by
 obtain⟨W3,C⟩:∃W3,W3=((w.alloc (.cells #[.pointer (some ⟨f,0,none⟩)] 64)).alloc (.cells #[.int .i64 z] 3)).alloc (.cells #[.slice H 1 c] 194):=⟨_,rfl⟩
 have T:Below w.heap.size w W3:=by rw[C];exact(((Below.refl _ w).alloc (zH _) _).alloc (by simp) _).alloc (by simp;omega) _
 have I:BlkIs W3 w.heap.size 64 #[.pointer (some ⟨f,0,none⟩)]:=by rw[C];exact((BlkIs.new w _ _).alloc _).alloc _
 have X:BlkIs W3 (w.heap.size+1) 3 #[.int .i64 z]:=by
  have:=BlkIs.new (w.alloc (.cells #[.pointer (some ⟨f,0,none⟩)] 64)) 3 #[.int .i64 z]
  rw[World.size_alloc] at this
  rw[C]
  exact this.alloc _
 have N:BlkIs W3 (w.heap.size+1+1) 194 #[.slice H 1 c]:=by
  have:=BlkIs.new ((w.alloc (.cells #[.pointer (some ⟨f,0,none⟩)] 64)).alloc (.cells #[.int .i64 z] 3)) 194 #[.slice H 1 c]
  rw[World.size_alloc,World.size_alloc] at this
  rw[C]
  exact this
 have L:=M.below T M.lt
 have c0:W3.cell? ⟨w.heap.size,0,none⟩=some (.pointer (some ⟨f,0,none⟩)):=I.boxed
 have HN:=fnone_gives L
 have aA:Below W3.heap.size W3 W3.drew:=(Below.refl _ _).drew
 have E:Below w.heap.size w W3.drew:=T.trans (aA.mono T.size)
 obtain⟨g,o,rfl,hx,aG⟩:=Z.row (zH 1)
 obtain⟨e0,e1,e2⟩:=Z.bys 0 (by decide)
 have U:=hx 0 (by decide)
 rw[Nat.zero_mul,Nat.add_zero,<-e0] at U
 obtain⟨⟨gd,hD⟩,aC⟩:=O.grow E
 have aB:=append_one W3.drew l d many gd [] 0 fr pg sr ep sz hD (by decide) (by decide) (by decide) aC O.ne g o c (0:Int) (xs 0).2.1 (xs 0).2.2 y (by have:=E.size;omega) (λj v hj=>(E.cell (p:=⟨g,o+j,none⟩) aG).trans (U j v hj)) ((e2.below E).more E.size) e1 aJ (by decide) aK z hz.1 hz.2 aF aN aH aI
 have T0:∀W,Below W3.heap.size W3 W->W.cell? ⟨w.heap.size,0,none⟩=some (.pointer (some ⟨f,0,none⟩)):=λW u=>(I.below u I.lt).boxed
 have T1:∀W,Below W3.heap.size W3 W->W.cell? ⟨w.heap.size+1,0,none⟩=some (.int .i64 z):=λW u=>(X.below u X.lt).boxed
 have T2:∀W,Below W3.heap.size W3 W->W.cell? ⟨w.heap.size+1+1,0,none⟩=some (.slice (some ⟨g,o,none⟩) 1 c):=λW u=>(N.below u N.lt).boxed
 have TF:∀W,Below W3.heap.size W3 W->W.cell? ⟨f,0,none⟩=some (.pointer (some ⟨l,0,none⟩)):=λW u=>by rw[(L.below u L.lt).cell];rfl
 go_enter Tryz.func119,Tryz.ntmps119
 rw[C] at c0
 have aL:=Lib.hid C
 clear C
 go_wp2_with (go_at_call 112;rw[<-aL.out];refine HN.mono ?_;rintro e w' ⟨rfl,rfl⟩)
 have A:Below W3.heap.size W3 W3.drew:=aA
 refine RegM.start (λW=>Below W3.heap.size W3 W) [6,7] (by kernel_rfl) ?_
 refine RegM.take1 0 (.pointer (some ⟨f,0,none⟩)) rfl (by kernel_rfl) (by kernel_rfl) (by kernel_rfl) (by kernel_rfl) (by kernel_rfl) rfl (λ_ _ _ h=>h) A (RegF.yld rfl (λW u=>by have q:=T0 W u;go_simp)) ?_
 simp only[zE,zB,Act.put,zA,zG,zF]
 refine RegM.take1 1 (.pointer (some ⟨f,0,none⟩)) rfl (by kernel_rfl) (by kernel_rfl) (by kernel_rfl) (by kernel_rfl) (by kernel_rfl) rfl (λ_ _ _ h=>h) A (RegF.yld rfl (λW u=>by go_simp)) ?_
 simp only[zE,zD,zB,Act.put,zA,zG,zF]
 refine RegM.take1 2 (.pointer (some ⟨f,0,none⟩)) rfl (by kernel_rfl) (by kernel_rfl) (by kernel_rfl) (by kernel_rfl) (by kernel_rfl) rfl (λ_ _ _ h=>h) A (RegF.yld rfl (λW u=>by go_simp)) ?_
 simp only[zE,zD,zB,Act.put,zA,zG,zF]
 refine RegM.take1 3 (.pointer (some ⟨l,0,none⟩)) rfl (by kernel_rfl) (by kernel_rfl) (by kernel_rfl) (by kernel_rfl) (by kernel_rfl) rfl (λ_ _ _ h=>h) A (RegF.yld rfl (λW u=>by have q:=TF W u;go_simp)) ?_
 simp only[zE,zD,zB,Act.put,zA,zG,zF]
 refine RegM.take1 4 (.int .i64 z) rfl (by kernel_rfl) (by kernel_rfl) (by kernel_rfl) (by kernel_rfl) (by kernel_rfl) rfl (λ_ _ _ h=>h) A (RegF.yld rfl (λW u=>by have q:=T1 W u;go_simp)) ?_
 simp only[zE,zD,zB,Act.put,zA,zG,zF]
 refine RegM.take1 5 (.slice (some ⟨g,o,none⟩) 1 c) rfl (by kernel_rfl) (by kernel_rfl) (by kernel_rfl) (by kernel_rfl) (by kernel_rfl) rfl (λ_ _ _ h=>h) A (RegF.yld rfl (λW u=>by have q:=T2 W u;go_simp)) ?_
 simp only[zE,zD,zB,Act.put,zA,zG,zF]
 refine RegM.one 6 (by kernel_rfl) ?_
 refine RegF.opC 186 #[.tmp 13,.tmp 14,.tmp 15] #[110,3,194] rfl rfl rfl (enters_of Tryz.func186 (by kernel_rfl) rfl) #[.pointer (some ⟨l,0,none⟩),.int .i64 z,.slice (some ⟨g,o,none⟩) 1 c] (by simp only[zK,zL,zN];rfl) (aB.mono ?_)
 rintro e w4 ⟨rfl,_,_,aD⟩
 refine⟨_,rfl,λh=>(by cases h),?_⟩
 simp only[zE,zD,zB,Act.put,zA,zG,zF]
 refine RegM.one 7 (by kernel_rfl) (RegF.opV (w':=w4) (.int .i64 0) rfl rfl (by go_simp) ⟨λh=>(by cases h),RegM.done (by kernel_rfl) ?_⟩)
 simp only[zE,zD,zB,Act.put,zA,zG,zF]
 have aM:GrowBut (λk=>k=d∨k=l) w w4:=(GrowBut.below E).trans aD
 clear M O Z L I X N aB HN c0 hx U hD aC e2 T0 T1 T2 TF aD A
 go_wp2_with fail
 go_quiet (fail)
 go_wp2
 go_ret
 have aE:Below w4.heap.size w4 (w4.drewN nq):=⟨rfl,rfl,rfl,zH _,λ_ _=>rfl⟩
 exact⟨rfl,aM.trans (GrowBut.below aE)⟩
end
def dirF (R:RowsC)(p:Int):Option (List UInt8):=match R p with|some (b,true)=>some b|_=>none
theorem dirF_some {R:RowsC}{p:Int}{b:List UInt8}:dirF R p=some b↔R p=some (b,true):=by
 unfold dirF
 cases h:R p with
 | none=>simp
 | some x =>
  obtain⟨y,d⟩:=x
  cases d<;>simp
theorem dirF_put (R:RowsC)(p:Int)(y:List UInt8):dirF (rowsPut R p (y,true))=λj=>if j=p then some y else dirF R j:=by
 funext j
 unfold dirF rowsPut
 by_cases e:j=p<;>simp[e]
theorem dirF_none {R:RowsC}(h:∀p b,¬ R p=some (b,true)):dirF R=λ_=>none:=by
 funext p
 cases e:dirF R p with
 | none=>rfl
 | some b=>exact absurd (dirF_some.1 e) (h p b)
theorem viewC_dirF (Y:Nat->List UInt8)(R:RowsC)(p:Nat):viewC Y R p=(dirF R (p:Int)).getD (Y p):=by
 unfold viewC dirF
 split<;>simp_all
structure PgK where
 d:Nat
 f:Nat
 l:Nat
 a:Nat
 r:Nat
 many:Nat
 P:Nat
 fr:Int
 pg:Int
 room:Int
structure SzL where
 sz:Int
structure PgV where
 G:Nat->List UInt8
 S:SzL
 c:CaSt
 i:Nat
 N:Nat
structure PgK.Ok (K:PgK):Prop where
 hP:(K.P:Int)=K.pg
 P2:K.P<=900
 rm:2<=K.room/\K.room<=2000
 rp:(K.P:Int)<=K.room
def PgV.Y (_:PgK)(v:PgV):Nat->List UInt8:=v.G
def PgV.R (v:PgV):RowsC:=rowsR v.c.V
def PgV.view (K:PgK)(v:PgV)(p:Nat):List UInt8:=viewC (v.Y K) v.R p
def PgV.D (v:PgV):Int->Option (List UInt8):=dirF v.R
theorem PgV.view_eq (K:PgK)(v:PgV)(p:Nat):v.view K p=(v.D (p:Int)).getD (v.Y K p):=viewC_dirF _ _ _
def PgK.mu (K:PgK)(v:PgV)(k:Nat):Prop:=caMu K.a K.r v.c.V k
structure FhL (W0:World)(f l:Nat)(fr pg:Int)(W:World):Prop where
 up:Below W0.heap.size W0 W
 fb:BlkIs W f 114 (flFC l fr pg)
structure CsL (W0:World)(K:PgK)(c:CaSt)(W:World):Prop where
 fh:FhL W0 K.f K.l K.fr K.pg W
 ca:CaIs W K.a K.f K.r K.P K.room c.now c.hh c.mm c.V
 nb:∀k,caMu K.a K.r c.V k->W0.heap.size<=k
structure CaAt (W0:World)(K:PgK)(v:PgV)(W:World):Prop where
 cs:CsL W0 K v.c W
 ok:v.c.Ok v.N
 ro:RowsOk K.P (v.Y K) v.R
 cn:(cntR K.P v.c.V:Int)<=K.room
def Names (K:PgK)(W:World)(v v':PgV):Prop:=∀k,K.mu v' k->K.mu v k∨W.heap.size<=k
theorem cntR_free {P:Nat}{V:RowsV}{k:Int}(j:0<=k/\k<(P:Int))(g:V k=none):cntR P V+1<=P:=by
 have:=nodup_len (l:=k.toNat::keysV (ptrV V) P) (m:=List.range P) (List.nodup_cons.2 ⟨(λh=>by
  rw[keysV_row,show ((k.toNat:Nat):Int)=k by omega,g] at h
  exact absurd h.2 (by simp)),keysV_nodup _ _⟩) (λx e=>by
  rw[List.mem_cons,keysV_row] at e
  rw[List.mem_range]
  rcases e with rfl|e
  ·omega
  ·exact e.1)
 simpa[cntR] using this
section
variable {W0 W W':World}{K:PgK}{v v':PgV}
theorem CsL.grow {c:CaSt}(h:CsL W0 K c W)(hB:Below W.heap.size W W'):CsL W0 K c W':=⟨⟨h.fh.up.trans (hB.mono h.fh.up.size),h.fh.fb.below hB h.fh.fb.lt⟩,h.ca.below hB,h.nb⟩
theorem CsL.nf {c:CaSt}(h:CsL W0 K c W):¬ caMu K.a K.r c.V K.f:=h.ca.notTy h.fh.fb (by decide) (by decide)
theorem CsL.turn {c c':CaSt}(h:CsL W0 K c W)(g:GrowBut (caMu K.a K.r c.V) W W')(j:CaIs W' K.a K.f K.r K.P K.room c'.now c'.hh c'.mm c'.V)(p:∀k,caMu K.a K.r c'.V k->caMu K.a K.r c.V k∨W.heap.size<=k):CsL W0 K c' W' :=
 ⟨⟨h.fh.up.trans (g.toBelow h.fh.up.size h.nb),g.blk h.fh.fb h.nf⟩,j,λk q=>(p k q).elim (h.nb k) (λe=>zU h.fh.up.size e)⟩
theorem CaAt.grow (h:CaAt W0 K v W)(hB:Below W.heap.size W W'):CaAt W0 K v W':=⟨CsL.grow h.cs hB,h.ok,h.ro,h.cn⟩
theorem CaAt.keep {Mu:Nat->Prop}(h:CaAt W0 K v W)(g:GrowBut Mu W W')(p:∀k,Mu k->SmBlk W k)(q:∀k,Mu k->W0.heap.size<=k)(hn:∀k,Mu k->¬ K.mu v k/\k≠K.f):CaAt W0 K v W' :=
 ⟨⟨⟨h.cs.fh.up.trans (g.toBelow h.cs.fh.up.size q),g.blk h.cs.fh.fb (λe=>(hn _ e).2 rfl)⟩,h.cs.ca.keep g (λk j=>(p k j).ca) (λk j=>(hn k j).1),h.cs.nb⟩,h.ok,h.ro,h.cn⟩
theorem CaAt.n9 (h:CaAt W0 K v W)(e:v.N<=900000):v.c.Ok 900000:=h.ok.more e
theorem gread (h:CaAt W0 K v W)(C:K.Ok)(hN:v.N<=800000)(page:Int)(y:List UInt8)(H:v.D page=some y) :
  Calls Tryz.prog 65 #[.pointer (some ⟨K.a,0,none⟩),.int .i64 page] W λe w'=>∃v',RdE (.inr y) e w'/\y.length=512/\(0<=page/\page<(K.P:Int))/\CaAt W0 K v' w'/\v'.N=v.N+1/\v'.i=v.i/\v'.Y K=v.Y K/\v'.S.sz=v.S.sz/\v'.D=v.D/\Names K W v v'/\GrowBut (K.mu v) W w':=by
 have aB:=C.P2
 have p:=h.ok
 have g:=dirF_some.1 H
 obtain⟨u,hu,rfl,U⟩:∃u,v.c.V page=some u/\u.y=y/\u.d=true:=by
  unfold PgV.R rowsR at g
  cases B:v.c.V page with
  | none=>rw[B] at g;cases g
  | some u =>
   rw[B,Option.map_some] at g
   injection g with g
   injection g with h1 h2
   exact⟨u,rfl,h1,h2⟩
 have M:=(h.ro page u.y u.d (rowsR_some hu)).2.1
 have I:=(h.ro page u.y u.d (rowsR_some hu)).1
 have X:=p.now
 have aC:=p.hh
 refine(creadL_hit W K.a K.f K.r K.P K.room v.c.now v.c.hh v.c.mm v.c.V h.cs.ca (by omega) ⟨by omega,by omega⟩ C.rm.1 ⟨by omega,by omega⟩ page u hu).mono ?_
 rintro e w' ⟨A,c,rfl,L,T,O,E⟩
 have hs:rowsR (updV v.c.V page (some { u with at_:=v.c.now+1 }))=rowsR v.c.V:=by
  rw[rowsR_upd]
  funext j
  unfold rowsPut
  split
  ·next e=>rw[e];exact(rowsR_some hu).symm
  ·rfl
 have aA:=cntR_same (P:=K.P) (v:={ u with at_:=v.c.now+1 }) hu
 have Z:=h.cn
 have q:∀k,caMu K.a K.r (updV v.c.V page (some { u with at_:=v.c.now+1 })) k->caMu K.a K.r v.c.V k∨W.heap.size<=k:=caMu_upd (λk u h=>h) rfl (.inl ⟨u,hu,rfl⟩)
 refine⟨⟨v.G,v.S,⟨v.c.now+1,v.c.hh+1,v.c.mm,updV v.c.V page (some { u with at_:=v.c.now+1 })⟩,v.i,v.N+1⟩,⟨A,c,rfl,L,T⟩,M,I,⟨h.cs.turn (c':=⟨v.c.now+1,v.c.hh+1,v.c.mm,updV v.c.V page (some { u with at_:=v.c.now+1 })⟩) E O q,⟨⟨by show 0<=v.c.now+1;omega,by show v.c.now+1<=((v.N+1:Nat):Int);omega⟩,⟨by show 0<=v.c.hh+1;omega,by show v.c.hh+1<=((v.N+1:Nat):Int);omega⟩,⟨p.mm.1,by have:=p.mm.2;show v.c.mm<=((v.N+1:Nat):Int);omega⟩⟩,?_,by show (cntR K.P (updV v.c.V page (some { u with at_:=v.c.now+1 })):Int)<=K.room;omega⟩,rfl,rfl,rfl,rfl,?_,q,E⟩
 ·show RowsOk K.P v.G (rowsR (updV v.c.V page (some { u with at_:=v.c.now+1 })))
  rw[hs]
  exact h.ro
 ·show dirF (rowsR (updV v.c.V page (some { u with at_:=v.c.now+1 })))=dirF (rowsR v.c.V)
  rw[hs]
theorem gwrite (h:CaAt W0 K v W)(q:K.Ok)(X:v.N<=800000)(page:Int)(A:Option Addr)(k:Nat)(y:List UInt8)(B:y.length=512)(L:InB W W.heap.size A k y) :
  Calls Tryz.prog 62 #[.pointer (some ⟨K.a,0,none⟩),.int .i64 page,.slice A 512 k] W λe w'=>∃x v',e = .returned (.int .i64 x)/\CaAt W0 K v' w'/\v'.N=v.N+1/\v'.i=v.i/\v'.Y K=v.Y K/\v'.S.sz=v.S.sz/\((x=0/\(0<=page/\page<(K.P:Int))/\v'.D=λj=>if j=page then some y else v.D j)∨((x=4/\(page<0∨(K.P:Int)<=page)∨x=160/\NoRoom K.P K.room v.c.V)/\v'.D=v.D))/\Names K W v v'/\GrowBut (K.mu v) W w':=by
 have aA:=q.P2
 have hP:=q.hP
 have Z:=q.rp
 have p:=h.ok
 have U:=p.now
 by_cases I:page<0∨K.pg<=page
 ·refine(cwrite_range W K.a K.f K.l K.r K.fr K.pg K.room v.c.now v.c.hh v.c.mm h.cs.ca.cb h.cs.fh.fb page A k I).mono ?_
  rintro e w' ⟨rfl,hB⟩
  exact⟨4,⟨v.G,v.S,v.c,v.i,v.N+1⟩,rfl,⟨h.cs.grow hB,p.more (Nat.le_succ _),h.ro,h.cn⟩,rfl,rfl,rfl,rfl,.inr ⟨.inl ⟨rfl,by omega⟩,rfl⟩,λk T => .inl T,GrowBut.below hB⟩
 ·refine(cwriteL_gives W K.a K.f K.l K.r K.P K.fr K.pg K.room v.c.now v.c.hh v.c.mm v.c.V h.cs.ca h.cs.fh.fb (by omega) hP ⟨by omega,by omega⟩ q.rm.1 page (by omega) A k y B L (λe=>by have:=cntR_free (P:=K.P) (k:=page) ⟨by omega,by omega⟩ e;show (cntR K.P v.c.V:Int)<K.room;omega)).mono ?_
  rintro e w' ⟨b,g,c1,E,rfl,O,H⟩
  have C:∀k,caMu K.a K.r (updV v.c.V page (some ⟨b,v.c.now+1,g,c1,y,true⟩)) k->caMu K.a K.r v.c.V k∨W.heap.size<=k:=by
   rcases E with⟨u,hu,hb⟩|⟨_,hb⟩
   ·exact caMu_upd (λk u h=>h) rfl (.inl ⟨u,hu,hb⟩)
   ·exact caMu_upd (λk u h=>h) rfl (.inr hb)
  have M:(cntR K.P (updV v.c.V page (some ⟨b,v.c.now+1,g,c1,y,true⟩)):Int)<=K.room:=by
   have h0:=h.cn
   rcases E with⟨u,hu,_⟩|⟨hu,_⟩
   ·have:=cntR_same (P:=K.P) (v:=⟨b,v.c.now+1,g,c1,y,true⟩) hu
    omega
   ·have h1:=cntR_free (P:=K.P) (k:=page) ⟨by omega,by omega⟩ hu
    have h2:=cntR_put K.P v.c.V page ⟨b,v.c.now+1,g,c1,y,true⟩
    omega
  refine⟨0,⟨v.G,v.S,⟨v.c.now+1,v.c.hh,v.c.mm,updV v.c.V page (some ⟨b,v.c.now+1,g,c1,y,true⟩)⟩,v.i,v.N+1⟩,rfl,⟨h.cs.turn (c':=⟨v.c.now+1,v.c.hh,v.c.mm,updV v.c.V page (some ⟨b,v.c.now+1,g,c1,y,true⟩)⟩) H O C,⟨⟨by show 0<=v.c.now+1;omega,by show v.c.now+1<=((v.N+1:Nat):Int);omega⟩,⟨p.hh.1,by have:=p.hh.2;show v.c.hh<=((v.N+1:Nat):Int);omega⟩,⟨p.mm.1,by have:=p.mm.2;show v.c.mm<=((v.N+1:Nat):Int);omega⟩⟩,?_,M⟩,rfl,rfl,rfl,rfl,.inl ⟨rfl,by omega,?_⟩,C,H⟩
  ·show RowsOk K.P v.G (rowsR (updV v.c.V page (some ⟨b,v.c.now+1,g,c1,y,true⟩)))
   rw[rowsR_upd]
   exact RowsOk.put h.ro (by omega) B (λe=>by cases e)
  ·show dirF (rowsR (updV v.c.V page (some ⟨b,v.c.now+1,g,c1,y,true⟩)))=_
   rw[rowsR_upd]
   exact dirF_put _ _ _
theorem gdrop (h:CaAt W0 K v W) :
  Calls Tryz.prog 57 #[.pointer (some ⟨K.a,0,none⟩)] W λe w'=>∃v',e = .returned (.int .i64 0)/\CaAt W0 K v' w'/\v'.N=v.N/\v'.i=v.i/\v'.Y K=v.Y K/\v'.S.sz=v.S.sz/\(v'.D=λ_=>none)/\Names K W v v'/\GrowBut (K.mu v) W w':=by
 refine(cdrop_gives h.cs.ca).mono ?_
 rintro e w' ⟨rfl,A,q⟩
 have key:∀p b d,rowsR (dropV v.c.V) p=some (b,d)->rowsR v.c.V p=some (b,d)/\d=false:=λp b d h=>by
  unfold rowsR at h
  cases g:dropV v.c.V p with
  | none=>rw[g] at h;cases h
  | some u =>
   obtain⟨h1,h2⟩:=dropV_of g
   rw[g,Option.map_some] at h
   injection h with h
   injection h with h3 h4
   subst h3 h4
   exact⟨rowsR_some h1,h2⟩
 have B:=cntR_drop (P:=K.P) (V:=v.c.V)
 have h1:=h.cn
 exact⟨⟨v.G,v.S,⟨v.c.now,v.c.hh,v.c.mm,dropV v.c.V⟩,v.i,v.N⟩,rfl,⟨h.cs.turn (c':=⟨v.c.now,v.c.hh,v.c.mm,dropV v.c.V⟩) q A (λk j => .inl (dropV_sub k j)),⟨h.ok.now,h.ok.hh,h.ok.mm⟩,λp b d e=>h.ro p b d (key p b d e).1,by show (cntR K.P (dropV v.c.V):Int)<=K.room;omega⟩,rfl,rfl,rfl,rfl,dirF_none (λp b e=>by have:=(key p b true e).2;cases this),λk j => .inl (dropV_sub k j),q⟩
end
section
variable {ρ:Operand->Value}{w:World}{o:Oper}{x y z m:Operand}
theorem x_cut4 {g p n c a:Nat}(j:o.op = .slice 87 x (some y) (some z) (some m))(h1:ρ x = .slice (some ⟨g,p,none⟩) n c)(h2:ρ y = .int .i64 (a:Int))(u:ρ z = .int .i64 ((a:Int)+4))(k:ρ m = .int .i64 ((a:Int)+4))(H:a+4<=n)(hn:n<=c) :
  (execOp ρ o).run Tryz.prog w = .ok (.value (.slice (some ⟨g,p+a,none⟩) 4 4)) w:=by
 have ht:Tryz.prog.underlying 87=some (.slice (Tryz.prog.elem 87)):=by kernel_rfl
 have h:(⟨g,p,none⟩:Addr).add a=⟨g,p+a,none⟩:=by cases a<;>simp[Addr.add]
 have B:ρ z = .int .i64 ((a+4:Nat):Int):=by rw[u];simp
 have A:ρ m = .int .i64 ((a+4:Nat):Int):=by rw[k];simp
 generalize L:a+4=b at *
 have E:a<=b:=by omega
 have C:b - a=4:=by omega
 have I:b<=c:=by omega
 have q:(b:Int)<=(c:Int):=by omega
 have M:¬ c=a:=by omega
 have e:¬ b=a:=by omega
 simp[execOp,j,h1,h2,B,A,go_sem,run_sliceAt_slice _ _ _ _ _ _ ht,Result.andThen,E,q,C,e,h]
end
theorem pnumber_gives (w:World)(A:Option Addr)(c a:Nat)(y:List UInt8)(h:InB w w.heap.size A c y)(C:y.length=512)(ha:a+4<=512) :
  Calls Tryz.prog 66 #[.slice A 512 c,.int .i64 (a:Int)] w λe w'=>e = .returned (.int .i64 (rfix ((y.drop a).take 4):Int))/\Below w.heap.size w w':=by
 obtain⟨g,o,rfl,u,hc⟩:=h.lies (by omega)
 have E:=h.le
 have k:InB w w.heap.size (some ⟨g,o+a,none⟩) 4 ((y.drop a).take 4):=by
  have hl:((y.drop a).take 4).length=4:=by simp;omega
  refine⟨by omega,by omega,(λe=>by cases e),λ_=>⟨g,o+a,rfl,u,λj B => ?_⟩⟩
  have:=hc (a+j) (by omega)
  rw[Nat.add_assoc,this]
  simp
 have p:((y.drop a).take 4).length=4:=by simp;omega
 have H:=readFour_gives w _ _ _ k
 rw[p] at H
 unfold fixV32 at H
 rw[if_neg (by omega)] at H
 have q:((y.drop a).take 4).take 4=(y.drop a).take 4:=by rw[List.take_take];simp
 rw[q] at H
 have L:rfix ((y.drop a).take 4)<4294967296:=rfix_take4 _
 generalize rfix ((y.drop a).take 4)=R at *
 have I:IntKind.i64.wrap ((a:Int)+4)=(a:Int)+4:=wrap_i64_fr _ (by omega) (by omega)
 have M:IntKind.i64.wrap (R:Int)=(R:Int):=wrap_i64_fr _ (by omega) (by omega)
 clear k h hc
 go_enter Tryz.func66,Tryz.ntmps66
 go_wp2_with (first
  | (refine wp_exec rfl (x_cut4 (a:=a) rfl rfl rfl rfl rfl (by omega) (by omega)) ?_)
  | (go_at_call 88;refine H.mono ?_;rintro e w' ⟨rfl,hB⟩))
 go_ret
 exact⟨rfl,hB⟩
theorem pasked1_gives {w:World}{q A p:Nat}{b u:Bool}(B:w.cell? ⟨q,0,none⟩=some (.pointer (some ⟨p,0,none⟩)))(h1:w.cell? ⟨A,0,none⟩=some (.bool u))(h2:w.cell? ⟨p,39,none⟩=some (.bool b)):Calls Tryz.prog 100 #[.pointer (some ⟨q,0,none⟩),.pointer (some ⟨A,0,none⟩)] w λe w'=>e = .returned (.bool (b != u))/\Below w.heap.size w w':=by
 have g:w.drew.cell? ⟨q,0,none⟩=some (.pointer (some ⟨p,0,none⟩))/\w.drew.cell? ⟨A,0,none⟩=some (.bool u)/\w.drew.cell? ⟨p,39,none⟩=some (.bool b):=⟨B,h1,h2⟩
 go_enter Tryz.func100,Tryz.ntmps100
 go_wp2_with fail
 refine RegF.start (λW:World=>W.cell? ⟨q,0,none⟩=some (.pointer (some ⟨p,0,none⟩))/\W.cell? ⟨A,0,none⟩=some (.bool u)/\W.cell? ⟨p,39,none⟩=some (.bool b)) 99 (by kernel_rfl) ?_
 refine RegF.t0 0 (.pointer (some ⟨p,0,none⟩)) rfl g (λW ⟨h,j,k⟩=>by go_simp) ?_
 simp only[zE,zB,Act.put,zA,zG,zF]
 refine RegF.t0 1 (.pointer (some ⟨p,0,none⟩)) rfl g (λW ⟨h,j,k⟩=>by go_simp) ?_
 simp only[zE,zD,zB,Act.put,zA,zG,zF]
 refine RegF.t0 2 (.pointer (some ⟨p,39,none⟩)) rfl g (λW ⟨h,j,k⟩=>by go_simp) ?_
 simp only[zE,zD,zB,Act.put,zA,zG,zF]
 refine RegF.t0 3 (.bool b) rfl g (λW ⟨h,j,k⟩=>by go_simp) ?_
 simp only[zE,zD,zB,Act.put,zA,zG,zF]
 refine RegF.t0 4 (.bool u) rfl g (λW ⟨h,j,k⟩=>by go_simp) ?_
 simp only[zE,zD,zB,Act.put,zA,zG,zF]
 refine RegF.t0 5 (.bool (b != u)) rfl g (λW ⟨h,j,k⟩=>by go_simp;cases b<;>cases u<;>rfl) ?_
 simp only[zE,zD,zB,Act.put,zA,zG,zF]
 refine RegF.one 6 (by kernel_rfl) (RegF.opV (w':=w.drew) (.bool (b != u)) rfl rfl (by go_simp) ⟨λ_=>g,RegF.done (by kernel_rfl) ?_⟩)
 simp only[zE,zD,zB,Act.put,zA,zG,zF]
 clear g
 go_wp2
 go_ret
 exact⟨rfl,(Below.refl _ _).drew⟩
theorem pthere1_gives {w:World}{C H E p:Nat}{n B size:Int}(L:w.cell? ⟨C,0,none⟩=some (.int .i64 n))(h1:w.cell? ⟨H,0,none⟩=some (.int .i64 B))(h2:w.cell? ⟨E,0,none⟩=some (.pointer (some ⟨p,0,none⟩)))(I:w.cell? ⟨p,0,none⟩=some (.int .i64 size)):Calls Tryz.prog 138 #[.pointer (some ⟨C,0,none⟩),.pointer (some ⟨H,0,none⟩),.pointer (some ⟨E,0,none⟩)] w λe w'=>e = .returned (.bool (decide (n<B∨size<=n)))/\Below w.heap.size w w':=by
 have g:w.drew.cell? ⟨C,0,none⟩=some (.int .i64 n)/\w.drew.cell? ⟨H,0,none⟩=some (.int .i64 B)/\w.drew.cell? ⟨E,0,none⟩=some (.pointer (some ⟨p,0,none⟩))/\w.drew.cell? ⟨p,0,none⟩=some (.int .i64 size):=⟨L,h1,h2,I⟩
 by_cases hl:n<B
 ·have hd:decide (n<B∨size<=n)=true:=by simp[hl]
  rw[hd]
  go_enter Tryz.func138,Tryz.ntmps138
  go_wp2_with fail
  refine RegF.start (λW:World=>W.cell? ⟨C,0,none⟩=some (.int .i64 n)/\W.cell? ⟨H,0,none⟩=some (.int .i64 B)/\W.cell? ⟨E,0,none⟩=some (.pointer (some ⟨p,0,none⟩))/\W.cell? ⟨p,0,none⟩=some (.int .i64 size)) 99 (by kernel_rfl) ?_
  refine RegF.t0 0 (.int .i64 n) rfl g (λW ⟨k,q,u,j⟩=>by go_simp) ?_
  simp only[zE,zB,Act.put,zA,zG,zF]
  refine RegF.t0 1 (.int .i64 B) rfl g (λW ⟨k,q,u,j⟩=>by go_simp) ?_
  simp only[zE,zD,zB,Act.put,zA,zG,zF]
  refine RegF.t0 2 (.bool true) rfl g (λW ⟨k,q,u,j⟩=>by go_simp) ?_
  simp only[zE,zD,zB,Act.put,zA,zG,zF]
  refine RegF.t0 3 (.bool true) rfl g (λW ⟨k,q,u,j⟩=>by go_simp) ?_
  simp only[zE,zD,zB,Act.put,zA,zG,zF]
  refine RegF.take0 4 undef rfl (by kernel_rfl) (by kernel_rfl) (by kernel_rfl) rfl (λ_ _ _ h=>h) g (.inr ⟨by rfl,rfl⟩) ?_
  simp only[zE,zD,zB,Act.put,zA,zG,zF]
  refine RegF.take0 5 undef rfl (by kernel_rfl) (by kernel_rfl) (by kernel_rfl) rfl (λ_ _ _ h=>h) g (.inr ⟨by rfl,rfl⟩) ?_
  simp only[zE,zD,zB,Act.put,zA,zG,zF]
  refine RegF.take0 6 undef rfl (by kernel_rfl) (by kernel_rfl) (by kernel_rfl) rfl (λ_ _ _ h=>h) g (.inr ⟨by rfl,rfl⟩) ?_
  simp only[zE,zD,zB,Act.put,zA,zG,zF]
  refine RegF.take0 7 undef rfl (by kernel_rfl) (by kernel_rfl) (by kernel_rfl) rfl (λ_ _ _ h=>h) g (.inr ⟨by rfl,rfl⟩) ?_
  simp only[zE,zD,zB,Act.put,zA,zG,zF]
  refine RegF.take0 8 undef rfl (by kernel_rfl) (by kernel_rfl) (by kernel_rfl) rfl (λ_ _ _ h=>h) g (.inr ⟨by rfl,rfl⟩) ?_
  simp only[zE,zD,zB,Act.put,zA,zG,zF]
  refine RegF.take0 9 undef rfl (by kernel_rfl) (by kernel_rfl) (by kernel_rfl) rfl (λ_ _ _ h=>h) g (.inr ⟨by rfl,rfl⟩) ?_
  simp only[zE,zD,zB,Act.put,zA,zG,zF]
  refine RegF.take0 10 undef rfl (by kernel_rfl) (by kernel_rfl) (by kernel_rfl) rfl (λ_ _ _ h=>h) g (.inr ⟨by rfl,rfl⟩) ?_
  simp only[zE,zD,zB,Act.put,zA,zG,zF]
  refine RegF.t0 11 (.bool true) rfl g (λW ⟨k,q,u,j⟩=>by go_simp) ?_
  simp only[zE,zD,zB,Act.put,zA,zG,zF]
  refine RegF.one 12 (by kernel_rfl) (RegF.opV (w':=w.drew) (.bool true) rfl rfl (by go_simp) ⟨λ_=>g,RegF.done (by kernel_rfl) ?_⟩)
  simp only[zE,zD,zB,Act.put,zA,zG,zF]
  clear g
  go_wp2
  go_ret
  exact⟨rfl,(Below.refl _ _).drew⟩
 ·have hd:decide (n<B∨size<=n)=decide (size<=n):=by simp[hl]
  rw[hd]
  go_enter Tryz.func138,Tryz.ntmps138
  go_wp2_with fail
  refine RegF.start (λW:World=>W.cell? ⟨C,0,none⟩=some (.int .i64 n)/\W.cell? ⟨H,0,none⟩=some (.int .i64 B)/\W.cell? ⟨E,0,none⟩=some (.pointer (some ⟨p,0,none⟩))/\W.cell? ⟨p,0,none⟩=some (.int .i64 size)) 99 (by kernel_rfl) ?_
  refine RegF.t0 0 (.int .i64 n) rfl g (λW ⟨k,q,u,j⟩=>by go_simp) ?_
  simp only[zE,zB,Act.put,zA,zG,zF]
  refine RegF.t0 1 (.int .i64 B) rfl g (λW ⟨k,q,u,j⟩=>by go_simp) ?_
  simp only[zE,zD,zB,Act.put,zA,zG,zF]
  refine RegF.t0 2 (.bool false) rfl g (λW ⟨k,q,u,j⟩=>by go_simp) ?_
  simp only[zE,zD,zB,Act.put,zA,zG,zF]
  refine RegF.t0 3 (.bool false) rfl g (λW ⟨k,q,u,j⟩=>by go_simp) ?_
  simp only[zE,zD,zB,Act.put,zA,zG,zF]
  refine RegF.take0 4 (.int .i64 n) rfl (by kernel_rfl) (by kernel_rfl) (by kernel_rfl) rfl (λ_ _ _ h=>h) g (RegF.yldG (by rfl) (λW A=>by obtain⟨k,q,u,j⟩:=A;go_simp)) ?_
  simp only[zE,zD,zB,Act.put,zA,zG,zF]
  refine RegF.take0 5 (.pointer (some ⟨p,0,none⟩)) rfl (by kernel_rfl) (by kernel_rfl) (by kernel_rfl) rfl (λ_ _ _ h=>h) g (RegF.yldG (by rfl) (λW A=>by obtain⟨k,q,u,j⟩:=A;go_simp)) ?_
  simp only[zE,zD,zB,Act.put,zA,zG,zF]
  refine RegF.take0 6 (.pointer (some ⟨p,0,none⟩)) rfl (by kernel_rfl) (by kernel_rfl) (by kernel_rfl) rfl (λ_ _ _ h=>h) g (RegF.yldG (by rfl) (λW A=>by obtain⟨k,q,u,j⟩:=A;go_simp)) ?_
  simp only[zE,zD,zB,Act.put,zA,zG,zF]
  refine RegF.take0 7 (.pointer (some ⟨p,0,none⟩)) rfl (by kernel_rfl) (by kernel_rfl) (by kernel_rfl) rfl (λ_ _ _ h=>h) g (RegF.yldG (by rfl) (λW A=>by obtain⟨k,q,u,j⟩:=A;go_simp)) ?_
  simp only[zE,zD,zB,Act.put,zA,zG,zF]
  refine RegF.take0 8 (.pointer (some ⟨p,0,none⟩)) rfl (by kernel_rfl) (by kernel_rfl) (by kernel_rfl) rfl (λ_ _ _ h=>h) g (RegF.yldG (by rfl) (λW A=>by obtain⟨k,q,u,j⟩:=A;go_simp)) ?_
  simp only[zE,zD,zB,Act.put,zA,zG,zF]
  refine RegF.take0 9 (.int .i64 size) rfl (by kernel_rfl) (by kernel_rfl) (by kernel_rfl) rfl (λ_ _ _ h=>h) g (RegF.yldG (by rfl) (λW A=>by obtain⟨k,q,u,j⟩:=A;go_simp)) ?_
  simp only[zE,zD,zB,Act.put,zA,zG,zF]
  refine RegF.take0 10 (.bool (decide (size<=n))) rfl (by kernel_rfl) (by kernel_rfl) (by kernel_rfl) rfl (λ_ _ _ h=>h) g (RegF.yldG (by rfl) (λW A=>by obtain⟨k,q,u,j⟩:=A;go_simp)) ?_
  simp only[zE,zD,zB,Act.put,zA,zG,zF]
  refine RegF.t0 11 (.bool (decide (size<=n))) rfl g (λW ⟨k,q,u,j⟩=>by go_simp) ?_
  simp only[zE,zD,zB,Act.put,zA,zG,zF]
  refine RegF.one 12 (by kernel_rfl) (RegF.opV (w':=w.drew) (.bool (decide (size<=n))) rfl rfl (by go_simp) ⟨λ_=>g,RegF.done (by kernel_rfl) ?_⟩)
  simp only[zE,zD,zB,Act.put,zA,zG,zF]
  clear g
  go_wp2
  go_ret
  exact⟨rfl,(Below.refl _ _).drew⟩
theorem pmarked1_gives {w:World}{B C p len c:Nat}{A:Option Addr}{n:Int}(E:w.cell? ⟨B,0,none⟩=some (.int .i64 n))(h1:w.cell? ⟨C,0,none⟩=some (.pointer (some ⟨p,0,none⟩)))(h2:w.cell? ⟨p,40,none⟩=some (.slice A len c)):Calls Tryz.prog 198 #[.pointer (some ⟨B,0,none⟩),.pointer (some ⟨C,0,none⟩)] w λe w'=>e = .returned (.bool (decide (n<0∨(len:Int)<=n)))/\Below w.heap.size w w':=by
 have g:w.drew.cell? ⟨B,0,none⟩=some (.int .i64 n)/\w.drew.cell? ⟨C,0,none⟩=some (.pointer (some ⟨p,0,none⟩))/\w.drew.cell? ⟨p,40,none⟩=some (.slice A len c):=⟨E,h1,h2⟩
 by_cases hl:n<0
 ·have hd:decide (n<0∨(len:Int)<=n)=true:=by simp[hl]
  rw[hd]
  go_enter Tryz.func198,Tryz.ntmps198
  go_wp2_with fail
  refine RegF.start (λW:World=>W.cell? ⟨B,0,none⟩=some (.int .i64 n)/\W.cell? ⟨C,0,none⟩=some (.pointer (some ⟨p,0,none⟩))/\W.cell? ⟨p,40,none⟩=some (.slice A len c)) 99 (by kernel_rfl) ?_
  refine RegF.t0 0 (.int .i64 n) rfl g (λW ⟨j,k,q⟩=>by go_simp) ?_
  simp only[zE,zB,Act.put,zA,zG,zF]
  refine RegF.t0 1 (.bool true) rfl g (λW ⟨j,k,q⟩=>by go_simp) ?_
  simp only[zE,zD,zB,Act.put,zA,zG,zF]
  refine RegF.t0 2 (.bool true) rfl g (λW ⟨j,k,q⟩=>by go_simp) ?_
  simp only[zE,zD,zB,Act.put,zA,zG,zF]
  refine RegF.take0 3 undef rfl (by kernel_rfl) (by kernel_rfl) (by kernel_rfl) rfl (λ_ _ _ h=>h) g (.inr ⟨by rfl,rfl⟩) ?_
  simp only[zE,zD,zB,Act.put,zA,zG,zF]
  refine RegF.take0 4 undef rfl (by kernel_rfl) (by kernel_rfl) (by kernel_rfl) rfl (λ_ _ _ h=>h) g (.inr ⟨by rfl,rfl⟩) ?_
  simp only[zE,zD,zB,Act.put,zA,zG,zF]
  refine RegF.take0 5 undef rfl (by kernel_rfl) (by kernel_rfl) (by kernel_rfl) rfl (λ_ _ _ h=>h) g (.inr ⟨by rfl,rfl⟩) ?_
  simp only[zE,zD,zB,Act.put,zA,zG,zF]
  refine RegF.take0 6 undef rfl (by kernel_rfl) (by kernel_rfl) (by kernel_rfl) rfl (λ_ _ _ h=>h) g (.inr ⟨by rfl,rfl⟩) ?_
  simp only[zE,zD,zB,Act.put,zA,zG,zF]
  refine RegF.take0 7 undef rfl (by kernel_rfl) (by kernel_rfl) (by kernel_rfl) rfl (λ_ _ _ h=>h) g (.inr ⟨by rfl,rfl⟩) ?_
  simp only[zE,zD,zB,Act.put,zA,zG,zF]
  refine RegF.take0 8 undef rfl (by kernel_rfl) (by kernel_rfl) (by kernel_rfl) rfl (λ_ _ _ h=>h) g (.inr ⟨by rfl,rfl⟩) ?_
  simp only[zE,zD,zB,Act.put,zA,zG,zF]
  refine RegF.take0 9 undef rfl (by kernel_rfl) (by kernel_rfl) (by kernel_rfl) rfl (λ_ _ _ h=>h) g (.inr ⟨by rfl,rfl⟩) ?_
  simp only[zE,zD,zB,Act.put,zA,zG,zF]
  refine RegF.t0 10 (.bool true) rfl g (λW ⟨j,k,q⟩=>by go_simp) ?_
  simp only[zE,zD,zB,Act.put,zA,zG,zF]
  refine RegF.one 11 (by kernel_rfl) (RegF.opV (w':=w.drew) (.bool true) rfl rfl (by go_simp) ⟨λ_=>g,RegF.done (by kernel_rfl) ?_⟩)
  simp only[zE,zD,zB,Act.put,zA,zG,zF]
  clear g
  go_wp2
  go_ret
  exact⟨rfl,(Below.refl _ _).drew⟩
 ·have hd:decide (n<0∨(len:Int)<=n)=decide ((len:Int)<=n):=by simp[hl]
  rw[hd]
  go_enter Tryz.func198,Tryz.ntmps198
  go_wp2_with fail
  refine RegF.start (λW:World=>W.cell? ⟨B,0,none⟩=some (.int .i64 n)/\W.cell? ⟨C,0,none⟩=some (.pointer (some ⟨p,0,none⟩))/\W.cell? ⟨p,40,none⟩=some (.slice A len c)) 99 (by kernel_rfl) ?_
  refine RegF.t0 0 (.int .i64 n) rfl g (λW ⟨j,k,q⟩=>by go_simp) ?_
  simp only[zE,zB,Act.put,zA,zG,zF]
  refine RegF.t0 1 (.bool false) rfl g (λW ⟨j,k,q⟩=>by go_simp) ?_
  simp only[zE,zD,zB,Act.put,zA,zG,zF]
  refine RegF.t0 2 (.bool false) rfl g (λW ⟨j,k,q⟩=>by go_simp) ?_
  simp only[zE,zD,zB,Act.put,zA,zG,zF]
  refine RegF.take0 3 (.int .i64 n) rfl (by kernel_rfl) (by kernel_rfl) (by kernel_rfl) rfl (λ_ _ _ h=>h) g (RegF.yldG (by rfl) (λW u=>by obtain⟨j,k,q⟩:=u;go_simp)) ?_
  simp only[zE,zD,zB,Act.put,zA,zG,zF]
  refine RegF.take0 4 (.pointer (some ⟨p,0,none⟩)) rfl (by kernel_rfl) (by kernel_rfl) (by kernel_rfl) rfl (λ_ _ _ h=>h) g (RegF.yldG (by rfl) (λW u=>by obtain⟨j,k,q⟩:=u;go_simp)) ?_
  simp only[zE,zD,zB,Act.put,zA,zG,zF]
  refine RegF.take0 5 (.pointer (some ⟨p,0,none⟩)) rfl (by kernel_rfl) (by kernel_rfl) (by kernel_rfl) rfl (λ_ _ _ h=>h) g (RegF.yldG (by rfl) (λW u=>by obtain⟨j,k,q⟩:=u;go_simp)) ?_
  simp only[zE,zD,zB,Act.put,zA,zG,zF]
  refine RegF.take0 6 (.pointer (some ⟨p,40,none⟩)) rfl (by kernel_rfl) (by kernel_rfl) (by kernel_rfl) rfl (λ_ _ _ h=>h) g (RegF.yldG (by rfl) (λW u=>by obtain⟨j,k,q⟩:=u;go_simp)) ?_
  simp only[zE,zD,zB,Act.put,zA,zG,zF]
  refine RegF.take0 7 (.slice A len c) rfl (by kernel_rfl) (by kernel_rfl) (by kernel_rfl) rfl (λ_ _ _ h=>h) g (RegF.yldG (by rfl) (λW u=>by obtain⟨j,k,q⟩:=u;go_simp)) ?_
  simp only[zE,zD,zB,Act.put,zA,zG,zF]
  refine RegF.take0 8 (.int .i64 (len:Int)) rfl (by kernel_rfl) (by kernel_rfl) (by kernel_rfl) rfl (λ_ _ _ h=>h) g (RegF.yldG (by rfl) (λW u=>by obtain⟨j,k,q⟩:=u;go_simp)) ?_
  simp only[zE,zD,zB,Act.put,zA,zG,zF]
  refine RegF.take0 9 (.bool (decide ((len:Int)<=n))) rfl (by kernel_rfl) (by kernel_rfl) (by kernel_rfl) rfl (λ_ _ _ h=>h) g (RegF.yldG (by rfl) (λW u=>by obtain⟨j,k,q⟩:=u;go_simp)) ?_
  simp only[zE,zD,zB,Act.put,zA,zG,zF]
  refine RegF.t0 10 (.bool (decide ((len:Int)<=n))) rfl g (λW ⟨j,k,q⟩=>by go_simp) ?_
  simp only[zE,zD,zB,Act.put,zA,zG,zF]
  refine RegF.one 11 (by kernel_rfl) (RegF.opV (w':=w.drew) (.bool (decide ((len:Int)<=n))) rfl rfl (by go_simp) ⟨λ_=>g,RegF.done (by kernel_rfl) ?_⟩)
  simp only[zE,zD,zB,Act.put,zA,zG,zF]
  clear g
  go_wp2
  go_ret
  exact⟨rfl,(Below.refl _ _).drew⟩
theorem pwrite1_ask {w:World}{bb len c:Nat}{A:Option Addr}(g:w.cell? ⟨bb,0,none⟩=some (.slice A len c)):Calls Tryz.prog 136 #[.pointer (some ⟨bb,0,none⟩)] w λe w'=>e = .returned (.bool ((len:Int) != 512))/\w=w':=by
 go_enter Tryz.func136,Tryz.ntmps136
 go_wp2
 go_ret
 exact⟨rfl,rfl⟩
theorem psetroot1_ask {w:World}{bi:Nat}{i:Int}(h:w.cell? ⟨bi,0,none⟩=some (.int .i64 i)):Calls Tryz.prog 84 #[.pointer (some ⟨bi,0,none⟩)] w λe w'=>e = .returned (.bool (decide (i<0∨16<=i)))/\w=w':=by
 by_cases hl:i<0
 ·have hd:decide (i<0∨16<=i)=true:=by simp[hl]
  rw[hd]
  go_enter Tryz.func84,Tryz.ntmps84
  go_wp2
  go_ret
  exact⟨rfl,rfl⟩
 ·by_cases g:16<=i
  ·have hd:decide (i<0∨16<=i)=true:=by simp[g]
   rw[hd]
   go_enter Tryz.func84,Tryz.ntmps84
   go_wp2
   go_ret
   exact⟨rfl,rfl⟩
  ·have hd:decide (i<0∨16<=i)=false:=by simp[hl,g]
   rw[hd]
   go_enter Tryz.func84,Tryz.ntmps84
   go_wp2
   go_ret
   exact⟨rfl,rfl⟩
structure AnsF (w:World)(fn:Nat)(xs:Array Value)(b:Bool):Prop where
 enters:∀args w,(callFunc fn args).run Tryz.prog w = .ok (.enter fn args) w
 says:∀W,Below w.heap.size w W->Calls Tryz.prog fn xs W λe w'=>e = .returned (.bool b)/\Below W.heap.size W w'
theorem AnsF.later {w w':World}{fn:Nat}{xs:Array Value}{b:Bool}(h:AnsF w fn xs b)(hB:Below w.heap.size w w'):AnsF w' fn xs b:=⟨h.enters,λW e=>h.says W (hB.trans (e.mono hB.size))⟩
theorem pasked2_bound {w:World}{fn:Nat}{x:Value}{er:Int}{b:Bool}(h:AnsF w fn #[x] b):Calls Tryz.prog 102 #[.agg #[.func (.func fn) #[x] #[],.int .i64 er]] w λe w'=>e = .returned (.bool b)/\Below w.heap.size w w':=by
 have g:Below w.heap.size w (w.alloc (.cells #[.func (.func fn) #[x] #[],.int .i64 er] 140)):=(Below.refl _ w).alloc (zH _) _
 have H:=h.says _ g
 have k:=h.enters
 have j:=g.size
 clear h
 go_enter Tryz.func102,Tryz.ntmps102
 go_wp2_with fail
 refine H.mono ?_
 rintro e w' ⟨rfl,hB⟩
 go_wp2
 go_ret
 exact⟨rfl,g.trans (hB.mono j)⟩
theorem pasked2_one {w:World}{fn:Nat}{x:Value}{er:Int}{b:Bool}(h:AnsF w fn #[x] b):Calls Tryz.prog 102 #[.agg #[.func (.func fn) #[] #[x],.int .i64 er]] w λe w'=>e = .returned (.bool b)/\Below w.heap.size w w':=by
 have g:Below w.heap.size w (w.alloc (.cells #[.func (.func fn) #[] #[x],.int .i64 er] 140)):=(Below.refl _ w).alloc (zH _) _
 have H:=h.says _ g
 have k:=h.enters
 have j:=g.size
 clear h
 go_enter Tryz.func102,Tryz.ntmps102
 go_wp2_with fail
 refine H.mono ?_
 rintro e w' ⟨rfl,hB⟩
 go_wp2
 go_ret
 exact⟨rfl,g.trans (hB.mono j)⟩
theorem pasked2_two {w:World}{fn:Nat}{x y:Value}{er:Int}{b:Bool}(h:AnsF w fn #[x,y] b):Calls Tryz.prog 102 #[.agg #[.func (.func fn) #[] #[x,y],.int .i64 er]] w λe w'=>e = .returned (.bool b)/\Below w.heap.size w w':=by
 have g:Below w.heap.size w (w.alloc (.cells #[.func (.func fn) #[] #[x,y],.int .i64 er] 140)):=(Below.refl _ w).alloc (zH _) _
 have H:=h.says _ g
 have k:=h.enters
 have j:=g.size
 clear h
 go_enter Tryz.func102,Tryz.ntmps102
 go_wp2_with fail
 refine H.mono ?_
 rintro e w' ⟨rfl,hB⟩
 go_wp2
 go_ret
 exact⟨rfl,g.trans (hB.mono j)⟩
theorem pasked2_three {w:World}{fn:Nat}{x y z:Value}{er:Int}{b:Bool}(h:AnsF w fn #[x,y,z] b):Calls Tryz.prog 102 #[.agg #[.func (.func fn) #[] #[x,y,z],.int .i64 er]] w λe w'=>e = .returned (.bool b)/\Below w.heap.size w w':=by
 have g:Below w.heap.size w (w.alloc (.cells #[.func (.func fn) #[] #[x,y,z],.int .i64 er] 140)):=(Below.refl _ w).alloc (zH _) _
 have H:=h.says _ g
 have k:=h.enters
 have j:=g.size
 clear h
 go_enter Tryz.func102,Tryz.ntmps102
 go_wp2_with fail
 refine H.mono ?_
 rintro e w' ⟨rfl,hB⟩
 go_wp2
 go_ret
 exact⟨rfl,g.trans (hB.mono j)⟩
theorem rowPAsk:RowTy Tryz.prog 140 2:=⟨⟨_,Tryz.underlying140,rfl⟩,by kernel_rfl⟩
structure PAsk where
 f:Value
 er:Int
 b:Bool
deriving Inhabited
def paskC (x:PAsk):List Value:=[x.f,.int .i64 x.er]
def pasksC (l:List PAsk):List Value:=(l.map paskC).flatten
theorem pasksC_elem:∀(xs:List PAsk) (j:Nat) (h:j<xs.length),((pasksC xs).drop (j*2)).take 2=paskC xs[j]
 | x::xs,0,_=>by
  have e:pasksC (x::xs)=paskC x++pasksC xs:=rfl
  rw[e]
  rfl
 | x::xs,j+1,h=>by
  have e:pasksC (x::xs)=paskC x++pasksC xs:=rfl
  rw[e,show (j+1)*2=2+j*2 by omega,<-List.drop_drop]
  exact pasksC_elem xs j (by simpa using h)
def PAskIs (w:World)(x:PAsk):Prop:=∀W,Below w.heap.size w W->Calls Tryz.prog 102 #[.agg #[x.f,.int .i64 x.er]] W λe w'=>e = .returned (.bool x.b)/\Below W.heap.size W w'
theorem pindex_gives (w:World)(A:Option Addr)(c:Nat)(xs:List PAsk)(h:InG w w.heap.size 2 A xs.length c (pasksC xs))(hl:xs.length<=1000)(ha:∀k (O:k<xs.length),(∀j (q:j<xs.length),j<k->xs[j].b=false)->PAskIs w xs[k]) :
  Calls Tryz.prog 101 #[.slice A xs.length c,.func (.func 102) #[] #[]] w λe w'=>Below w.heap.size w w'/\((∃k,∃O:k<xs.length,e = .returned (.int .i64 (k:Int))/\xs[k].b=true/\∀j (q:j<xs.length),j<k->xs[j].b=false)∨(e = .returned (.int .i64 (-1))/\∀x∈xs,x.b=false)):=by
 go_enter Tryz.func101,Tryz.ntmps101
 go_wp2_with fail
 go_loopw [8] (λi wr=>∃k:Nat,k<=xs.length/\i = .int .i64 (k:Int)/\Hid (∀j (q:j<xs.length),j<k->xs[j].b=false)/\Below w.heap.size w wr) (λi _=>xs.length - (intOf i).toNat)
 case atStart=>exact⟨0,Nat.zero_le _,rfl,Lib.hid (λj _ h=>by omega),Below.refl _ _⟩
 case round =>
  obtain⟨k,O,rfl,C,hB⟩:=hrel
  by_cases B:k<xs.length
  ·obtain⟨g,o,rfl,X,_⟩:=h.lies (by omega)
   have E:=h.elem k B
   rw[pasksC_elem xs k B] at E
   have u:=ha k B C.out wr hB
   obtain⟨x,H⟩:∃x,x=xs[k]:=⟨_,rfl⟩
   rw[<-H] at E u
   have L:=Lib.hid H
   have M:wr.rangeAt g (o+k*2) (paskC x):=λj v q=>(hB.cell (p:=⟨g,o+k*2+j,none⟩) X).trans (E j v q)
   have Z:IntKind.i64.wrap ((k:Int)+1)=(k:Int)+1:=wrap_i64_fr _ (by omega) (by omega)
   have N:=hB.size
   obtain⟨f,er,b⟩:=x
   clear E H ha h
   cases b
   ·have U:Hid (∀j (q:j<xs.length),j<k+1->xs[j].b=false):=Lib.hid (λj q h1=>by
     by_cases e:j=k
     ·subst e;rw[<-L.out]
     ·exact C.out j q (by omega))
    go_wp2_with (first
     | (refine wp_exec rfl (x_loadM rowPAsk M rfl rfl rfl) ?_)
     | (go_at_call 102;refine u.mono ?_;rintro e T ⟨rfl,I⟩))
    exact⟨⟨k+1,by omega,by simp,U,hB.trans (I.mono N)⟩,by simp[intOf];omega⟩
   ·go_wp2_with (first
     | (refine wp_exec rfl (x_loadM rowPAsk M rfl rfl rfl) ?_)
     | (go_at_call 102;refine u.mono ?_;rintro e T ⟨rfl,I⟩))
    go_ret
    exact⟨hB.trans (I.mono N),.inl ⟨k,B,rfl,by rw[<-L.out],C.out⟩⟩
  ·obtain rfl:k=xs.length:=by omega
   clear ha h
   go_wp2
   go_ret
   refine⟨hB,.inr ⟨rfl,λx u => ?_⟩⟩
   obtain⟨j,q,rfl⟩:=List.getElem_of_mem u
   exact C.out j q q
end Go.Proofs.YtpibjkbadnffgaaGreat
