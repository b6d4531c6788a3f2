/- Texts that the proof of PagerNone leans on, part 12. -/
import Derived.Lib.ConvBytes
import Derived.Test.YtnlimngkagmjpaaGreatPagerNoneB11
open List renaming getElem?_eq_getElem → zI, getElem_mem → qJ, size_toArray → zS, length_cons → zN, length_nil → qB, push_toArray → zZ, append_toArray → zX, nil_append → zQ, cons_append → zW, eq_nil_of_length_eq_zero → qF, getElem_toArray → zD, getElem_cons_zero → zB, setIfInBounds_toArray → zA, set_cons_zero → zF, set_cons_succ → zE, getElem_cons_succ → zC, map_toArray → zJ, map_cons → zK, map_nil → zL
open Nat renaming le_trans → zP, lt_of_lt_of_le → zO, le_refl → zG, reduceAdd → qH, reduceSub → qI, zero_add → qK
open Array renaming replicate_succ → zU, replicate_zero → zV, getElem?_eq_some_iff → zH
set_option linter.unusedVariables false
set_option maxRecDepth 100000
set_option maxHeartbeats 8000000

namespace Go.Proofs.YtnlimngkagmjpaaGreat
open Go Go.RowKit Lou Go.Shelf
attribute [local go_sem] Oper.semAt_some
def rowsR (V:RowsV):RowsC:=fun k=>(V k).map fun v=>(v.y,v.d)
theorem rowsR_dirty {V:RowsV}{k:Int}{y:List UInt8}:rowsR V k=some (y,true)↔dirtyY V k=some y:=by
 unfold rowsR dirtyY
 cases hv:V k with
 | none=>simp
 | some v =>
  cases hd:v.d<;>simp[hd]
theorem dirtyF_is {V:RowsV}{k:Int}:(dirtyF V k).isSome=(dirtyY V k).isSome:=by
 unfold dirtyF dirtyY
 cases V k with
 | none=>rfl
 | some v=>cases hd:v.d<;>simp[hd]
theorem dirtyL_keys (V:RowsV):∀P,(dirtyL (rowsR V) P).map (·.1)=keysV (dirtyF V) P
 | 0=>rfl
 | P+1=>by
  have ih:=dirtyL_keys V P
  unfold dirtyL
  rw[List.map_append,ih]
  unfold keysV
  rw[List.range_succ,List.filter_append]
  congr 1
  have h1:=@rowsR_dirty V (P:Int)
  split
  ·next b e =>
   have:=h1.1 e
   simp[dirtyF_is,this]
  ·next e =>
   cases hy:dirtyY V (P:Int) with
   | none=>simp[dirtyF_is,hy]
   | some y=>exact absurd (h1.2 hy) (e y)
theorem CmtAt.args {w V:World}{B4:Nat}{Y:Int->Option (List UInt8)}{ys:List (Nat×(Option Addr×Nat))}{U:Nat->Prop}(h:CmtAt w B4 Y ys U V)(L:List (Nat×List UInt8))(hk:ys.map (·.1)=L.map (·.1))(hY:∀x∈L,Y (x.1:Int)=some x.2) :
  ∃Aw cw,BlkIs V w.heap.size 127 #[.slice Aw L.length cw]/\PwArgs V B4 Aw L.length (fun k=>(ys.map pwO).getD k (0,none,0)) (pwL L):=by
 obtain⟨Aw,cw,hb,own,_⟩:=h.has
 have hl:ys.length=L.length:=by have:=congrArg List.length hk;simpa using this
 rw[hl] at hb own
 have hge:=ownG_ge own
 obtain⟨A,c,e,hin⟩:=ownG_in own (pwsC_one _)
 injection e with e1 _ e3
 subst e1 e3
 have hxs:∀k (hk:k<L.length),(ys.map pwO).getD k (0,none,0)=pwO (ys[k]'(by omega)):=fun k hk=>by
  rw[List.getD_eq_getElem?_getD,zI (by simp;omega),List.getElem_map]
  rfl
 have hpw:∀k (hk:k<L.length),pwL L k=((L[k].1:Int),L[k].2):=fun k hk=>by unfold pwL;rw[zI hk]
 have h1:∀k (hq:k<L.length),(ys[k]'(by omega)).1=L[k].1:=fun k hq=>by
  have h2:(ys.map (·.1))[k]? = (L.map (·.1))[k]?:=by rw[hk]
  rw[zI (by simp;omega),zI (by simp;omega)] at h2
  simpa using h2
 have hby:∀k (hk:k<L.length),L[k].2.length=512/\InB V V.heap.size (ys[k]'(by omega)).2.1 (ys[k]'(by omega)).2.2 L[k].2/\TyB V (ys[k]'(by omega)).2.1:=fun k hk=>by
  obtain⟨y,y1,y2,y3,y4⟩:=h.bys _ (qJ (by omega:k<ys.length))
  have h2:=hY _ (qJ hk)
  rw[h1 k hk,h2] at y1
  injection y1 with y1
  subst y1
  exact⟨y2,y3,y4⟩
 refine⟨Aw,cw,hb,⟨fun g o e=>hge g (by rw[e];rfl),fun h0 => ?_,fun k hk => ?_,fun k hk => ?_⟩⟩
 ·obtain⟨g,o,e,hg,hr⟩:=hin.lies (by omega)
  refine⟨g,o,e,fun j hj q v hq => ?_,hg⟩
  have hq2:(pwC ((ys.map pwO)[j]'(by simp;omega)))[q]? = some v:=by
   have e:=hxs j hj
   simp only[e] at hq
   rw[List.getElem_map]
   exact hq
  have:=hr (j*2+q) v (pwsC_get _ j (by simp;omega) q v hq2)
  rw[show o+j*2+q=o+(j*2+q) by omega]
  exact this
 ·obtain⟨q1,q2,_⟩:=hby k hk
  simp only[hxs k hk,hpw k hk]
  exact⟨by show ((L[k].1:Nat):Int)=(((ys[k]'(by omega)).1:Nat):Int);rw[h1 k hk],q1,q2⟩
 ·simp only[hxs k hk]
  exact(hby k hk).2.2
theorem pwC_one (x:Int×Option Addr×Nat):∀v∈pwC x,v.oneCell'=true:=by
 intro v hv
 simp[pwC] at hv
 rcases hv with rfl|rfl<;>rfl
def cleanIf (x:Int)(c:CaSt):CaSt:=if x=0 then ⟨c.now,c.hh,c.mm,cleanV c.V⟩ else c
def CmRes (fr pg:Int)(P:Nat)(room:Int)(s:DS)(S:LgS)(c:CaSt)(z:Int)(sz:Nat)(x:Int)(s':DS)(S':LgS)(c':CaSt):Prop :=
 (dirtyL (rowsR c.V) P≠[]/\∃xs,(∀k,k<(dirtyL (rowsR c.V) P).length->(pwL (dirtyL (rowsR c.V) P) k).1=(xs k).1)/\ComOut fr pg P s S (dirtyL (rowsR c.V) P).length xs (pwL (dirtyL (rowsR c.V) P)) z x s' S'/\c'=cleanIf x c) ∨
 (dirtyL (rowsR c.V) P=[]/\z=S.sz/\x=0/\s'=s/\S'=S/\c'=c) ∨
 (dirtyL (rowsR c.V) P=[]/\¬ z=S.sz/\s'=s/\S'=S/\RdP P room c 0 (fileR fr pg s S 0) sz (.inl x) c') ∨
 (dirtyL (rowsR c.V) P=[]/\¬ z=S.sz/\∃y c1 xs,RdP P room c 0 (fileR fr pg s S 0) sz (.inr y) c1/\(xs 0).1=0/\ComOut fr pg P s S 1 xs (pwL [(0,y)]) z x s' S'/\c'=cleanIf x c1)
theorem RdP.mono {P:Nat}{room:Int}{c c':CaSt}{page:Int}{R x:Int ⊕ List UInt8}{n m:Nat}(h:RdP P room c page R n x c')(hm:m<=n):RdP P room c page R m x c':=by
 rcases h with h|h|h|⟨h1,y,V1,b,A1,c1,h2,h3,h4,h5⟩
 ·exact .inl h
 ·exact .inr (.inl h)
 ·exact .inr (.inr (.inl h))
 ·exact .inr (.inr (.inr ⟨h1,y,V1,b,A1,c1,h2,h3,zP hm h4,h5⟩))
theorem RdP.err {P:Nat}{room fr pg:Int}{s:DS}{S:LgS}{c c':CaSt}{page er:Int}{n:Nat}(h:RdP P room c page (fileR fr pg s S page) n (.inl er) c')(hG:∀k,(laid s.g s.xs k).length=64)(hy:∀x∈S.fs,x.y.length=512):er≠0:=by
 rcases h with⟨v,_,e,_⟩|⟨_,er',h2,e,_⟩|⟨_,y,_,_,e,_⟩|⟨_,y,V1,b,A1,c1,_,_,_,e,_⟩
 ·cases e
 ·injection e with e
  subst e
  rcases fileR_cases (fr:=fr) (pg:=pg) page hG hy with⟨e0,he,hR⟩|⟨y,_,_,hR⟩
  ·rw[hR] at h2
   injection h2 with h2
   rw[<-h2]
   exact he
  ·rw[hR] at h2
   cases h2
 ·injection e with e
  rw[e]
  decide
 ·cases e
theorem RdP.len {P:Nat}{room fr pg:Int}{s:DS}{S:LgS}{c c':CaSt}{page:Int}{y:List UInt8}{n:Nat}(h:RdP P room c page (fileR fr pg s S page) n (.inr y) c')(hf:∀k v,c.V k=some v->v.y.length=512)(hG:∀k,(laid s.g s.xs k).length=64)(hy:∀x∈S.fs,x.y.length=512):y.length=512:=by
 rcases h with⟨v,h1,e,_⟩|⟨_,er',h2,e,_⟩|⟨_,y',_,_,e,_⟩|⟨_,y',V1,b,A1,c1,h2,_,_,e,_⟩
 ·injection e with e
  subst e
  exact hf _ v h1
 ·cases e
 ·cases e
 ·injection e with e
  subst e
  rcases fileR_cases (fr:=fr) (pg:=pg) page hG hy with⟨e0,he,hR⟩|⟨y1,_,h3,hR⟩
  ·rw[hR] at h2
   cases h2
  ·rw[hR] at h2
   injection h2 with h2
   rw[<-h2]
   exact h3
theorem cleanIf_names {a r n:Nat}{x:Int}{c c1:CaSt}(h:∀k,caMu a r c1.V k->caMu a r c.V k∨n<=k):∀k,caMu a r (cleanIf x c1).V k->caMu a r c.V k∨n<=k:=fun k hk=>by
 unfold cleanIf at hk
 split at hk
 ·exact h k (caMu_clean k hk)
 ·exact h k hk
theorem CmRes.names {fr pg:Int}{P:Nat}{room:Int}{s s':DS}{S S':LgS}{c c':CaSt}{z x:Int}{n a r:Nat}(h:CmRes fr pg P room s S c z n x s' S' c'):∀k,caMu a r c'.V k->caMu a r c.V k∨n<=k:=by
 rcases h with⟨_,xs,_,_,rfl⟩|⟨_,_,_,_,_,rfl⟩|⟨_,_,_,_,h⟩|⟨_,_,y,c1,xs,h,_,_,rfl⟩
 ·exact cleanIf_names fun k hk => .inl hk
 ·exact fun k hk => .inl hk
 ·exact h.names
 ·exact cleanIf_names h.names
theorem pwL_one (y:List UInt8):(fun k=>[((0:Int),y)].getD k (0,[]))=pwL [(0,y)]:=by
 funext k
 cases k<;>rfl
theorem cwrites_gives (v:Value)(w:World):Calls Tryz.prog 69 #[v] w fun e w'=>e = .returned v/\w=w':=by
 go_enter Tryz.func69,Tryz.ntmps69
 go_wp2
 go_ret
 exact⟨rfl,rfl⟩
theorem CaIs.belowN {W W':World}{a f r P B:Nat}{room now hh mm:Int}{V:RowsV}(h:CaIs W a f r P room now hh mm V)(hB:Below B W W')(hlt:∀k,caMu a r V k->k<B)(hby:∀k v,V k=some v->∀g o,v.A=some ⟨g,o,none⟩->0<v.y.length->g<B):CaIs W' a f r P room now hh mm V:=by
 obtain⟨es,c,hm,he,hs⟩:=h.mp
 refine⟨h.cb.below hB (hlt _ (.inl rfl)),⟨es,c,hm.below hB (hlt _ (.inr (.inl rfl))),he,hs⟩,fun k v hv => ?_,h.inj,h.iat⟩
 have hr:=h.rows k v hv
 refine⟨hr.blk.below hB (hlt _ (.inr (.inr ⟨k,v,hv,rfl⟩))),hr.key,⟨hr.bys.le,hr.bys.max,hr.bys.nil,fun h0 => ?_⟩,hr.len,hr.at0⟩
 obtain⟨g,o,e,hg,hc⟩:=hr.bys.lies h0
 exact⟨g,o,e,zO hg hB.size,fun j hj=>(hB.cell (p:=⟨g,o+j,none⟩) (hby k v hv g o e h0)).trans (hc j hj)⟩
theorem cleanTo_of {pd:Int->Bool}{V:RowsV}{k:Int}{v:RowV}(h:cleanTo pd V k=some v):∃u,V k=some u/\v.b=u.b/\v.A=u.A/\v.y=u.y:=by
 unfold cleanTo at h
 cases hv:V k with
 | none=>rw[hv] at h;cases h
 | some u =>
  rw[hv,Option.map_some] at h
  injection h with h
  subst h
  refine⟨u,rfl,?_,?_,?_⟩<;>split<;>rfl
theorem CleanAt.iter {W9 w w4:World}{r clock:Nat}{es:Array MapEntry}{a f P:Nat}{room now hh mm:Int}{V:RowsV}{seen:Array Nat}{pd:Int->Bool}(hc:CleanAt W9 W9.heap.size r clock es a f P room now hh mm V seen pd w)(h9:CaIs W9 a f r P room now hh mm V)(hB:Below W9.heap.size w w4):CaIs w4 a f r P room now hh mm (cleanTo pd V)/\GrowBut (caMu a r V) W9 w4:=by
 refine⟨hc.ca.belowN hB (fun k hk=>h9.lts k ?_) (fun k v hv g o e h0 => ?_),⟨hB.os.trans hc.gb.os,hB.tape.trans hc.gb.tape,hB.output.trans hc.gb.output,zP hc.gb.size hB.size,fun i hi hn=>(hB.block i hi).trans (hc.gb.block i hi hn)⟩⟩
 ·rcases hk with e|e|⟨j,v,hv,e⟩
  ·exact .inl e
  ·exact .inr (.inl e)
  ·obtain⟨u,h1,h2,_⟩:=cleanTo_of hv
   exact .inr (.inr ⟨j,u,h1,by rw[e,h2]⟩)
 ·obtain⟨u,h1,_,h3,h4⟩:=cleanTo_of hv
  have hb:=(h9.rows k u h1).bys
  rw[h4] at h0
  obtain⟨g',o',e',hg,_⟩:=hb.lies h0
  rw[h3,e'] at e
  injection e with e
  injection e with e1 e2
  omega
section
variable {W0 W W' w:World}{d f l a r many P:Nat}{fr pg room now hh mm:Int}{s:DS}{S:LgS}{V:RowsV}{c:CaSt}
theorem CfIs.notTy (h:CfIs W0 d f l a r many P fr pg room now hh mm s S V W){g:Nat}{T:TypeId}{cs:Array Value}(hb:BlkIs W g T cs)(h1:T≠118)(h2:T≠126)(h3:T≠70)(h4:T≠104)(h5:T≠75):¬ sysMu d l a r V g/\g≠f:=by
 have h6:=h.ca.notTy hb h1 h2
 have h7:=h.fh.ne hb h3 h4
 refine⟨fun hk => ?_,fun e => ?_⟩
 ·rcases hk with e|e|e
  ·exact h7 (.inl e)
  ·exact h7 (.inr e)
  ·exact h6 e
 ·subst e
  exact BlkIs.ne_type hb h.fh.fb h5 rfl
theorem CfIs.other (h:CfIs W0 d f l a r many P fr pg room now hh mm s S V W){g:Nat}{T:TypeId}{cs:Array Value}(hb:BlkIs W g T cs)(hs:cs.size<=64)(hu:∀n,cs[0]? ≠ some (.int .u64 n))(hg:W0.heap.size<=g)(h1:T≠118)(h2:T≠126)(h3:T≠70)(h4:T≠104)(h5:T≠75)(hG:GrowBut (fun k=>k=g) W W'):CfIs W0 d f l a r many P fr pg room now hh mm s S V W' :=
 h.keep hG (fun k e=>by subst e;exact⟨.inr (.inl ⟨_,_,hb,hs,hu⟩),.inr (.inl ⟨_,_,hb,hs⟩)⟩) (fun k e=>by subst e;exact hg) (fun k e=>by subst e;exact h.notTy hb h1 h2 h3 h4 h5)
def ComCall (W0:World)(d f l many:Nat)(fr pg:Int)(z:Int)(R:Int->DS->LgS->Prop)(v:Value)(W:World):Prop :=
 Calls Tryz.prog 70 #[.pointer (some ⟨f,0,none⟩),.int .i64 z,v] W fun e w'=>∃x s' S',e = .returned (.int .i64 x)/\R x s' S'/\(∃k,¬ s'.g k=zer64)/\(∀x∈S'.fs,x.y.length=512)/\FhIs W0 d f l many fr pg s' S' w'/\GrowBut (fun k=>k=d∨k=l) W w'
theorem com_call (h:FhIs W0 d f l many fr pg s S W)(hO:s.Ok)(hl:s.xs.length<=100000){G:Nat->List UInt8}{i:Nat}(hS:StP fr pg G S i)(hp:PgIn pg S)(hi:i<=900)(hpl:planOk fr pg=true)(hm:(many:Int)=2+9*fr+8*pg)(hmax:many<=100000)(hP:(P:Int)=pg)(hP2:P<=1000)(z:Int)
  (hNx:∀n xs pw x s' S',ComOut fr pg P s S n xs pw z x s' S'->(∀k,k<n->(pw k).1=(xs k).1)->(∀k,k<n->(pw k).2.length=512)->(∃k,¬ s'.g k=zer64)/\∀x∈S'.fs,x.y.length=512)
  {B:Nat} {A1:Option Addr} {n c:Nat} {xs:Nat->Int×Option Addr×Nat} {pw:Nat->Int×List UInt8} (hn:n<=1000) (hA:PwArgs W B A1 n xs pw) (hd:d<B) (hlB:l<B) (R:Int->DS->LgS->Prop) (hR:∀x s' S',ComOut fr pg P s S n xs pw z x s' S'->R x s' S'):ComCall W0 d f l many fr pg z R (.slice A1 n c) W:=by
 refine(fcommit_ac h hO hl hS hp hi hpl hm hmax hP hn hA hd hlB hP2 z).mono ?_
 rintro e w' ⟨x,s',S',rfl,h1,h2,h3⟩
 obtain⟨n1,n2⟩:=hNx n xs pw x s' S' h1 (fun k hk=>(hA.bys k hk).1) (fun k hk=>(hA.bys k hk).2.1)
 exact⟨x,s',S',rfl,hR x s' S' h1,n1,n2,h2,h3⟩
theorem ccommit_in (n:Nat)(hn:10<=n)(h:CsIs W0 d f l a r many P fr pg room s S c w)(hT:FileTold W0 d f l many fr pg s S)(hc:c.Ok 900000)(hroom:2<=room)(hfull:∀k v,c.V k=some v->v.y.length=512)(hO:s.Ok)(hl:s.xs.length<=100000){G:Nat->List UInt8}{i:Nat}(hS:StP fr pg G S i)(hp:PgIn pg S)(hi:i<=900)(hpl:planOk fr pg=true)(hm:(many:Int)=2+9*fr+8*pg)(hmax:many<=100000)(hP:(P:Int)=pg)(hP2:P<=1000)(z:Int)
  (hNx:∀n xs pw x s' S',ComOut fr pg P s S n xs pw z x s' S'->(∀k,k<n->(pw k).1=(xs k).1)->(∀k,k<n->(pw k).2.length=512)->(∃k,¬ s'.g k=zer64)/\∀x∈S'.fs,x.y.length=512) :
  CallsIn Fence.wide n Tryz.prog 36 #[.pointer (some ⟨a,0,none⟩),.int .i64 z] w fun e w'=>∃x s' S' c',e = .returned (.int .i64 x)/\CmRes fr pg P room s S c z w.heap.size x s' S' c'/\CsIs W0 d f l a r many P fr pg room s' S' c' w'/\GrowBut (sysMu d l a r c.V) w w':=by
 have h1:1<=n:=by omega
 have hw0:=h.fh.up.size
 obtain⟨W2,hW2⟩:∃W2,W2=w.alloc (.cells #[.slice none 0 0] 127):=⟨_,rfl⟩
 have hB0:Below w.heap.size w W2:=by rw[hW2];exact(Below.refl _ w).alloc (zG _) _
 have b0:BlkIs W2 w.heap.size 127 #[.slice none 0 0]:=by rw[hW2];exact BlkIs.new w _ _
 have s2:W2.heap.size=w.heap.size+1:=by rw[hW2];simp
 have h2:=h.grow hB0
 have HN:=cnone_gives h.ca.cb
 have HD:=cdirty_gives W2 a f r P room c.now c.hh c.mm c.V h2.ca
 have hKY:∀k y,dirtyY c.V k=some y->0<=k/\k<(P:Int):=fun k y hy=>by
  unfold dirtyY at hy
  cases hv:c.V k with
  | none=>rw[hv] at hy;cases hy
  | some v=>exact(h.ca.rows k v hv).key
 have hPg2:=dirtyPg h2.ca hfull
 have hKB:=hPg2.keys hKY
 have HW2:=Lib.hid hW2.symm
 clear hW2
 refine callsIn_of_wp_marks Tryz.func36 rfl trivial ?_ rfl
 simp only[Tryz.ntmps36,zS,zN,qB,qH,qI,zU,zV,zZ,zX,zQ,zW]
 gi_wp2_with (first
  | (refine⟨trivial,?_⟩;gi_at_call 65;refine(callsIn_wide.2 HN).mono ?_;rintro e w' ⟨rfl,rfl⟩)
  | (refine⟨trivial,?_⟩;gi_at_call 68;rw[HW2.out];refine(callsIn_wide.2 HD).mono ?_;rintro e W4 ⟨q,s4,eo,co,rfl,hq,hms,heo,hso,hB4,hs4,hq4⟩))
 have hPg4:=hPg2.grow hB4
 have b4:=b0.below hB4 b0.lt
 have hup4:Below w.heap.size w W4:=hB0.trans (hB4.mono hB0.size)
 have hz4:=hB4.size
 clear HN HD h2 hPg2 HW2 b0
 refine wpIn_rangeFunc_U rfl h1 (gf:=112) (lb:=#[.pointer (some ⟨q,0,none⟩)]) rfl trivial (enters_of Tryz.func112 (by kernel_rfl) rfl)
  (dirty1_seq (n - 1) (by omega) q s4 P co eo (dirtyF c.V) (dirtyY c.V) W4 hq hms heo hso hPg4 hKB (by omega)) (Below.refl _ _) (fun _=>rfl) (fun k=>k=w.heap.size)
  ⟨fun e=>by omega,fun e=>by omega,fun k e=>by subst e;exact .inr ⟨_,_,b4,by show 1<=64;decide⟩⟩
  (fun pre U V=>CmtAt w W4.heap.size (dirtyY c.V) pre U V) (fun _ _ _ _=>False) (CmtAt.st _ _ _) (fun _ _ _ _ _ _ h _ _=>h) (fun s U X hs=>hs.lts) ?ownR
  ⟨⟨none,0,b4,World.ownsRow_nil _ _ _ _,fun k=>⟨fun e => .inl e,fun e=>e.elim id (fun e=>by cases e)⟩⟩,(fun x hx=>by cases hx),hup4,by omega,zG _⟩ ?act ?assign ?body ?done ?stop
 case ownR =>
  rintro pre x _ X Y row ⟨e1,e2,y,e3,e4,e5,e6⟩ hgr hr
  exact⟨e1,e2,y,e3,e4,InB.ownFrom (B:=W4.heap.size) _ _ _ () X Y row e5 hgr hr,TyB.ownFrom (B:=W4.heap.size) _ () X Y row e6 hgr hr⟩
 case assign =>
  intro l1 x V K hK
  simp only[pgEnc]
  gi_wp2
  exact hK
 case body =>
  rintro l1 pre ⟨x1,A6,c6⟩ U V hI ⟨e1,_,y,e3,e4,e5,e6⟩
  have hpl:pre.length<=1000:=by
   have h3:=(List.getElem?_eq_some_iff.1 e1).1
   have h4:=keysV_len (dirtyF c.V) P
   omega
  obtain⟨Aw,cw,hb,own,hU⟩:=hI.has
  have k1:=hb.boxed
  have kf:=hb.free 0
  have hBa:Below V.heap.size V (V.alloc (.cells #[.int .i64 (x1:Int),.slice A6 512 c6] 129)):=(Below.refl _ V).alloc (zG _) _
  have owna:=ownG_grow own hBa
  have hin8:InG (V.alloc (.cells #[.int .i64 (x1:Int),.slice A6 512 c6] 129)) (V.alloc (.cells #[.int .i64 (x1:Int),.slice A6 512 c6] 129)).heap.size 2 (some ⟨V.heap.size,0,none⟩) 1 1 (pwC (pwO (x1,A6,c6))) :=
   ⟨zG _,by omega,(fun e=>by cases e),rfl,(by intro v hv;simp[pwC,pwO] at hv;rcases hv with rfl|rfl<;>rfl),fun _=>⟨V.heap.size,0,rfl,by simp,fun j v hj=>by
    rw[(BlkIs.new V 129 #[.int .i64 (x1:Int),.slice A6 512 c6]).cell,qK]
    simpa[pwC,pwO] using hj⟩⟩
  have hb4:=hI.b4
  have hba:W4.heap.size<=(V.alloc (.cells #[.int .i64 (x1:Int),.slice A6 512 c6] 129)).heap.size:=by have:=hBa.size;omega
  have hge:=ownG_ge owna
  have hNX:=fun (v5:Value) (w5:World) o5 g5 e5'=>hI.next (x:=(x1,A6,c6)) hb own hU ⟨y,e3,e4,e5,e6⟩ hBa (v5:=v5) (w5:=w5) o5 g5 e5'
  have bVa:=hb.below hBa hb.lt
  clear e1 e3 e4 e5 e6
  gi_wp2_with (gi_at_builtin;refine wpIn_appG2 rfl elPW (.tmp 19) (.tmp 23) rfl W4.heap.size (.slice Aw pre.length cw) pre.length (pwsC (pre.map pwO)) rfl owna _ _ 1 1 (pwC (pwO (x1,A6,c6))) rfl hin8 (by omega) (by unfold maxLen;omega) (by omega) hba ?_;intro v5 w5 own5 hg5 hv5;obtain⟨A5,k5,rfl,_⟩:=ownG_in own5 (fun v hv=>(List.mem_append.1 hv).elim (pwsC_one _ v) (pwC_one _ v));have b5:=bVa.grown hg5 (fun e=>by have:=hge _ e.symm;omega);have c5:=b5.boxed;have f5:=b5.free 0)
  exact hNX _ _ own5 hg5 hv5
 case done =>
  rintro D ys U V hD hYS hI hK
  obtain⟨L,hL⟩:∃L,L=dirtyL (rowsR c.V) P:=⟨_,rfl⟩
  have hLk:ys.map (·.1)=L.map (·.1):=by rw[hYS,hL,dirtyL_keys]
  have hLY:∀x∈L,dirtyY c.V (x.1:Int)=some x.2:=fun x hx=>by
   rw[hL] at hx
   exact rowsR_dirty.1 (dirtyL_mem.1 hx).2
  have hLl:L.length<=P:=by rw[hL];exact dirtyL_len _ _
  have hLp:∀k,k<L.length->(pwL L k).2.length=512:=fun k hk=>by
   unfold pwL
   rw[zI hk]
   have h3:=hLY _ (qJ hk)
   unfold dirtyY at h3
   cases hv:c.V (L[k].1:Int) with
   | none=>rw[hv] at h3;cases h3
   | some v =>
    rw[hv] at h3
    cases hd:v.d with
    | false=>simp[hd] at h3
    | true =>
     simp[hd] at h3
     rw[<-h3]
     exact hfull _ v hv
  obtain⟨Aw,cw,hbx,HA⟩:=hI.args L hLk hLY
  have hup:=hI.up
  have hV:CsIs W0 d f l a r many P fr pg room s S c V:=CfIs.grow h hup
  have hDl:=(zH.1 hK).1
  have hGV:GrowBut (fun k=>sysMu d l a r c.V k∨w.heap.size<=k) w V:=GrowBut.below hup
  have HRS:=Lib.hid (show ∀x s' S',ComOut fr pg P s S L.length (fun k=>(ys.map pwO).getD k (0,none,0)) (pwL L) z x s' S'->L≠[]->CmRes fr pg P room s S c z w.heap.size x s' S' (cleanIf x c) from fun x s' S' hC hne=>by
   rw[hL] at hC hne
   exact .inl ⟨hne,_,fun k hk=>by have:=(HA.bys k (by rw[hL];exact hk)).1;rw[hL] at this;exact this,hC,rfl⟩)
  have HNL:=Lib.hid (show L=[]->dirtyL (rowsR c.V) P=[] from fun e=>by rw[<-hL];exact e)
  have hdl:=h.fh.lts
  have hw0V:=hup.size
  clear hYS hI hLk hLY hL hPg4 hKB hKY hq hms heo hso b4 hup4
  by_cases hne:L=[]
  case' pos =>
   have HNE:=HNL.out hne
   have HNE':=Lib.hid HNE
   subst hne
   clear HNE HRS HA hLp hLl
   have k1:=hbx.boxed
   have k0:V.cell? ⟨a,0,none⟩=some (.pointer (some ⟨f,0,none⟩)):=(hV.ca.cb.cell _).trans rfl
   have HSZ:=fsize_gives hV.fh.fb hV.fh.lg
   by_cases hz:z=S.sz
   ·have hzb:(z == S.sz)=true:=by rw[hz];simp
    have HZ:=Lib.hid hz
    clear hz
    gi_wp2_with (first
     | (refine⟨trivial,?_⟩;gi_at_call 33;refine(callsIn_wide.2 HSZ).mono ?_;rintro e w' ⟨rfl,rfl⟩))
    refine⟨by simp,.inl ⟨D,_,rfl,run_takeDeferred hK,?_⟩⟩
    obtain⟨t1,t2⟩:=hV.taken hK (by omega) (.deferred none)
    exact⟨_,results_tmp rfl _ _ _,0,s,S,c,rfl,.inr (.inl ⟨HNE'.out,HZ.out,rfl,rfl,rfl,rfl⟩),t1,(hGV.trans (t2.more (fun k e _ => .inr (by omega)))).more (fun k e hk=>e.elim id (fun e=>by omega))⟩
   have hzb:(z == S.sz)=false:=by simpa using hz
   have HZ:=Lib.hid hz
   have HR:=sread_gives hV hT hc hroom hP2 hP 0
   clear hz
   gi_wp2_with (first
    | (refine⟨trivial,?_⟩;gi_at_call 33;refine(callsIn_wide.2 HSZ).mono ?_;rintro e w' ⟨rfl,rfl⟩))
   refine⟨trivial,?_⟩
   gi_at_call 37
   refine(callsIn_wide.2 HR).mono ?_
   rintro e V7 ⟨x7,c7,hR7,hE7,h7,hG7⟩
   have hGd:=laid_long hV.fh.dk
   have hK7:V7.heap[D]? = some (.deferred (some [])):=(hG7.block D hDl (fun e=>(CfIs.notDf hV hK).1 (.inr (.inr e)))).trans hK
   have bx7:=hG7.blk hbx (hV.ca.notTy hbx (by decide) (by decide))
   have hG7w:GrowBut (fun k=>sysMu d l a r c.V k∨w.heap.size<=k) w V7:=hGV.trans (hG7.more (fun k e _ => .inl (.inr (.inr e))))
   have hR7w:=hR7.mono hw0V
   have hV7:=hG7.size
   rcases x7 with er|y
   ·have her:=hR7.err hGd hV.y5
    have heb:(er == 0)=false:=by simpa using her
    unfold RdE at hE7
    dsimp only at hE7
    subst hE7
    have HR7:=Lib.hid hR7w
    clear hR7 hR7w her
    gi_wp2
    refine⟨by simp,.inl ⟨D,_,rfl,run_takeDeferred hK7,?_⟩⟩
    obtain⟨t1,t2⟩:=CfIs.taken h7 hK7 (by omega) (.deferred none)
    exact⟨_,results_tmp rfl _ _ _,er,s,S,c7,rfl,.inr (.inr (.inl ⟨HNE'.out,HZ.out,rfl,rfl,HR7.out⟩)),t1,(hG7w.trans (t2.more (fun k e _ => .inr (by omega)))).more (fun k e hk=>e.elim id (fun e=>by omega))⟩
   have hy7:=hR7.len hfull hGd hV.y5
   obtain⟨A7,k7,rfl,hin7,hty7⟩:=hE7
   rw[hy7]
   have HR7:=Lib.hid hR7w
   have hnm7:=hR7w.names (a:=a) (r:=r)
   have HY7:=Lib.hid hy7
   have HCW:=fun v W=>cwrites_gives v W
   have k17:=bx7.boxed
   have f17:=bx7.free 0
   clear hR7 hR7w hy7
   obtain⟨V8,hV8⟩:∃V8,V8=V7.alloc (.cells #[.int .i64 0,.slice A7 512 k7] 129):=⟨_,rfl⟩
   have hB8:Below V7.heap.size V7 V8:=by rw[hV8];exact(Below.refl _ _).alloc (zG _) _
   have b8:BlkIs V8 V7.heap.size 129 (pwsC [((0:Int),A7,k7)]).toArray:=by rw[hV8];exact BlkIs.new V7 _ _
   have bx8:=bx7.below hB8 bx7.lt
   have k18:=bx8.boxed
   have f18:=bx8.free 0
   have h8:=CfIs.grow h7 hB8
   have hK8:V8.heap[D]? = some (.deferred (some [])):=(hB8.block D (by omega)).trans hK7
   have in8:=(hin7.below hB8).more hB8.size
   have ty8:=hty7.grow hB8
   have hG8w:=hG7w.trans (GrowBut.below hB8)
   have hs8:=hB8.size
   have HV8:=Lib.hid hV8.symm
   clear hV8 k17 f17
   gi_wp2_with (first
    | (refine⟨trivial,?_⟩;gi_at_call 69;rw[HV8.out];refine(callsIn_wide.2 (HCW _ _)).mono ?_;rintro e w' ⟨rfl,rfl⟩))
   have hGx:GrowBut (fun k=>k=w.heap.size) V8 (V8.setCell ⟨w.heap.size,0,none⟩ (.slice (some ⟨V7.heap.size,0,none⟩) 1 1)):=GrowBut.setCell _ _ _ rfl
   have bx9:=bx8.set 0 (.slice (some ⟨V7.heap.size,0,none⟩) 1 1)
   have h9:=CfIs.other h8 bx8 (by show 1<=64;decide) (fun n e=>by cases e) hw0 (by decide) (by decide) (by decide) (by decide) (by decide) hGx
   have hK9:(V8.setCell ⟨w.heap.size,0,none⟩ (.slice (some ⟨V7.heap.size,0,none⟩) 1 1)).heap[D]? = some (.deferred (some [])):=(hGx.block D (by omega) (by omega)).trans hK8
   have hG9w:=hG8w.trans (hGx.more (fun k e _ => .inr (by omega)))
   have b9:=hGx.blk b8 (by omega)
   obtain⟨in9,ty9⟩:=keepB hGx in8 ty8 (fun g cs hgb e=>by subst e;exact BlkIs.ne_type bx8 hgb (by decide) rfl)
   have a9:PwArgs (V8.setCell ⟨w.heap.size,0,none⟩ (.slice (some ⟨V7.heap.size,0,none⟩) 1 1)) V7.heap.size (some ⟨V7.heap.size,0,none⟩) 1 (fun k=>[((0:Int),A7,k7)].getD k (0,none,0)) (fun k=>[((0:Int),y)].getD k (0,[])) :=
    args_of [(0,A7,k7)] [(0,y)] b9 (zG _) (fun k hk=>by
     obtain rfl:k=0:=by simp at hk;omega
     exact⟨rfl,HY7.out,in9,ty9⟩)
   have hgs9:=hGx.size
   generalize V8.setCell ⟨w.heap.size,0,none⟩ (.slice (some ⟨V7.heap.size,0,none⟩) 1 1)=W8 at *
   rw[pwL_one] at a9
   have HCALL:∃v8,BlkIs W8 w.heap.size 127 #[v8]/\ComCall W0 d f l many fr pg z (fun x s' S'=>CmRes fr pg P room s S c z w.heap.size x s' S' (cleanIf x c7)) v8 W8.drew :=
    ⟨_,bx9,com_call (FhIs.grow h9.fh (Below.refl _ _).drew) hO hl hS hp hi hpl hm hmax hP hP2 z hNx (by decide) (a9.grow (Below.refl _ _).drew) (by omega) (by omega) _ (fun x s' S' hC => .inr (.inr (.inr ⟨HNE'.out,HZ.out,y,c7,_,HR7.out,rfl,hC,rfl⟩)))⟩
   have H8:=h9
   have HK8:=hK9
   have HG8:=hG9w
   have HNM:=hnm7
   clear a9 in9 ty9 in8 ty8 hin7 hty7 b8 b9 bx7 bx8 bx9 h7 h8 h9 hB8 hG7 hG8w hGx hK7 hK8 hK9 HR7 HY7 HV8 HSZ HCW hG7w hG9w k18 f18 k1 k0 hzb hbx hGV hV HNE' HZ hGd hK
  case' neg =>
   have hlb:((L.length:Int) == 0)=false:=by
    have:L.length≠0:=fun e=>hne (qF e)
    simp
    omega
   have k1:=hbx.boxed
   obtain⟨c7,hc7⟩:∃c7,c7=c:=⟨_,rfl⟩
   have HCALL:∃v8,BlkIs V w.heap.size 127 #[v8]/\ComCall W0 d f l many fr pg z (fun x s' S'=>CmRes fr pg P room s S c z w.heap.size x s' S' (cleanIf x c7)) v8 V.drew :=
    ⟨_,hbx,com_call (FhIs.grow hV.fh (Below.refl _ _).drew) hO hl hS hp hi hpl hm hmax hP hP2 z hNx (by omega) (HA.grow (Below.refl _ _).drew) (by omega) (by omega) _ (fun x s' S' hC=>by rw[hc7];exact HRS.out x s' S' hC hne)⟩
   have H8:CsIs W0 d f l a r many P fr pg room s S c7 V:=by rw[hc7];exact hV
   have HNM:∀k,caMu a r c7.V k->caMu a r c.V k∨w.heap.size<=k:=fun k hk=>by rw[hc7] at hk;exact .inl hk
   have HK8:=hK
   have HG8:=hGV
   clear hc7 hne HRS HNL HA hLp
   gi_wp2_with fail
  all_goals
   obtain⟨v8,BX8,HC8⟩:=HCALL
   unfold ComCall at HC8
   have kb8:=BX8.boxed
   have k08:_=some (Value.pointer (some ⟨f,0,none⟩)):=(H8.ca.cb.cell 0).trans rfl
   have h8d:=CfIs.grow H8 (Below.refl _ _).drew
   have bx8d:=BX8.below (Below.refl _ _).drew BX8.lt
   have hsz8:=HG8.size
   have hnD8:=CfIs.notDf h8d HK8
   refine wpIn_wide.2 ?_
   refine wp_region_noPanic ?_
   refine RegF.start (fun W:World=>W.cell? ⟨a,0,none⟩=some (.pointer (some ⟨f,0,none⟩))/\W.cell? ⟨w.heap.size,0,none⟩=some v8) 99 (by kernel_rfl) ?_
   refine RegF.t0 0 (.pointer (some ⟨a,0,none⟩)) rfl ⟨k08,kb8⟩ (fun W ⟨e0,e1⟩=>by go_simp) ?_
   simp only[zD,zB,Act.put,zA,zF,zE]
   refine RegF.t0 1 (.pointer (some ⟨a,0,none⟩)) rfl ⟨k08,kb8⟩ (fun W ⟨e0,e1⟩=>by go_simp) ?_
   simp only[zD,zC,zB,Act.put,zA,zF,zE]
   refine RegF.t0 2 (.pointer (some ⟨a,0,none⟩)) rfl ⟨k08,kb8⟩ (fun W ⟨e0,e1⟩=>by go_simp) ?_
   simp only[zD,zC,zB,Act.put,zA,zF,zE]
   refine RegF.t0 3 (.pointer (some ⟨f,0,none⟩)) rfl ⟨k08,kb8⟩ (fun W ⟨e0,e1⟩=>by go_simp) ?_
   simp only[zD,zC,zB,Act.put,zA,zF,zE]
   refine RegF.t0 4 (.int .i64 z) rfl ⟨k08,kb8⟩ (fun W ⟨e0,e1⟩=>by go_simp) ?_
   simp only[zD,zC,zB,Act.put,zA,zF,zE]
   refine RegF.t0 5 (v8) rfl ⟨k08,kb8⟩ (fun W ⟨e0,e1⟩=>by go_simp) ?_
   simp only[zD,zC,zB,Act.put,zA,zF,zE]
   refine RegF.one 6 (by kernel_rfl) ?_
   refine RegF.opC 70 #[.tmp 50,.tmp 51,.tmp 52] #[31,3,127] rfl rfl rfl (enters_of Tryz.func70 (by kernel_rfl) rfl) #[.pointer (some ⟨f,0,none⟩),.int .i64 z,v8] (by simp only[zJ,zK,zL];rfl) (HC8.mono ?_)
   rintro e w9 ⟨x,s9,S9,rfl,HRES,nz9,y59,hF9,hG9⟩
   have h9:=CfIs.turnF h8d hG9 hF9 nz9 y59
   have bx9:=hG9.blk bx8d (h8d.fh.ne bx8d (by decide) (by decide))
   have kb9:=bx9.boxed
   have k09:_=some (Value.pointer (some ⟨f,0,none⟩)):=(h9.ca.cb.cell 0).trans rfl
   have hDl8:=(zH.1 HK8).1
   have hK9:=(hG9.block D hDl8 (fun e=>hnD8.1 (e.elim .inl (fun e => .inr (.inl e))))).trans HK8
   have hG9w:=(HG8.trans (GrowBut.below (Below.refl _ _).drew)).trans (hG9.more (Nu:=fun k=>sysMu d l a r c.V k∨w.heap.size<=k) (fun k e _ => .inl (e.elim .inl (fun e => .inr (.inl e)))))
   clear H8 h8d BX8 bx8d kb8 HC8 HK8 HG8 hnD8 hF9 nz9 y59 hG9 bx9 k08 hDl8
   refine⟨_,rfl,fun _=>⟨k09,kb9⟩,?_⟩
   simp only[zD,zC,zB,Act.put,zA,zF,zE]
   refine RegF.one 7 (by kernel_rfl) (RegF.opV (w':=w9) (.int .i64 x) rfl rfl (by go_simp) ⟨fun _=>⟨k09,kb9⟩,RegF.done (by kernel_rfl) ?_⟩)
   simp only[zD,zC,zB,Act.put,zA,zF,zE]
   simp only[NoPanic]
   have hs9:=hG9w.size
   have hDl9:=(zH.1 hK9).1
   by_cases hx:x=0
   ·have hxb:(x == 0)=true:=by rw[hx];rfl
    have HX:=Lib.hid hx
    clear hx
    obtain⟨es,clock,hmi,he,hst⟩:=h9.ca.mp
    have k39:w9.cell? ⟨a,3,none⟩=some (.map (some r)):=(h9.ca.cb.cell 3).trans rfl
    have hcl:∀x∈es.toList,x.born<clock:=((MapKept.stamped_iff es clock).1 hst).1
    have hrl:=hmi.lt
    obtain⟨W10,hW10⟩:∃W10,W10=w9.alloc (.mapIter (some r) clock #[] clock):=⟨_,rfl⟩
    have hB10:Below w9.heap.size w9 W10:=by rw[hW10];exact(Below.refl _ _).alloc (zG _) _
    have at0:CleanAt w9 w9.heap.size r clock es a f P room c7.now c7.hh c7.mm c7.V #[] (fun _=>false) W10:=⟨⟨clock,by rw[hW10];exact heap_alloc_new w9 _,zG _⟩,SeenIs.start es,by rw[cleanTo_start];exact h9.ca.below hB10,hmi.below hB10 hrl,GrowBut.below hB10,by rw[hW10];simp⟩
    have HW10:=Lib.hid hW10.symm
    clear hW10 hB10 k09 kb9
    gi_wp2_with (refine wpV_exec rfl (x_range hmi Tryz.underlying111 rfl rfl) ?_;rw[HW10.out])
    simp only[Act.put,zA,zF,zE]
    gi_loopw [61] (fun _ wr=>∃seen pd,CleanAt w9 w9.heap.size r clock es a f P room c7.now c7.hh c7.mm c7.V seen pd wr) (fun _ wr=>wr.rangeLeft r w9.heap.size)
    case atStart=>exact⟨_,_,at0⟩
    case round =>
     obtain⟨seen,pd,hA⟩:=hrel
     rcases iterV 0 hA.it hA.mp he hst hcl (zG _) hrl hA.sz hA.sn with⟨hall,hrun⟩|⟨k,xv,b,w4,hk,hpk,hrun,hit4,hB4',hdec,hent,hsn4⟩
     ·have hcm:=cleanTo_fin hall
      have hca:=hA.ca
      rw[hcm] at hca
      have hgb:=hA.gb
      have hKr:wr.heap[D]? = some (.deferred (some [])):=(hgb.block D hDl9 (fun e=>(CfIs.notDf h9 hK9).1 (.inr (.inr e)))).trans hK9
      have hfin:=CfIs.turn h9 hgb hca (fun k hk => .inl (caMu_clean k hk))
      clear hcm hall
      gi_wp2_with (refine wpV_exec rfl (x_next hrun rfl) ?_)
      refine⟨by simp,.inl ⟨D,_,rfl,run_takeDeferred hKr,?_⟩⟩
      obtain⟨t1,t2⟩:=CfIs.taken hfin hKr (by omega) (.deferred none)
      have hgall:=(hG9w.trans (hgb.more (Nu:=fun k=>sysMu d l a r c.V k∨w.heap.size<=k) (fun k e _=>(HNM k e).elim (fun e => .inl (.inr (.inr e))) .inr))).trans (t2.more (fun k e _ => .inr (by omega)))
      have hce:cleanIf x c7=⟨c7.now,c7.hh,c7.mm,cleanV c7.V⟩:=by unfold cleanIf;rw[if_pos HX.out]
      exact⟨_,results_tmp rfl _ _ _,x,s9,S9,cleanIf x c7,rfl,HRES,by rw[hce];exact t1,hgall.more (fun k e hk=>e.elim id (fun e=>by omega))⟩
     ·obtain⟨v,hv,rfl⟩:=ptrV_ptr hk
      have hvb:=(h9.ca.rows k v hv).blk.lt
      obtain⟨hca4,hgb4⟩:=hA.iter h9.ca hB4'
      obtain⟨hA5,hrl5⟩:=hA.next hv hpk hvb hrl hit4 hB4' (.inr trivial) hsn4 hca4 hgb4
      have hr4:=hca4.rows k v (cleanTo_not hv hpk)
      have k24:w4.cell? ⟨v.b,2,none⟩=some (.bool v.d):=(hr4.blk.cell 2).trans rfl
      have f24:=hr4.blk.free 2
      have hd5:(w4.setCell ⟨v.b,2,none⟩ (.bool false)).rangeLeft r w9.heap.size<wr.rangeLeft r w9.heap.size:=by rw[hrl5];exact hdec
      have HA5:Hid (∃seen pd,CleanAt w9 w9.heap.size r clock es a f P room c7.now c7.hh c7.mm c7.V seen pd (w4.setCell ⟨v.b,2,none⟩ (.bool false))):=Lib.hid ⟨_,_,hA5⟩
      clear hca4 hgb4 hA5 hrl5 hr4 hA
      gi_wp2_with (first
       | (refine wpV_exec rfl (x_next hrun rfl) ?_)
       | (refine wpV_exec rfl (x_entry hent rfl) ?_))
      go_roundw
      case rel=>exact HA5.out
      case measure=>exact hd5
   ·have hxb:(x == 0)=false:=by simpa using hx
    have hce:cleanIf x c7=c7:=by unfold cleanIf;rw[if_neg hx]
    have HCE:=Lib.hid hce
    clear hce hx
    gi_wp2
    refine⟨by simp,.inl ⟨D,_,rfl,run_takeDeferred hK9,?_⟩⟩
    obtain⟨t1,t2⟩:=CfIs.taken h9 hK9 (by omega) (.deferred none)
    exact⟨_,results_tmp rfl _ _ _,x,s9,S9,cleanIf x c7,rfl,HRES,by rw[HCE.out];exact t1,(hG9w.trans (t2.more (fun k e _ => .inr (by omega)))).more (fun k e hk=>e.elim id (fun e=>by omega))⟩
 case stop =>
  rintro D c pre U V _ _ h _
  exact h.elim
end
end Go.Proofs.YtnlimngkagmjpaaGreat
namespace Go.Proofs.YtnlimngkagmjpaaGreat
open Go Go.RowKit Lou
def dropTo (pd:Int->Bool)(V:RowsV):RowsV:=fun k=>match V k with|some v=>if pd k && v.d then none else some v|none=>none
def dropV (V:RowsV):RowsV:=fun k=>match V k with|some v=>if v.d then none else some v|none=>none
theorem dropTo_start (V:RowsV):dropTo (fun _=>false) V=V:=by
 funext k
 unfold dropTo
 cases V k<;>rfl
theorem dropTo_of {pd:Int->Bool}{V:RowsV}{k:Int}{v:RowV}(h:dropTo pd V k=some v):V k=some v/\(pd k=true->v.d=false):=by
 unfold dropTo at h
 cases hv:V k with
 | none=>rw[hv] at h;cases h
 | some u =>
  rw[hv] at h
  simp only at h
  split at h
  ·cases h
  ·rename_i hn
   injection h with h
   subst h
   refine⟨rfl,fun hp => ?_⟩
   cases hd:u.d with
   | false=>rfl
   | true=>exact absurd (by simp[hp,hd]) hn
theorem dropTo_keep {pd:Int->Bool}{V:RowsV}{k:Int}{v:RowV}(h:V k=some v)(hd:v.d=false):dropTo (pdPush pd k) V=dropTo pd V:=by
 funext j
 unfold dropTo
 by_cases e:j=k
 ·subst e
  rw[h]
  simp[hd]
 ·rw[pdPush_ne e]
theorem dropTo_del {pd:Int->Bool}{V:RowsV}{k:Int}{v:RowV}(h:V k=some v)(hd:v.d=true):dropTo (pdPush pd k) V=updV (dropTo pd V) k none:=by
 funext j
 unfold dropTo updV
 by_cases e:j=k
 ·subst e
  rw[if_pos rfl,h,pdPush_self]
  simp[hd]
 ·rw[if_neg e,pdPush_ne e]
theorem dropTo_fin {pd:Int->Bool}{V:RowsV}(h:∀k x,ptrV (dropTo pd V) k=some x->pd k=true):dropTo pd V=dropV V:=by
 funext k
 cases hv:V k with
 | none=>unfold dropTo dropV;rw[hv]
 | some v =>
  cases hd:v.d with
  | false=>unfold dropTo dropV;rw[hv];simp[hd]
  | true =>
   cases hp:pd k with
   | true=>unfold dropTo dropV;rw[hv];simp[hd,hp]
   | false =>
    have h1:dropTo pd V k=some v:=by unfold dropTo;rw[hv];simp[hp]
    have:=h k _ (ptrV_some h1)
    rw[hp] at this
    cases this
theorem dropV_of {V:RowsV}{k:Int}{v:RowV}(h:dropV V k=some v):V k=some v/\v.d=false:=by
 unfold dropV at h
 cases hv:V k with
 | none=>rw[hv] at h;cases h
 | some u =>
  rw[hv] at h
  simp only at h
  split at h
  ·cases h
  ·rename_i hn
   injection h with h
   subst h
   exact⟨rfl,by simpa using hn⟩
theorem caMu_sub {a r:Nat}{V V':RowsV}(h:∀k v,V' k=some v->V k=some v):∀k,caMu a r V' k->caMu a r V k:=fun k hk=>by
 rcases hk with hk|hk|⟨j,u,hu,e⟩
 ·exact .inl hk
 ·exact .inr (.inl hk)
 ·exact .inr (.inr ⟨j,u,h j u hu,e⟩)
structure DropAt (W9:World)(h r clock:Nat)(a f P:Nat)(room now hh mm:Int)(V:RowsV)(es:Array MapEntry)(seen:Array Nat)(pd:Int->Bool)(W:World):Prop where
 it:IterAt W h r clock seen
 sn:SeenIs es seen pd
 mp:MapIs W r es clock
 ev:EnV es (ptrV (dropTo pd V))
 st:MapKept.Stamped es clock
 ca:CaIs W a f r P room now hh mm (dropTo pd V)
 gb:GrowBut (caMu a r V) W9 W
 sz:h<W.heap.size
theorem DropAt.iter {W9 w w4:World}{r clock:Nat}{es:Array MapEntry}{a f P:Nat}{room now hh mm:Int}{V:RowsV}{seen:Array Nat}{pd:Int->Bool}(hc:DropAt W9 W9.heap.size r clock a f P room now hh mm V es seen pd w)(h9:CaIs W9 a f r P room now hh mm V)(hB:Below W9.heap.size w w4):CaIs w4 a f r P room now hh mm (dropTo pd V)/\GrowBut (caMu a r V) W9 w4:=by
 refine⟨hc.ca.belowN hB (fun k hk=>h9.lts k (caMu_sub (fun k v h=>(dropTo_of h).1) k hk)) (fun k v hv g o e h0 => ?_),⟨hB.os.trans hc.gb.os,hB.tape.trans hc.gb.tape,hB.output.trans hc.gb.output,zP hc.gb.size hB.size,fun i hi hn=>(hB.block i hi).trans (hc.gb.block i hi hn)⟩⟩
 have hb:=(h9.rows k v (dropTo_of hv).1).bys
 obtain⟨g',o',e',hg,_⟩:=hb.lies h0
 rw[e'] at e
 injection e with e
 injection e with e1 e2
 omega
theorem leftSize {w:World}{m r clock since:Nat}{es:Array MapEntry}{seen:Array Nat}(hm:MapIs w m es clock)(hi:IterAt w r m since seen):w.rangeLeft m r=(leftOf es seen).size:=by
 obtain⟨c0,h1,_⟩:=hi
 have h2:w.heap[m]? = some (.map es clock):=hm
 unfold World.rangeLeft
 rw[h2,h1]
theorem dirtyQ_gives {W:World}{v:RowV}(k:Int)(hb:BlkIs W v.b 126 (rowC v)):Calls Tryz.prog 84 #[.int .i64 k,.pointer (some ⟨v.b,0,none⟩)] W fun e w'=>e = .returned (.bool v.d)/\W=w':=by
 have k2:W.cell? ⟨v.b,2,none⟩=some (.bool v.d):=by rw[hb.cell];rfl
 go_enter Tryz.func84,Tryz.ntmps84
 go_wp2
 go_ret
 exact⟨rfl,rfl⟩
section
variable {w:World}{a f r P:Nat}{room now hh mm:Int}{V:RowsV}
theorem opDel2 {ops:Array Oper}{Q:Exit->Act->World->Prop}{ac:Act}{w:World}{r clock:Nat}{k:Int}{es:Array MapEntry}{f:Int->Option Value}{x y:Operand}{o:Oper}{rest:List Oper}(hg:o.guard=none)(hop:o.op = .call { callee:=.builtin .delete,args:=#[x,y],argTypes:=#[111,3] })(h1:ac.eval x = .map (some r))(h2:ac.eval y = .int .i64 k)(he:EnV es f)(hst:MapKept.Stamped es clock)(hm:MapIs w r es clock)
  (h:∀es',EnV es' (fsetV f k none)->MapKept.Stamped es' clock->es'.toList.Sublist es.toList->wpList Tryz.prog ops Q rest (ac.put o.dst (.tuple #[])) (setMap w r es' clock)):wpList Tryz.prog ops Q (o::rest) ac w:=by
 obtain⟨es',hr,he',hs',hsub⟩:=x_delT2 (ρ:=ac.eval) (o:=o) Tryz.underlying111 he hst hm hop h1 h2
 exact wp_exec hg hr (h es' he' hs' hsub)
theorem delFunc_gives (h:CaIs w a f r P room now hh mm V) :
  Calls Tryz.prog 83 #[.map (some r),.func (.func 84) #[] #[]] w fun e w'=>(∃v,e = .returned v)/\CaIs w' a f r P room now hh mm (dropV V)/\GrowBut (caMu a r V) w w':=by
 obtain⟨es,clock,hmi,he,hst⟩:=h.mp
 have hrl:=hmi.lt
 obtain⟨W1,hW1⟩:∃W1,W1=w.alloc (.mapIter (some r) clock #[] clock):=⟨_,rfl⟩
 have hB1:Below w.heap.size w W1:=by rw[hW1];exact(Below.refl _ _).alloc (zG _) _
 have at0:DropAt w w.heap.size r clock a f P room now hh mm V es #[] (fun _=>false) W1:=⟨⟨clock,by rw[hW1];exact heap_alloc_new w _,zG _⟩,SeenIs.start es,hmi.below hB1 hrl,by rw[dropTo_start];exact he,hst,by rw[dropTo_start];exact h.below hB1,GrowBut.below hB1,by rw[hW1];simp⟩
 have HW1:=Lib.hid hW1.symm
 clear hW1 hB1
 go_enter Tryz.func83,Tryz.ntmps83
 go_wp2_with (refine wp_exec rfl (x_range hmi Tryz.underlying111 rfl rfl) ?_;rw[HW1.out])
 simp only[Act.put,zA,zF,zE]
 go_loopw [8] (fun _ wr=>∃es seen pd,DropAt w w.heap.size r clock a f P room now hh mm V es seen pd wr) (fun _ wr=>wr.rangeLeft r w.heap.size)
 case atStart=>exact⟨_,_,_,at0⟩
 case round =>
  clear hmi he hst at0 es
  obtain⟨es,seen,pd,hA⟩:=hrel
  have hcl:∀x∈es.toList,x.born<clock:=((MapKept.stamped_iff es clock).1 hA.st).1
  rcases iterV 0 hA.it hA.mp hA.ev hA.st hcl (zG _) hrl hA.sz hA.sn with⟨hall,hrun⟩|⟨k,xv,b,w4,hk,hpk,hrun,hit4,hB4,hdec,hent,hsn4⟩
  ·have hca:=hA.ca
   rw[dropTo_fin hall] at hca
   have hgb:=hA.gb
   clear hall
   go_wp2_with (refine wp_exec rfl (x_next hrun rfl) ?_)
   go_end0
   exact⟨⟨_,rfl⟩,hca,hgb⟩
  ·obtain⟨v,hv,rfl⟩:=ptrV_ptr hk
   obtain⟨hv0,_⟩:=dropTo_of hv
   obtain⟨hca4,hgb4⟩:=hA.iter h hB4
   have hm4:=hA.mp.below hB4 hrl
   have hev:=hA.ev
   have hsz:=hA.sz
   have hst:=hA.st
   have hQ:=dirtyQ_gives k (hca4.rows k v hv).blk
   have hl4:=leftSize hm4 hit4
   cases hd:v.d with
   | false =>
    rw[hd] at hQ
    have hkp:=dropTo_keep (pd:=pd) hv0 hd
    have at4:DropAt w w.heap.size r clock a f P room now hh mm V es (seen.push b) (pdPush pd k) w4:=⟨hit4,hsn4,hm4,by rw[hkp];exact hev,hst,by rw[hkp];exact hca4,hgb4,zO hsz hB4.size⟩
    clear hkp hd hA hev hst hca4 hgb4 hm4 hl4
    go_wp2_with (first
     | (refine wp_exec rfl (x_next hrun rfl) ?_)
     | (refine wp_exec rfl (x_entry hent rfl) ?_)
     | (refine hQ.mono ?_;rintro e w' ⟨rfl,rfl⟩))
    exact⟨⟨_,_,_,at4⟩,hdec⟩
   | true =>
    rw[hd] at hQ
    have hdl:=dropTo_del (pd:=pd) hv0 hd
    have HDL:=Lib.hid hdl
    have HHD:=Lib.hid hd
    have hs4:w.heap.size<w4.heap.size:=zO hsz hB4.size
    have hfin:∀es',EnV es' (fsetV (ptrV (dropTo pd V)) k none)->MapKept.Stamped es' clock->es'.toList.Sublist es.toList->(∃es seen pd,DropAt w w.heap.size r clock a f P room now hh mm V es seen pd (setMap w4 r es' clock))/\(setMap w4 r es' clock).rangeLeft r w.heap.size<wr.rangeLeft r w.heap.size:=fun es' he' hs' hsub=>by
     obtain⟨hc5,hg5⟩:=hca4.del k hm4 es' clock he' hs'
     have hm5:=hm4.set es' clock
     have e1:=hg5.block w.heap.size hs4 (by omega)
     have hi5:=hit4.keep e1
     have hsn5:=hsn4.sub (fun x hx=>hsub.subset hx)
     refine⟨⟨es',seen.push b,pdPush pd k,hi5,hsn5,hm5,by rw[HDL.out,ptrV_upd];exact he',hs',by rw[HDL.out];exact hc5,hgb4.trans (hg5.more (fun j e _ => .inr (.inl e))),zO hs4 hg5.size⟩,?_⟩
     rw[leftSize hm5 hi5]
     have:=leftOf_sub (seen.push b) hsub
     omega
    clear hdl hd hA hca4 hgb4 hl4
    go_wp2_with (first
     | (refine wp_exec rfl (x_next hrun rfl) ?_)
     | (refine wp_exec rfl (x_entry hent rfl) ?_)
     | (refine opDel2 rfl rfl rfl rfl hev hst hm4 ?_;intro es' he' hs' hsub;have HF:=Lib.hid (hfin es' he' hs' hsub);simp only[Act.put])
     | (refine hQ.mono ?_;rintro e w' ⟨rfl,rfl⟩))
    exact HF.out
theorem cdrop_gives (h:CaIs w a f r P room now hh mm V):Calls Tryz.prog 50 #[.pointer (some ⟨a,0,none⟩)] w fun e w'=>e = .returned (.int .i64 0)/\CaIs w' a f r P room now hh mm (dropV V)/\GrowBut (caMu a r V) w w':=by
 have HN:=cnone_gives h.cb
 have HD:=delFunc_gives h
 have k3:w.cell? ⟨a,3,none⟩=some (.map (some r)):=(h.cb.cell _).trans rfl
 go_enter Tryz.func50,Tryz.ntmps50
 go_wp2_with (first
  | (go_at_call 65;refine HN.mono ?_;rintro e w' ⟨rfl,rfl⟩)
  | (go_at_call 83;refine HD.mono ?_;rintro e w2 ⟨⟨v,rfl⟩,hC,hG⟩))
 go_ret
 exact⟨rfl,hC,hG⟩
end
theorem rowsR_upd (V:RowsV)(k:Int)(v:RowV):rowsR (updV V k (some v))=rowsPut (rowsR V) k (v.y,v.d):=by
 funext j
 unfold rowsR updV rowsPut
 split<;>rfl
theorem rowsR_none {V:RowsV}{k:Int}(h:V k=none):rowsR V k=none:=by unfold rowsR;rw[h];rfl
theorem rowsR_some {V:RowsV}{k:Int}{v:RowV}(h:V k=some v):rowsR V k=some (v.y,v.d):=by unfold rowsR;rw[h];rfl
theorem MadeRoom.cut {P:Nat}{room:Int}{V V1:RowsV}(h:MadeRoom P room V V1):RowsCut (rowsR V) (rowsR V1):=by
 rcases h with⟨_,rfl⟩|⟨_,k0,v0,h1,h2,_,rfl⟩
 ·exact .inl rfl
 ·refine .inr ⟨k0,v0.y,by rw[rowsR_some h1,h2],?_⟩
  funext j
  unfold rowsR updV
  split<;>rfl
theorem RowsCut.none {R R':RowsC}(hc:RowsCut R R'){p:Int}(h:R p=none):R' p=none:=by
 rcases hc with rfl|⟨k,c,_,rfl⟩
 ·exact h
 ·simp only
  split
  ·rfl
  ·exact h
def FullV (V:RowsV):Prop:=∀k v,V k=some v->v.y.length=512
theorem RowsOk.full {P:Nat}{Y:Nat->List UInt8}{V:RowsV}(h:RowsOk P Y (rowsR V)):FullV V:=fun k v hv=>(h k v.y v.d (rowsR_some hv)).2.1
theorem DirtySame.symm {R1 R2:RowsC}(h:DirtySame R1 R2):DirtySame R2 R1:=fun p b=>(h p b).symm
section
variable {fr pg room:Int}{P:Nat}{G:Nat->List UInt8}{S:LgS}{c c':CaSt}{i:Nat}
theorem RdP.plain {p:Int}{sz:Nat}{x:Int ⊕ List UInt8}(hY:∀q,(fileY G fr S q).length=512)(hP:(P:Int)=pg)(hR:RowsOk P (fileY G fr S) (rowsR c.V))(h:RdP P room c p (fileR fr pg ⟨G,[],0,false⟩ S p) sz x c') :
  RowsOk P (fileY G fr S) (rowsR c'.V)/\DirtySame (rowsR c'.V) (rowsR c.V)/\∀y,x = .inr y->(0<=p/\p<(P:Int))/\y=viewC (fileY G fr S) (rowsR c.V) p.toNat:=by
 rcases h with⟨v,h1,rfl,rfl⟩|⟨h1,er,h2,rfl,rfl⟩|⟨h1,y,h2,h3,rfl,rfl⟩|⟨h1,y,V1,b,A1,c1,h2,h3,h4,rfl,rfl⟩
 ·have hs:rowsR (updV c.V p (some { v with at_:=c.now+1 }))=rowsR c.V:=by
   rw[rowsR_upd]
   funext j
   unfold rowsPut
   split
   ·rename_i e
    rw[e,rowsR_some h1]
   ·rfl
  simp only[hs]
  have hk:=hR p v.y v.d (rowsR_some h1)
  refine⟨hR,fun _ _=>Iff.rfl,fun y e=>⟨hk.1,?_⟩⟩
  injection e with e
  subst e
  have e1:((p.toNat:Nat):Int)=p:=by omega
  have:=hR.view (p:=p.toNat) (b:=v.y) (d:=v.d) (by rw[e1];exact rowsR_some h1)
  exact this.symm
 ·exact⟨hR,fun _ _=>Iff.rfl,fun y e=>by cases e⟩
 ·exact⟨hR,fun _ _=>Iff.rfl,fun y e=>by cases e⟩
 ·have hcut:=h3.cut
  have hn:=hcut.none (rowsR_none h1)
  have hin:(0<=p/\p<pg)/\y=fileY G fr S p.toNat:=by
   by_cases hp:p<0∨pg<=p
   ·rw[fileR_out hp] at h2;cases h2
   ·rw[fileR_in rfl (by omega)] at h2
    injection h2 with h2
    exact⟨by omega,h2.symm⟩
  have hpP:0<=p/\p<(P:Int):=by omega
  simp only[rowsR_upd]
  refine⟨(hcut.ok hR).put hpP (by rw[hin.2];exact hY _) (fun _=>hin.2),fun q b => ?_,fun z e=>⟨hpP,?_⟩⟩
  ·exact(put_clean (fun b e=>by rw[hn] at e;cases e) q b).trans (hcut.dirty q b)
  ·injection e with e
   subst e
   rw[hin.2]
   unfold viewC
   have e1:((p.toNat:Nat):Int)=p:=by omega
   rw[e1,rowsR_none h1]
def WrP (P:Nat)(room pg:Int)(c:CaSt)(page:Int)(y:List UInt8)(sz:Nat)(x:Int)(c':CaSt):Prop :=
 ((page<0∨pg<=page)/\x=4/\c'=c)∨((0<=page/\page<pg)/\c.V page=none/\NoRoom P room c.V/\x=160/\c'=c) ∨
 ((0<=page/\page<pg)/\∃V1 b A1 c1,Took P room c.V V1 page b sz/\x=0/\c'=⟨c.now+1,c.hh,c.mm,updV V1 page (some ⟨b,c.now+1,A1,c1,y,true⟩)⟩)
theorem Took.cut {P:Nat}{room:Int}{V V1:RowsV}{page:Int}{b sz:Nat}(h:Took P room V V1 page b sz):RowsCut (rowsR V) (rowsR V1):=by
 rcases h with⟨v,_,_,rfl⟩|⟨_,h,_⟩
 ·exact .inl rfl
 ·exact h.cut
theorem WrP.plain {p:Int}{y:List UInt8}{sz:Nat}{x:Int}(hy:y.length=512)(hP:(P:Int)=pg)(hR:RowsOk P (fileY G fr S) (rowsR c.V))(h:WrP P room pg c p y sz x c') :
  RowsOk P (fileY G fr S) (rowsR c'.V)/\((x=0/\DirtySame (rowsR c'.V) (rowsPut (rowsR c.V) p (y,true)))∨(¬ x=0/\c'=c)):=by
 rcases h with⟨_,rfl,rfl⟩|⟨_,_,_,rfl,rfl⟩|⟨hp,V1,b,A1,c1,h1,rfl,rfl⟩
 ·exact⟨hR,.inr ⟨by decide,rfl⟩⟩
 ·exact⟨hR,.inr ⟨by decide,rfl⟩⟩
 ·have hcut:=h1.cut
  simp only[rowsR_upd]
  refine⟨(hcut.ok hR).put (by omega) hy (fun e=>by cases e),.inl ⟨trivial,fun q b => ?_⟩⟩
  unfold rowsPut
  split
  ·exact Iff.rfl
  ·exact hcut.dirty q b
theorem WrP.ok {p:Int}{y:List UInt8}{sz N:Nat}{x:Int}(h:WrP P room pg c p y sz x c')(hc:c.Ok N):c'.Ok (N+1):=by
 obtain⟨h1,h2,h3⟩:=hc
 rcases h with⟨_,rfl,rfl⟩|⟨_,_,_,rfl,rfl⟩|⟨hp,V1,b,A1,c1,_,rfl,rfl⟩
 all_goals exact⟨by first|omega|(simp only;omega),by first|omega|(simp only;omega),by first|omega|(simp only;omega)⟩
theorem WrP.names {p:Int}{y:List UInt8}{n:Nat}{x:Int}{a r:Nat}(h:WrP P room pg c p y n x c'):∀k,caMu a r c'.V k->caMu a r c.V k∨n<=k:=by
 rcases h with⟨_,rfl,rfl⟩|⟨_,_,_,rfl,rfl⟩|⟨hp,V1,b,A1,c1,h1,rfl,rfl⟩
 ·exact fun k hk => .inl hk
 ·exact fun k hk => .inl hk
 ·rcases h1 with⟨v,h2,h3,rfl⟩|⟨h2,h3,h4⟩
  ·exact caMu_upd (fun k u h=>h) rfl (.inl ⟨v,h2,h3⟩)
  ·exact caMu_upd (fun k u h=>h3.sub h) rfl (.inr h4)
theorem dropV_plain (hR:RowsOk P (fileY G fr S) (rowsR c.V)):RowsOk P (fileY G fr S) (rowsR (dropV c.V))/\∀p b,¬ rowsR (dropV c.V) p=some (b,true):=by
 have key:∀p b d,rowsR (dropV c.V) p=some (b,d)->rowsR c.V p=some (b,d)/\d=false:=fun p b d h=>by
  unfold rowsR at h
  cases hv:dropV c.V p with
  | none=>rw[hv] at h;cases h
  | some v =>
   obtain⟨h1,h2⟩:=dropV_of hv
   rw[hv,Option.map_some] at h
   injection h with h
   injection h with h3 h4
   rw[rowsR_some h1,h3,h4]
   exact⟨rfl,by rw[<-h4,h2]⟩
 exact⟨fun p b d h=>hR p b d (key p b d h).1,fun p b h=>by have:=(key p b true h).2;cases this⟩
theorem lowB_inj {a b:Int}(h:lowB a=lowB b)(ha:0<=a/\a<=255)(hb:0<=b/\b<=255):a=b:=by
 have h1:=lowB_wrap a
 have h2:=lowB_wrap b
 rw[h,<-h2] at h1
 have e:∀z:Int,0<=z/\z<=255->IntKind.u8.wrap z=z:=fun z hz=>by
  show z % 256=z
  omega
 rw[e a ha,e b hb] at h1
 exact h1
theorem rowsR_clean (V:RowsV)(p:Int):rowsR (cleanV V) p=(rowsR V p).map fun x=>(x.1,false):=by
 unfold rowsR cleanV
 cases V p<;>rfl
theorem com_told {n:Nat}{xs:Nat->Int×Option Addr×Nat}{pw:Nat->Int×List UInt8}{z x:Int}{s':DS}{S':LgS}(hS:StP fr pg G S i)(hp:PgIn pg S)(hi:i<=900)(hpl:planOk fr pg=true)(hpg:pg<=200)(hx:∀k,k<n->(pw k).1=(xs k).1)(hy:∀k,k<n->(pw k).2.length=512)(hC:ComOut fr pg P ⟨G,[],0,false⟩ S n xs pw z x s' S') :
  ∃G',s'=⟨G',[],0,false⟩/\StP fr pg G' S' (i+2)/\PgIn pg S'/\comX fr pg z n pw x/\((x=0/\S'.sz=z/\∀p,p<P->fileY G' fr S' p=(lastPw pw (p:Int) n).getD (fileY G fr S p))∨(¬ x=0/\S'.sz=S.sz/\∀p,p<P->fileY G' fr S' p=fileY G fr S p)):=by
 obtain⟨G',rfl,hS',hp',hq⟩:=com_plain hS hp hi hpl hx hy hC
 obtain⟨hz1,hL1⟩:=hS.li
 obtain⟨hz2,hL2⟩:=hS'.li
 have hsz:=hS'.sz
 have hsz0:=hS.sz
 refine⟨G',rfl,hS',hp',comX_of hC hpl hx (by rcases hq with⟨a,b,_⟩|⟨a,b,_⟩;exact .inl ⟨a,b⟩;exact .inr ⟨a,b⟩),?_⟩
 rcases hq with⟨h1,h2,h3⟩|⟨h1,h2,h3⟩
 ·have h4:=tell_pages hL1.len hS.y hL2.len hS'.y hy h3
  exact .inl ⟨h1,lowB_inj h4.1 ⟨hsz.1,by omega⟩ ⟨h2.1.2.1,by have:=h2.1.2.2.1;omega⟩,h4.2⟩
 ·have h4:=toldF_inj (fun k=>fpY_len hL2.len hS'.y _ _) (fun k=>fpY_len hL1.len hS.y _ _) P h3
  exact .inr ⟨h1,lowB_inj h4.1 ⟨hsz.1,by omega⟩ ⟨hsz0.1,by omega⟩,h4.2⟩
def CmT (fr pg:Int)(P:Nat)(z:Int)(G:Nat->List UInt8)(S:LgS)(R:RowsC)(x:Int)(G':Nat->List UInt8)(S':LgS)(R':RowsC):Prop :=
 RowsOk P (fileY G' fr S') R' /\
 ((x=0/\S'.sz=z/\(∀p,p<P->fileY G' fr S' p=viewC (fileY G fr S) R p)/\∀p b,¬ R' p=some (b,true))∨(¬ x=0/\S'.sz=S.sz/\(∀p,p<P->fileY G' fr S' p=fileY G fr S p)/\DirtySame R' R)) /\
 ((dirtyL R P≠[]/\comX fr pg z (dirtyL R P).length (pwL (dirtyL R P)) x)∨(dirtyL R P=[]/\z=S.sz/\x=0)∨(dirtyL R P=[]/\¬ z=S.sz/\(x=160∨comX fr pg z 1 (pwL [(0,fileY G fr S 0)]) x)))
theorem clean_ok {Y Y':Nat->List UInt8}{V:RowsV}(hR:RowsOk P Y (rowsR V))(hY:∀p,p<P->Y' p=viewC Y (rowsR V) p):RowsOk P Y' (rowsR (cleanV V))/\∀p b,¬ rowsR (cleanV V) p=some (b,true):=by
 refine⟨fun p b d h => ?_,fun p b h => ?_⟩
 ·rw[rowsR_clean] at h
  cases hv:rowsR V p with
  | none=>rw[hv] at h;cases h
  | some u =>
   obtain⟨u1,u2⟩:=u
   rw[hv,Option.map_some] at h
   injection h with h
   injection h with h1 h2
   subst h1
   have hk:=hR p u1 u2 hv
   have e1:((p.toNat:Nat):Int)=p:=by omega
   refine⟨hk.1,hk.2.1,fun _ => ?_⟩
   rw[hY p.toNat (by omega)]
   exact(hR.view (p:=p.toNat) (b:=u1) (d:=u2) (by rw[e1];exact hv)).symm
 ·rw[rowsR_clean] at h
  cases hv:rowsR V p with
  | none=>rw[hv] at h;cases h
  | some u =>
   rw[hv,Option.map_some] at h
   injection h with h
   injection h with _ h2
   cases h2
theorem dirtyL_nil {R:RowsC}(h:dirtyL R P=[])(hR:∀p b,R p=some (b,true)->0<=p/\p<(P:Int)):∀p b,¬ R p=some (b,true):=fun p b e=>by
 have hp:=hR p b e
 have e1:((p.toNat:Nat):Int)=p:=by omega
 have:(p.toNat,b)∈dirtyL R P:=dirtyL_mem.2 ⟨by show p.toNat<P;omega,by show R ((p.toNat:Nat):Int)=_;rw[e1];exact e⟩
 rw[h] at this
 cases this
theorem viewC_none {Y:Nat->List UInt8}{R:RowsC}(h:∀p b,¬ R p=some (b,true))(p:Nat):viewC Y R p=Y p:=by
 unfold viewC
 split
 ·next b e=>exact absurd e (h _ b)
 ·rfl
theorem RowsOk.congr {Y Y':Nat->List UInt8}{R:RowsC}(h:RowsOk P Y R)(hY:∀p,p<P->Y' p=Y p):RowsOk P Y' R:=fun p b d e=>by
 obtain⟨h1,h2,h3⟩:=h p b d e
 exact⟨h1,h2,fun hd=>by rw[hY p.toNat (by omega)];exact h3 hd⟩
theorem CmRes.plain {z x:Int}{sz N:Nat}{s':DS}{S':LgS}(hS:StP fr pg G S i)(hp:PgIn pg S)(hi:i<=900)(hpl:planOk fr pg=true)(hpg:pg<=200)(hP:(P:Int)=pg)(hR:RowsOk P (fileY G fr S) (rowsR c.V))(hc:c.Ok N)(h:CmRes fr pg P room ⟨G,[],0,false⟩ S c z sz x s' S' c') :
  ∃G',s'=⟨G',[],0,false⟩/\StP fr pg G' S' (i+2)/\PgIn pg S'/\c'.Ok (N+1)/\CmT fr pg P z G S (rowsR c.V) x G' S' (rowsR c'.V):=by
 obtain⟨hz1,hL1⟩:=hS.li
 have hYl:∀q,(fileY G fr S q).length=512:=fun q=>fpY_len hL1.len hS.y _ _
 have hpr:=(planOk_iff fr pg).1 hpl
 have hdk:∀p b,rowsR c.V p=some (b,true)->0<=p/\p<(P:Int):=fun p b e=>(hR p b true e).1
 have okIf:∀{c1:CaSt},c1.Ok (N+1)->(cleanIf x c1).Ok (N+1):=fun {c1} h=>by
  unfold cleanIf
  split
  ·exact⟨h.now,h.hh,h.mm⟩
  ·exact h
 rcases h with⟨hne,xs,hx,hC,rfl⟩|⟨hL,hz,rfl,rfl,rfl,rfl⟩|⟨hL,hz,rfl,rfl,hRd⟩|⟨hL,hz,y,c1,xs,hRd,hx0,hC,rfl⟩
 ·have hy:∀k,k<(dirtyL (rowsR c.V) P).length->(pwL (dirtyL (rowsR c.V) P) k).2.length=512:=fun k hk=>by
   unfold pwL
   rw[zI hk]
   exact(hR _ _ _ (dirtyL_mem.1 (qJ hk)).2).2.1
  obtain⟨G',rfl,hS',hp',hX,hq⟩:=com_told hS hp hi hpl hpg hx hy hC
  refine⟨G',rfl,hS',hp',okIf (hc.more (by omega)),?_⟩
  rcases hq with⟨rfl,h1,h2⟩|⟨h0,h1,h2⟩
  ·have hv:∀p,p<P->fileY G' fr S' p=viewC (fileY G fr S) (rowsR c.V) p:=fun p hpP=>by
    rw[h2 p hpP,lastPw_dirty,if_pos hpP]
    unfold viewC
    cases rowsR c.V (p:Int) with
    | none=>rfl
    | some u =>
     obtain⟨b,d⟩:=u
     cases d<;>rfl
   have hcl:=clean_ok hR hv
   have e:(cleanIf 0 c).V=cleanV c.V:=rfl
   rw[e]
   exact⟨hcl.1,.inl ⟨rfl,h1,hv,hcl.2⟩,.inl ⟨hne,hX⟩⟩
  ·have e:cleanIf x c=c:=if_neg h0
   rw[e]
   exact⟨hR.congr h2,.inr ⟨h0,h1,h2,fun _ _=>Iff.rfl⟩,.inl ⟨hne,hX⟩⟩
 ·refine⟨G,rfl,⟨hS.li,by have:=hS.sr;omega,by have:=hS.ep;omega,hS.fs,hS.sz⟩,hp,hc.more (by omega),hR,.inl ⟨rfl,hz.symm,fun p _=>(viewC_none (dirtyL_nil hL hdk) p).symm,dirtyL_nil hL hdk⟩,.inr (.inl ⟨hL,hz,rfl⟩)⟩
 ·have hpl2:=hRd.plain hYl hP hR
  have hx160:x=160:=by
   rcases hRd with⟨v,_,e,_⟩|⟨_,er,h2,_,_⟩|⟨_,y,_,_,e,_⟩|⟨_,y,V1,b,A1,c1,_,_,_,e,_⟩
   ·cases e
   ·rw[fileR_in rfl (by omega)] at h2;cases h2
   ·injection e
   ·cases e
  subst hx160
  exact⟨G,rfl,⟨hS.li,by have:=hS.sr;omega,by have:=hS.ep;omega,hS.fs,hS.sz⟩,hp,hRd.ok hc,hpl2.1,.inr ⟨by decide,rfl,fun _ _=>rfl,hpl2.2.1⟩,.inr (.inr ⟨hL,hz,.inl rfl⟩)⟩
 ·have hpl2:=hRd.plain hYl hP hR
  have hnd:=dirtyL_nil hL hdk
  have hnd1:∀p b,¬ rowsR c1.V p=some (b,true):=fun p b e=>hnd p b ((hpl2.2.1 p b).1 e)
  have hy0:=(hpl2.2.2 y rfl).2
  rw[viewC_none hnd] at hy0
  replace hy0:y=fileY G fr S 0:=hy0
  subst hy0
  have hx:∀k,k<1->(pwL [(0,fileY G fr S 0)] k).1=(xs k).1:=fun k hk=>by
   obtain rfl:k=0:=by omega
   rw[hx0]
   rfl
  have hy:∀k,k<1->(pwL [(0,fileY G fr S 0)] k).2.length=512:=fun k hk=>by
   obtain rfl:k=0:=by omega
   exact hYl 0
  obtain⟨G',rfl,hS',hp',hX,hq⟩:=com_told hS hp hi hpl hpg hx hy hC
  refine⟨G',rfl,hS',hp',okIf (hRd.ok hc),?_⟩
  have hlast:∀p:Nat,(lastPw (pwL [(0,fileY G fr S 0)]) (p:Int) 1).getD (fileY G fr S p)=fileY G fr S p:=fun p=>by
   show ((if (((0:Nat):Int))=(p:Int) then some (fileY G fr S 0) else none).getD (fileY G fr S p))=_
   split
   ·rename_i e
    have:p=0:=by omega
    subst this
    rfl
   ·rfl
  rcases hq with⟨rfl,h1,h2⟩|⟨h0,h1,h2⟩
  ·have hv:∀p,p<P->fileY G' fr S' p=viewC (fileY G fr S) (rowsR c1.V) p:=fun p hpP=>by rw[h2 p hpP,hlast,viewC_none hnd1]
   have hcl:=clean_ok hpl2.1 hv
   have e:(cleanIf 0 c1).V=cleanV c1.V:=rfl
   rw[e]
   exact⟨hcl.1,.inl ⟨rfl,h1,fun p hpP=>by rw[h2 p hpP,hlast,viewC_none hnd],hcl.2⟩,.inr (.inr ⟨hL,hz,.inr hX⟩)⟩
  ·have e:cleanIf x c1=c1:=if_neg h0
   rw[e]
   exact⟨hpl2.1.congr h2,.inr ⟨h0,h1,h2,hpl2.2.1⟩,.inr (.inr ⟨hL,hz,.inr hX⟩)⟩
end
section
variable {fr pg:Int}{P:Nat}{G1 G2 G1' G2':Nat->List UInt8}{S1 S2 S1' S2':LgS}{R1 R2 R1' R2':RowsC}
end

def postS (S:Act->World->Prop):Exit->Act->World->Prop
 | .normal,a,w=>S a w
 | .ret,_,_=>False
 | .exit _,_,_=>False
 | .goto _,_,_=>False
 | .panic _,_,_=>False
 | .outgrown,_,_=>False
theorem wp_cutS {P:Program}{C:Code}{Q:Exit->Act->World->Prop}{a:Act}{w:World}(S:Act->World->Prop)(h1:C.wp P (postS S) a w)(h2:∀a w,S a w->Q .normal a w):C.wp P Q a w :=
 wp_mono h1 fun e a w h=>by
  cases e with
  | normal=>exact h2 a w h
  | _=>exact h.elim
section
variable {ρ:Operand->Value}{w:World}{o:Oper}{x y z:Operand}
end


theorem fopen_new2 {W0:World}(w:World)(d many:Nat)(fr pg:Int)(hup:Below W0.heap.size W0 w)(hd:W0.heap.size<=d)(hD:DkIs w d many (fun _=>zer64) [] 0 false)(hpl:planOk fr pg=true)(hm:(many:Int)=2+9*fr+8*pg)(hmax:many<=1000000) :
  Calls Tryz.prog 8 #[.pointer (some ⟨d,0,none⟩),.agg #[.int .i64 fr,.int .i64 pg]] w fun e w'=>∃f l,e = .returned (.tuple #[.pointer (some ⟨f,0,none⟩),.int .i64 0])/\FhIs W0 d f l many fr pg ⟨laid (fun _=>zer64) (wrL 1 (hEnc 1 1 0 0) 1),[],0,false⟩ ⟨1,1,0,[]⟩ w'/\w.heap.size<=f/\w.heap.size<=l:=by
 have hdl:=hD.lt
 have hB0:Below w.heap.size w (w.alloc (.cells #[.int .i64 fr,.int .i64 pg] 25)):=(Below.refl _ w).alloc (zG _) _
 have b0:=BlkIs.new w 25 #[.int .i64 fr,.int .i64 pg]
 have hs:=hup.size
 refine(fopenW_gives w d fr pg (fun l w2=>w.heap.size<=l/\DkIs w2 d many (laid (fun _=>zer64) (wrL 1 (hEnc 1 1 0 0) 1)) [] 0 false/\BlkIs w2 l 104 (lgC (some ⟨d,0,none⟩) fr pg 1 1 0 none 0 0)/\Below W0.heap.size W0 w2) ((open_newG _ fr pg d many 0 (hD.grow hB0) hpl hm hmax (by decide) (by decide)).mono ?_)).mono ?_
 ·rintro e w2 ⟨l,rfl,hl,hD2,hb2,hg2⟩
  refine⟨l,rfl,b0.grown hg2 (fun e=>by injection e with e;omega),by simp at hl;omega,hD2,hb2,(hup.trans (hB0.mono hs)).trans (grown_below hg2 (by simp;omega) (fun r e=>by injection e with e;rw[<-e];exact hd))⟩
 ·rintro e w' ⟨l,w2,rfl,⟨hl,hD2,hb2,hB2⟩,rfl⟩
  have ha:Below w2.heap.size w2 (w2.alloc (.cells (flFC l fr pg) 75)):=(Below.refl _ _).alloc (zG _) _
  exact⟨_,l,rfl,⟨hB2.trans (ha.mono hB2.size),hD2.grow ha,LogIs.grow ⟨by omega,none,0,[],hb2,FrsIs.mt _ _,rfl⟩ ha,BlkIs.new _ _ _,hd,by omega⟩,by have:=hb2.lt;omega,hl⟩
theorem LI.nz {G:Nat->List UInt8}{S:LgS}{hz:Nat}(h:LI G S hz):∃k,¬ G k=zer64:=⟨S.sr % 2,fun e=>by
 have h1:=isHead_headW (s:=S.sr) (e:=S.ep) (z:=hz) (c:=S.fs.length) h.on.sr h.on.ep h.on.hzl h.on.hn
 rw[<-h.on.hd,e,isHead_zer] at h1
 cases h1⟩
theorem StP.nz {fr pg:Int}{G:Nat->List UInt8}{S:LgS}{i:Nat}(h:StP fr pg G S i):∃k,¬ G k=zer64:=by
 obtain⟨hz,h⟩:=h.li
 exact h.nz
theorem cnew_bad (w:World)(f l d:Nat)(fr pg room:Int)(S:LgS)(hb:BlkIs w f 75 (flFC l fr pg))(hL:LogIs w l d fr pg S)(hr:¬ (2<=room/\room<=2000)) :
  Calls Tryz.prog 32 #[.pointer (some ⟨f,0,none⟩),.int .i64 room] w fun e w'=>e = .returned (.tuple #[.pointer none,.int .i64 2])/\w=w':=by
 have HD:=fdisk_gives hb hL
 by_cases h1:room<2
 ·go_enter Tryz.func32,Tryz.ntmps32
  go_wp2_with (go_at_call 62;refine HD.mono ?_;rintro e w' ⟨rfl,rfl⟩)
  exact bodyPost_ret (results_tmp2 rfl _ _ _) rfl ⟨rfl,rfl⟩
 ·have h2:2000<room:=by omega
  go_enter Tryz.func32,Tryz.ntmps32
  go_wp2_with (go_at_call 62;refine HD.mono ?_;rintro e w' ⟨rfl,rfl⟩)
  exact bodyPost_ret (results_tmp2 rfl _ _ _) rfl ⟨rfl,rfl⟩
def NewOut (W0:World)(d f l many P:Nat)(fr pg room:Int)(S:LgS)(s:DS)(W:World)(e:Ending)(w':World):Prop :=
 ((2<=room/\room<=2000)/\∃a r,e = .returned (.tuple #[.pointer (some ⟨a,0,none⟩),.int .i64 0])/\CsIs W0 d f l a r many P fr pg room s S ⟨0,0,0,fun _=>none⟩ w'/\(∀k,sysMu d l a r (fun _=>none) k->k=d∨k=l∨W.heap.size<=k)/\Below W.heap.size W w') ∨
 (¬ (2<=room/\room<=2000)/\e = .returned (.tuple #[.pointer none,.int .i64 2])/\W=w')
theorem cnew_out {W0 W:World}{d f l many P:Nat}{fr pg room:Int}{S:LgS}{s:DS}(h:FhIs W0 d f l many fr pg s S W)(hz:∃k,¬ s.g k=zer64)(hy:∀x∈S.fs,x.y.length=512) :
  Calls Tryz.prog 32 #[.pointer (some ⟨f,0,none⟩),.int .i64 room] W (NewOut W0 d f l many P fr pg room S s W):=by
 have hs:=h.up.size
 by_cases hr:2<=room/\room<=2000
 ·refine(cnew_gives W f l d P fr pg room S h.fb h.lg hr).mono ?_
  rintro e w' ⟨a,r,rfl,h1,h2,h3,h4⟩
  refine .inl ⟨hr,a,r,rfl,⟨h.grow h4,h3,fun k hk => ?_,hz,hy⟩,fun k hk => ?_,h4⟩
  ·rcases hk with rfl|rfl|⟨j,v,hv,_⟩
   ·omega
   ·omega
   ·cases hv
  ·rcases hk with e|e|e|e|⟨j,v,hv,_⟩
   ·exact .inl e
   ·exact .inr (.inl e)
   ·exact .inr (.inr (by rw[e];exact h1))
   ·exact .inr (.inr (by rw[e];exact h2))
   ·cases hv
 ·refine(cnew_bad W f l d fr pg room S h.fb h.lg hr).mono ?_
  rintro e w' ⟨rfl,rfl⟩
  exact .inr ⟨hr,rfl,rfl⟩
section
variable {W0 W:World}{d f l a r many P:Nat}{fr pg room:Int}{s:DS}{S:LgS}{c:CaSt}
theorem swrite_gives (h:CsIs W0 d f l a r many P fr pg room s S c W)(hc:c.Ok 900000)(hroom:2<=room)(hP:P<=1000)(hPg:(P:Int)=pg)(page:Int)(A:Option Addr)(k:Nat)(y:List UInt8)(hy:y.length=512)(hin:InB W W.heap.size A k y) :
  Calls Tryz.prog 34 #[.pointer (some ⟨a,0,none⟩),.int .i64 page,.slice A 512 k] W fun e w'=>∃x c',e = .returned (.int .i64 x)/\WrP P room pg c page y W.heap.size x c'/\CsIs W0 d f l a r many P fr pg room s S c' w'/\GrowBut (caMu a r c.V) W w':=by
 have hnow:=hc.now
 by_cases hp:page<0∨pg<=page
 ·refine(cwrite_range W a f l r fr pg room c.now c.hh c.mm h.ca.cb h.fh.fb page A k hp).mono ?_
  rintro e w' ⟨rfl,hB⟩
  exact⟨4,c,rfl,.inl ⟨hp,rfl,rfl⟩,CfIs.grow h hB,GrowBut.below hB⟩
 ·refine(cwrite_gives W a f l r P fr pg room c.now c.hh c.mm c.V h.ca h.fh.fb hP hPg (by omega) hroom page (by omega) A k y hy hin).mono ?_
  rintro e w' ⟨⟨h1,h2,rfl,h3⟩|⟨V1,b,A1,c1,h1,rfl,h2⟩,hG⟩
  ·have hW:WrP P room pg c page y W.heap.size 160 c:=.inr (.inl ⟨by omega,h1,h2,rfl,rfl⟩)
   exact⟨160,c,rfl,hW,CfIs.turn h hG h3 (fun k hk => .inl hk),hG⟩
  ·have hW:WrP P room pg c page y W.heap.size 0 ⟨c.now+1,c.hh,c.mm,updV V1 page (some ⟨b,c.now+1,A1,c1,y,true⟩)⟩:=.inr (.inr ⟨by omega,V1,b,A1,c1,h1,rfl,rfl⟩)
   exact⟨0,_,rfl,hW,CfIs.turn h hG h2 hW.names,hG⟩
theorem sdrop_gives (h:CsIs W0 d f l a r many P fr pg room s S c W) :
  Calls Tryz.prog 50 #[.pointer (some ⟨a,0,none⟩)] W fun e w'=>e = .returned (.int .i64 0)/\CsIs W0 d f l a r many P fr pg room s S ⟨c.now,c.hh,c.mm,dropV c.V⟩ w'/\GrowBut (caMu a r c.V) W w':=by
 refine(cdrop_gives h.ca).mono ?_
 rintro e w' ⟨rfl,h1,hG⟩
 exact⟨rfl,CfIs.turn h hG h1 (fun k hk => .inl (caMu_sub (fun k v e=>(dropV_of e).1) k hk)),hG⟩
variable {G:Nat->List UInt8}{i:Nat}
theorem nx_plain (hS:StP fr pg G S i)(hp:PgIn pg S)(hi:i<=900)(hpl:planOk fr pg=true)(z:Int):∀n xs pw x s' S',ComOut fr pg P ⟨G,[],0,false⟩ S n xs pw z x s' S'->(∀k,k<n->(pw k).1=(xs k).1)->(∀k,k<n->(pw k).2.length=512)->(∃k,¬ s'.g k=zer64)/\∀x∈S'.fs,x.y.length=512:=fun n xs pw x s' S' hC hx hy=>by
 obtain⟨G',rfl,hS',_⟩:=com_plain hS hp hi hpl hx hy hC
 exact⟨hS'.nz,hS'.y⟩
theorem scommit_gives (h:CsIs W0 d f l a r many P fr pg room ⟨G,[],0,false⟩ S c W)(hc:c.Ok 900000)(hroom:2<=room)(hfull:FullV c.V)(hS:StP fr pg G S i)(hp:PgIn pg S)(hi:i<=900)(hpl:planOk fr pg=true)(hm:(many:Int)=2+9*fr+8*pg)(hmax:many<=100000)(hP:(P:Int)=pg)(hP2:P<=1000)(z:Int) :
  Calls Tryz.prog 36 #[.pointer (some ⟨a,0,none⟩),.int .i64 z] W fun e w'=>∃x s' S' c',e = .returned (.int .i64 x)/\CmRes fr pg P room ⟨G,[],0,false⟩ S c z W.heap.size x s' S' c'/\CsIs W0 d f l a r many P fr pg room s' S' c' w'/\GrowBut (sysMu d l a r c.V) W w':=by
 have hpr:=(planOk_iff fr pg).1 hpl
 have hfs:=hS.fs
 exact(callsIn_wide (n:=12)).1 (ccommit_in 12 (by decide) h (fileTold_free rfl (Nat.zero_le _) (by omega) hS.y hpl hm (by omega)) hc hroom hfull (okF_free G) (Nat.zero_le _) hS hp hi hpl hm hmax hP hP2 z (nx_plain hS hp hi hpl z))
theorem sread_free (h:CsIs W0 d f l a r many P fr pg room ⟨G,[],0,false⟩ S c W)(hc:c.Ok 900000)(hroom:2<=room)(hS:StP fr pg G S i)(hpl:planOk fr pg=true)(hm:(many:Int)=2+9*fr+8*pg)(hmax:many<=100000)(hP:(P:Int)=pg)(hP2:P<=1000)(page:Int) :
  Calls Tryz.prog 37 #[.pointer (some ⟨a,0,none⟩),.int .i64 page] W fun e w'=>∃x c',RdP P room c page (fileR fr pg ⟨G,[],0,false⟩ S page) W.heap.size x c'/\RdE x e w'/\CsIs W0 d f l a r many P fr pg room ⟨G,[],0,false⟩ S c' w'/\GrowBut (caMu a r c.V) W w':=by
 have hpr:=(planOk_iff fr pg).1 hpl
 have hfs:=hS.fs
 exact sread_gives h (fileTold_free rfl (Nat.zero_le _) (by omega) hS.y hpl hm (by omega)) hc hroom hP2 hP page
end


structure PairS (W0:World)(d1 f1 l1 a1 r1 d2 f2 l2 a2 r2 many P:Nat)(fr pg rm1 rm2:Int)(G1:Nat->List UInt8)(S1:LgS)(c1:CaSt)(G2:Nat->List UInt8)(S2:LgS)(c2:CaSt)(W:World):Prop where
 h1:CsIs W0 d1 f1 l1 a1 r1 many P fr pg rm1 ⟨G1,[],0,false⟩ S1 c1 W
 h2:CsIs W0 d2 f2 l2 a2 r2 many P fr pg rm2 ⟨G2,[],0,false⟩ S2 c2 W
 ap:Apart (sysMu d1 l1 a1 r1 c1.V) (sysMu d2 l2 a2 r2 c2.V) f1 f2
section
variable {W0 W W':World}{d1 f1 l1 a1 r1 d2 f2 l2 a2 r2 many P:Nat}{fr pg rm1 rm2:Int}{G1 G1' G2:Nat->List UInt8}{S1 S1' S2:LgS}{c1 c1' c2:CaSt}{i:Nat}
theorem PairS.symm (h:PairS W0 d1 f1 l1 a1 r1 d2 f2 l2 a2 r2 many P fr pg rm1 rm2 G1 S1 c1 G2 S2 c2 W):PairS W0 d2 f2 l2 a2 r2 d1 f1 l1 a1 r1 many P fr pg rm2 rm1 G2 S2 c2 G1 S1 c1 W:=⟨h.h2,h.h1,h.ap.symm⟩
theorem GrowBut.sys {d l a r:Nat}{V:RowsV}(h:GrowBut (caMu a r V) W W'):GrowBut (sysMu d l a r V) W W':=h.more (fun k hk _ => .inr (.inr hk))
theorem dropV_sub {V:RowsV}{a r:Nat}:∀k,caMu a r (dropV V) k->caMu a r V k:=caMu_sub (fun k v e=>(dropV_of e).1)
end
structure PgSt where
 size:Int
 first:Int
 many:Int
 roots:List Int
deriving Inhabited
def psC (s:PgSt):List Value:=.int .i64 s.size :: .int .i64 s.first :: .int .i64 s.many::s.roots.map (Value.int .i64)
theorem psC_length {s:PgSt}(h:s.roots.length=16):(psC s).length=19:=by simp[psC,h]
def pgC (s:PgSt)(cv:Value)(l:PgSt)(under:Bool)(mk:Value):Array Value:=(psC s++cv::(psC l++[.bool under,mk])).toArray
section
variable {s l:PgSt}{cv mk:Value}{under:Bool}
theorem pgC_c (hs:s.roots.length=16):(pgC s cv l under mk)[19]? = some cv:=by
 unfold pgC
 rw[List.getElem?_toArray,List.getElem?_append_right (by rw[psC_length hs];omega),psC_length hs]
 rfl
theorem pgC_under (hs:s.roots.length=16)(hl:l.roots.length=16):(pgC s cv l under mk)[39]? = some (.bool under):=by
 unfold pgC
 rw[List.getElem?_toArray,List.getElem?_append_right (by rw[psC_length hs];omega),psC_length hs,show 39 - 19=19+1 from rfl,List.getElem?_cons_succ,List.getElem?_append_right (by rw[psC_length hl];omega),psC_length hl]
 rfl
theorem pgC_marks (hs:s.roots.length=16)(hl:l.roots.length=16):(pgC s cv l under mk)[40]? = some mk:=by
 unfold pgC
 rw[List.getElem?_toArray,List.getElem?_append_right (by rw[psC_length hs];omega),psC_length hs,show 40 - 19=20+1 from rfl,List.getElem?_cons_succ,List.getElem?_append_right (by rw[psC_length hl];omega),psC_length hl]
 rfl
theorem pgC_state' (hs:s.roots.length=16){j:Nat}(hj:j<19):(pgC s cv l under mk)[j]? = (psC s)[j]?:=by
 unfold pgC
 rw[List.getElem?_toArray,List.getElem?_append_left (by rw[psC_length hs];exact hj)]
theorem pgC_size (hs:s.roots.length=16):(pgC s cv l under mk)[0]? = some (.int .i64 s.size):=(pgC_state' hs (by omega)).trans rfl
theorem pgC_first (hs:s.roots.length=16):(pgC s cv l under mk)[1]? = some (.int .i64 s.first):=(pgC_state' hs (by omega)).trans rfl
theorem pgC_many (hs:s.roots.length=16):(pgC s cv l under mk)[2]? = some (.int .i64 s.many):=(pgC_state' hs (by omega)).trans rfl
end
theorem pnone_nil (w:World):Calls Tryz.prog 46 #[.pointer none] w fun e w'=>e = .returned (.bool true)/\w=w':=by
 go_enter Tryz.func46,Tryz.ntmps46
 go_wp2
 go_ret
 exact⟨rfl,rfl⟩
theorem pnone_empty {w:World}{p:Nat}(hc:w.cell? ⟨p,19,none⟩=some (.pointer none)):Calls Tryz.prog 46 #[.pointer (some ⟨p,0,none⟩)] w fun e w'=>e = .returned (.bool true)/\w=w':=by
 go_enter Tryz.func46,Tryz.ntmps46
 go_wp2
 go_ret
 exact⟨rfl,rfl⟩
theorem pnone_gives {w:World}{p a:Nat}(hc:w.cell? ⟨p,19,none⟩=some (.pointer (some ⟨a,0,none⟩))):Calls Tryz.prog 46 #[.pointer (some ⟨p,0,none⟩)] w fun e w'=>e = .returned (.bool false)/\w=w':=by
 go_enter Tryz.func46,Tryz.ntmps46
 go_wp2
 go_ret
 exact⟨rfl,rfl⟩
theorem ptold_ok (w:World)(x:Int):Calls Tryz.prog 45 #[.int .i64 x,.int .i64 0] w fun e w'=>e = .returned (.tuple #[.int .i64 x,.int .i64 0])/\w=w':=by
 go_enter Tryz.func45,Tryz.ntmps45
 go_wp2
 exact bodyPost_ret (results_tmp2 rfl _ _ _) rfl ⟨rfl,rfl⟩
theorem ptold_err (w:World)(x er:Int)(h:er≠0):Calls Tryz.prog 45 #[.int .i64 x,.int .i64 er] w fun e w'=>e = .returned (.tuple #[.int .i64 0,.int .i64 er])/\w=w':=by
 go_enter Tryz.func45,Tryz.ntmps45
 go_wp2
 exact bodyPost_ret (results_tmp2 rfl _ _ _) rfl ⟨rfl,rfl⟩
theorem nodup_len:∀{l m:List Nat},l.Nodup->(∀x∈l,x∈m)->l.length<=m.length
 | [],m,_,_=>Nat.zero_le _
 | x::l,m,h,hs=>by
  obtain⟨h1,h2⟩:=List.nodup_cons.1 h
  have hx:x∈m:=hs x (by simp)
  have:=nodup_len (l:=l) (m:=m.erase x) h2 (fun y hy=>(List.mem_erase_of_ne (fun e=>h1 (by rw[<-e];exact hy))).2 (hs y (by simp[hy])))
  rw[List.length_erase_of_mem hx] at this
  have:=List.length_pos_of_mem hx
  simp only[zN]
  omega
def cntR (P:Nat)(V:RowsV):Nat:=(keysV (ptrV V) P).length
theorem ptrV_isSome {V:RowsV}{k:Int}:(ptrV V k).isSome=(V k).isSome:=by unfold ptrV;cases V k<;>rfl
theorem keysV_row {V:RowsV}{P k:Nat}:k∈keysV (ptrV V) P↔k<P/\(V (k:Int)).isSome=true:=by rw[keysV_mem,ptrV_isSome]
theorem cntR_le {P:Nat}{V V':RowsV}(h:∀k,(V' k).isSome=true->(V k).isSome=true):cntR P V'<=cntR P V :=
 nodup_len (keysV_nodup _ _) (fun x hx=>by rw[keysV_row] at hx ⊢;exact⟨hx.1,h _ hx.2⟩)
theorem cntR_put (P:Nat)(V:RowsV)(k:Int)(v:RowV):cntR P (updV V k (some v))<=cntR P V+1:=by
 have:=nodup_len (l:=keysV (ptrV (updV V k (some v))) P) (m:=k.toNat::keysV (ptrV V) P) (keysV_nodup _ _) (fun x hx=>by
  rw[keysV_row] at hx
  rw[List.mem_cons,keysV_row]
  by_cases e:(x:Int)=k
  ·left;omega
  ·rw[updV_ne e] at hx
   exact .inr hx)
 simpa[cntR] using this
theorem cntR_cut {P:Nat}{V:RowsV}{k:Int}{v:RowV}(hv:V k=some v)(hk:0<=k/\k<(P:Int)):cntR P (updV V k none)+1<=cntR P V:=by
 have:=nodup_len (l:=k.toNat::keysV (ptrV (updV V k none)) P) (m:=keysV (ptrV V) P) (List.nodup_cons.2 ⟨(fun h=>by
  rw[keysV_row,show ((k.toNat:Nat):Int)=k by omega,updV_self] at h
  exact absurd h.2 (by simp)),keysV_nodup _ _⟩) (fun x hx=>by
  rw[List.mem_cons,keysV_row] at hx
  rw[keysV_row]
  rcases hx with rfl|hx
  ·rw[show ((k.toNat:Nat):Int)=k by omega,hv]
   exact⟨by omega,rfl⟩
  ·by_cases e:(x:Int)=k
   ·rw[e,updV_self] at hx
    exact absurd hx.2 (by simp)
   ·rw[updV_ne e] at hx
    exact hx)
 simpa[cntR] using this
section
variable {fr pg room:Int}{P:Nat}{Y:Nat->List UInt8}{G:Nat->List UInt8}{S:LgS}{c c':CaSt}{V V1:RowsV}
theorem MadeRoom.cnt (h:MadeRoom P room V V1)(hR:RowsOk P Y (rowsR V))(hc:(cntR P V:Int)<=room):(cntR P V1:Int)+1<=room:=by
 rcases h with⟨h,rfl⟩|⟨h,k0,v0,h1,h2,_,rfl⟩
 ·have:(cntR P V1:Int)<room:=h
  omega
 ·have:=cntR_cut h1 (hR k0 v0.y v0.d (rowsR_some h1)).1
  omega
theorem cntR_same {k:Int}{u v:RowV}(h:V k=some u):cntR P (updV V k (some v))<=cntR P V:=cntR_le fun j hj=>by
 by_cases e:j=k
 ·rw[e,h];rfl
 ·rw[updV_ne e] at hj;exact hj
theorem RdP.cnt {p:Int}{R x:Int ⊕ List UInt8}{n:Nat}(h:RdP P room c p R n x c')(hR:RowsOk P Y (rowsR c.V))(hc:(cntR P c.V:Int)<=room):(cntR P c'.V:Int)<=room:=by
 rcases h with⟨v,h1,_,rfl⟩|⟨_,er,_,_,rfl⟩|⟨_,y,_,_,_,rfl⟩|⟨_,y,V1,b,A1,c1,_,h2,_,_,rfl⟩
 ·have:=cntR_same (P:=P) (v:={ v with at_:=c.now+1 }) h1
  simp only
  omega
 ·exact hc
 ·exact hc
 ·have:=h2.cnt hR hc
  have:=cntR_put P V1 p ⟨b,c.now+1,A1,c1,y,false⟩
  simp only
  omega
theorem WrP.cnt {p:Int}{y:List UInt8}{sz:Nat}{x:Int}(h:WrP P room pg c p y sz x c')(hR:RowsOk P Y (rowsR c.V))(hc:(cntR P c.V:Int)<=room):(cntR P c'.V:Int)<=room:=by
 rcases h with⟨_,_,rfl⟩|⟨_,_,_,_,rfl⟩|⟨_,V1,b,A1,c1,h1,_,rfl⟩
 ·exact hc
 ·exact hc
 ·rcases h1 with⟨v,h2,_,rfl⟩|⟨_,h2,_⟩
  ·have:=cntR_same (P:=P) (v:=⟨b,c.now+1,A1,c1,y,true⟩) h2
   simp only
   omega
  ·have:=h2.cnt hR hc
   have:=cntR_put P V1 p ⟨b,c.now+1,A1,c1,y,true⟩
   simp only
   omega
theorem cntR_drop:cntR P (dropV V)<=cntR P V:=cntR_le fun k hk=>by
 cases h:dropV V k with
 | none=>rw[h] at hk;cases hk
 | some v=>rw[(dropV_of h).1];rfl
theorem cntR_clean (x:Int):cntR P (cleanIf x c).V<=cntR P c.V:=cntR_le fun k hk=>by
 unfold cleanIf at hk
 split at hk
 ·simp only[cleanV] at hk
  cases h:c.V k with
  | none=>rw[h] at hk;cases hk
  | some v=>rfl
 ·exact hk
theorem CmRes.cnt {s s':DS}{S':LgS}{z x:Int}{n:Nat}(h:CmRes fr pg P room s S c z n x s' S' c')(hR:RowsOk P Y (rowsR c.V))(hc:(cntR P c.V:Int)<=room):(cntR P c'.V:Int)<=room:=by
 rcases h with⟨_,_,_,_,rfl⟩|⟨_,_,_,_,_,rfl⟩|⟨_,_,_,_,h⟩|⟨_,_,y,c1,_,h,_,_,rfl⟩
 ·have:=cntR_clean (P:=P) (c:=c) x
  omega
 ·exact hc
 ·exact h.cnt hR hc
 ·have:=cntR_clean (P:=P) (c:=c1) x
  have:=h.cnt hR hc
  omega
theorem NoRoom.dirty (h:NoRoom P room V){l:List Nat}(hl:∀p b,rowsR V p=some (b,true)->p.toNat∈l)(hn:∀k v,V k=some v->0<=k):room<=(l.length:Int):=by
 have:=nodup_len (l:=keysV (ptrV V) P) (m:=l) (keysV_nodup _ _) (fun x hx=>by
  rw[keysV_row] at hx
  cases e:V (x:Int) with
  | none=>rw[e] at hx;cases hx.2
  | some v =>
   have hd:=h.2 _ _ e
   have:=hl (x:Int) v.y (by rw[rowsR_some e,hd])
   simpa using this)
 have:=h.1
 omega
end
def dirF (R:RowsC)(p:Int):Option (List UInt8):=match R p with|some (b,true)=>some b|_=>none
theorem dirF_some {R:RowsC}{p:Int}{b:List UInt8}:dirF R p=some b↔R p=some (b,true):=by
 unfold dirF
 cases h:R p with
 | none=>simp
 | some x =>
  obtain⟨y,d⟩:=x
  cases d<;>simp
theorem dirF_same {R R':RowsC}(h:DirtySame R R'):dirF R=dirF R':=by
 funext p
 apply Option.ext
 intro b
 rw[dirF_some,dirF_some]
 exact h p b
theorem dirF_put (R:RowsC)(p:Int)(y:List UInt8):dirF (rowsPut R p (y,true))=fun j=>if j=p then some y else dirF R j:=by
 funext j
 unfold dirF rowsPut
 by_cases e:j=p<;>simp[e]
theorem dirF_none {R:RowsC}(h:∀p b,¬ R p=some (b,true)):dirF R=fun _=>none:=by
 funext p
 cases e:dirF R p with
 | none=>rfl
 | some b=>exact absurd (dirF_some.1 e) (h p b)
theorem viewC_dirF (Y:Nat->List UInt8)(R:RowsC)(p:Nat):viewC Y R p=(dirF R (p:Int)).getD (Y p):=by
 unfold viewC dirF
 split<;>simp_all
structure PgK where
 d:Nat
 f:Nat
 l:Nat
 a:Nat
 r:Nat
 many:Nat
 P:Nat
 fr:Int
 pg:Int
 room:Int
structure PgV where
 G:Nat->List UInt8
 S:LgS
 c:CaSt
 i:Nat
 N:Nat
structure PgK.Ok (K:PgK):Prop where
 pl:planOk K.fr K.pg=true
 hm:(K.many:Int)=2+9*K.fr+8*K.pg
 mx:K.many<=100000
 hP:(K.P:Int)=K.pg
 P2:K.P<=200
 rm:2<=K.room/\K.room<=2000
def PgV.Y (K:PgK)(v:PgV):Nat->List UInt8:=fileY v.G K.fr v.S
def PgV.R (v:PgV):RowsC:=rowsR v.c.V
def PgV.view (K:PgK)(v:PgV)(p:Nat):List UInt8:=viewC (v.Y K) v.R p
def PgV.D (v:PgV):Int->Option (List UInt8):=dirF v.R
theorem PgV.view_eq (K:PgK)(v:PgV)(p:Nat):v.view K p=(v.D (p:Int)).getD (v.Y K p):=viewC_dirF _ _ _
def PgK.mu (K:PgK)(v:PgV)(k:Nat):Prop:=sysMu K.d K.l K.a K.r v.c.V k
structure CaAt (W0:World)(K:PgK)(v:PgV)(W:World):Prop where
 cs:CsIs W0 K.d K.f K.l K.a K.r K.many K.P K.fr K.pg K.room ⟨v.G,[],0,false⟩ v.S v.c W
 st:StP K.fr K.pg v.G v.S v.i
 pi:PgIn K.pg v.S
 ok:v.c.Ok v.N
 ro:RowsOk K.P (v.Y K) v.R
 cn:(cntR K.P v.c.V:Int)<=K.room
def Names (K:PgK)(W:World)(v v':PgV):Prop:=∀k,K.mu v' k->K.mu v k∨W.heap.size<=k
section
variable {W0 W W':World}{K:PgK}{v v':PgV}
theorem CaAt.grow (h:CaAt W0 K v W)(hB:Below W.heap.size W W'):CaAt W0 K v W':=⟨CfIs.grow h.cs hB,h.st,h.pi,h.ok,h.ro,h.cn⟩
theorem CaAt.keep {Mu:Nat->Prop}(h:CaAt W0 K v W)(hG:GrowBut Mu W W')(hsm:∀k,Mu k->SmBlk W k)(hge:∀k,Mu k->W0.heap.size<=k)(hn:∀k,Mu k->¬ K.mu v k/\k≠K.f):CaAt W0 K v W':=⟨CfIs.keep h.cs hG hsm hge hn,h.st,h.pi,h.ok,h.ro,h.cn⟩
theorem CaAt.yl (h:CaAt W0 K v W)(q:Nat):(v.Y K q).length=512:=by
 obtain⟨hz,hL⟩:=h.st.li
 exact fpY_len hL.len h.st.y _ _
theorem CaAt.viewLen (h:CaAt W0 K v W)(q:Nat):(v.view K q).length=512:=by
 unfold PgV.view viewC
 split
 ·next b e=>exact(h.ro _ _ _ e).2.1
 ·exact h.yl q
theorem names_ca (hn:∀k,caMu K.a K.r v'.c.V k->caMu K.a K.r v.c.V k∨W.heap.size<=k):Names K W v v':=fun k hk=>by
 rcases hk with hk|hk|hk
 ·exact .inl (.inl hk)
 ·exact .inl (.inr (.inl hk))
 ·exact(hn k hk).elim (fun e => .inl (.inr (.inr e))) .inr
theorem CaAt.n9 (h:CaAt W0 K v W)(hN:v.N<=900000):v.c.Ok 900000:=h.ok.more hN
def ComWhy (K:PgK)(v:PgV)(z x:Int):Prop:=(dirtyL v.R K.P≠[]/\comX K.fr K.pg z (dirtyL v.R K.P).length (pwL (dirtyL v.R K.P)) x)∨(dirtyL v.R K.P=[]/\z=v.S.sz/\x=0)∨(dirtyL v.R K.P=[]/\¬ z=v.S.sz/\(x=160∨comX K.fr K.pg z 1 (pwL [(0,v.Y K 0)]) x))
theorem gread (h:CaAt W0 K v W)(hK:K.Ok)(hN:v.N<=800000)(page:Int) :
  Calls Tryz.prog 37 #[.pointer (some ⟨K.a,0,none⟩),.int .i64 page] W fun e w'=>∃x v',RdE x e w'/\CaAt W0 K v' w'/\v'.N=v.N+1/\v'.i=v.i/\v'.Y K=v.Y K/\v'.S.sz=v.S.sz/\v'.D=v.D/\(∀y,x = .inr y->(0<=page/\page<(K.P:Int))/\y=v.view K page.toNat)/\(∀er,x = .inl er->(er=4/\(page<0∨(K.P:Int)<=page))∨(er=160/\NoRoom K.P K.room v.c.V))/\Names K W v v'/\GrowBut (K.mu v) W w':=by
 have hP2:=hK.P2
 refine(sread_free h.cs (h.n9 (by omega)) hK.rm.1 h.st hK.pl hK.hm hK.mx hK.hP (by omega) page).mono ?_
 rintro e w' ⟨x,c',hx,hxe,hC,hG⟩
 have hpl:=hx.plain (fun q=>h.yl q) hK.hP h.ro
 refine⟨x,⟨v.G,v.S,c',v.i,v.N+1⟩,hxe,⟨hC,h.st,h.pi,hx.ok h.ok,hpl.1,hx.cnt h.ro h.cn⟩,rfl,rfl,rfl,rfl,dirF_same hpl.2.1,hpl.2.2,fun er he => ?_,names_ca hx.names,hG.sys⟩
 subst he
 have hP:=hK.hP
 rcases hx with⟨u,_,e,_⟩|⟨_,er',h2,e,_⟩|⟨_,y,_,hn,e,_⟩|⟨_,y,V1,b,A1,c1,_,_,_,e,_⟩
 ·cases e
 ·injection e with e
  subst e
  by_cases hp:page<0∨K.pg<=page
  ·rw[fileR_out hp] at h2
   injection h2 with h2
   exact .inl ⟨h2.symm,by omega⟩
  ·rw[fileR_in rfl (by omega)] at h2
   cases h2
 ·injection e with e
  exact .inr ⟨e,hn⟩
 ·cases e
theorem gwrite (h:CaAt W0 K v W)(hK:K.Ok)(hN:v.N<=800000)(page:Int)(A:Option Addr)(k:Nat)(y:List UInt8)(hy:y.length=512)(hin:InB W W.heap.size A k y) :
  Calls Tryz.prog 34 #[.pointer (some ⟨K.a,0,none⟩),.int .i64 page,.slice A 512 k] W fun e w'=>∃x v',e = .returned (.int .i64 x)/\CaAt W0 K v' w'/\v'.N=v.N+1/\v'.i=v.i/\v'.Y K=v.Y K/\v'.S.sz=v.S.sz/\((x=0/\(0<=page/\page<(K.P:Int))/\v'.D=fun j=>if j=page then some y else v.D j)∨((x=4/\(page<0∨(K.P:Int)<=page)∨x=160/\NoRoom K.P K.room v.c.V)/\v'.D=v.D))/\Names K W v v'/\GrowBut (K.mu v) W w':=by
 have hP2:=hK.P2
 have hP:=hK.hP
 refine(swrite_gives h.cs (h.n9 (by omega)) hK.rm.1 (by omega) hK.hP page A k y hy hin).mono ?_
 rintro e w' ⟨x,c',rfl,hx,hC,hG⟩
 have hpl:=hx.plain hy hK.hP h.ro
 refine⟨x,⟨v.G,v.S,c',v.i,v.N+1⟩,rfl,⟨hC,h.st,h.pi,hx.ok h.ok,hpl.1,hx.cnt h.ro h.cn⟩,rfl,rfl,rfl,rfl,?_,names_ca hx.names,hG.sys⟩
 rcases hx with⟨h1,rfl,rfl⟩|⟨h1,_,h2,rfl,rfl⟩|⟨h1,V1,b,A1,c1,h2,rfl,rfl⟩
 ·exact .inr ⟨.inl ⟨rfl,by omega⟩,rfl⟩
 ·exact .inr ⟨.inr ⟨rfl,h2⟩,rfl⟩
 ·rcases hpl.2 with⟨_,h3⟩|⟨h3,_⟩
  ·exact .inl ⟨rfl,by omega,(dirF_same h3).trans (dirF_put _ _ _)⟩
  ·exact absurd rfl h3
theorem gdrop (h:CaAt W0 K v W) :
  Calls Tryz.prog 50 #[.pointer (some ⟨K.a,0,none⟩)] W fun e w'=>∃v',e = .returned (.int .i64 0)/\CaAt W0 K v' w'/\v'.N=v.N/\v'.i=v.i/\v'.Y K=v.Y K/\v'.S.sz=v.S.sz/\(v'.D=fun _=>none)/\Names K W v v'/\GrowBut (K.mu v) W w':=by
 refine(sdrop_gives h.cs).mono ?_
 rintro e w' ⟨rfl,hC,hG⟩
 have hpl:=dropV_plain (G:=v.G) (fr:=K.fr) (S:=v.S) (P:=K.P) (c:=v.c) h.ro
 have hcn:=cntR_drop (P:=K.P) (V:=v.c.V)
 have h1:=h.cn
 exact⟨⟨v.G,v.S,⟨v.c.now,v.c.hh,v.c.mm,dropV v.c.V⟩,v.i,v.N⟩,rfl,⟨hC,h.st,h.pi,⟨h.ok.now,h.ok.hh,h.ok.mm⟩,hpl.1,by show (cntR K.P (dropV v.c.V):Int)<=K.room;omega⟩,rfl,rfl,rfl,rfl,dirF_none hpl.2,names_ca (fun k hk => .inl (dropV_sub k hk)),hG.sys⟩
theorem gcommit (h:CaAt W0 K v W)(hK:K.Ok)(hN:v.N<=800000)(hi:v.i<=900)(z:Int) :
  Calls Tryz.prog 36 #[.pointer (some ⟨K.a,0,none⟩),.int .i64 z] W fun e w'=>∃x v',e = .returned (.int .i64 x)/\CaAt W0 K v' w'/\v'.N=v.N+1/\v'.i=v.i+2/\((x=0/\v'.S.sz=z/\(∀p,p<K.P->v'.Y K p=v.view K p)/\v'.D=fun _=>none)∨(¬ x=0/\v'.S.sz=v.S.sz/\(∀p,p<K.P->v'.Y K p=v.Y K p)/\v'.D=v.D))/\ComWhy K v z x/\Names K W v v'/\GrowBut (K.mu v) W w':=by
 have hP2:=hK.P2
 have hP:=hK.hP
 refine(scommit_gives h.cs (h.n9 (by omega)) hK.rm.1 h.ro.full h.st h.pi hi hK.pl hK.hm hK.mx hK.hP (by omega) z).mono ?_
 rintro e w' ⟨x,s',S',c',rfl,hx,hC,hG⟩
 have hn:=hx.names (a:=K.a) (r:=K.r)
 have hcn:=hx.cnt h.ro h.cn
 obtain⟨G',rfl,hS',hp',hok,hT⟩:=hx.plain h.st h.pi hi hK.pl (by omega) hK.hP h.ro h.ok
 refine⟨x,⟨G',S',c',v.i+2,v.N+1⟩,rfl,⟨hC,hS',hp',hok,hT.1,hcn⟩,rfl,rfl,?_,hT.2.2,names_ca hn,hG⟩
 rcases hT.2.1 with⟨h1,h2,h3,h4⟩|⟨h1,h2,h3,h4⟩
 ·exact .inl ⟨h1,h2,h3,dirF_none h4⟩
 ·exact .inr ⟨h1,h2,h3,dirF_same h4⟩
end
section
variable {ρ:Operand->Value}{w:World}{o:Oper}{x y z m:Operand}
theorem x_cut4 {g p n c a:Nat}(ho:o.op = .slice 22 x (some y) (some z) (some m))(h1:ρ x = .slice (some ⟨g,p,none⟩) n c)(h2:ρ y = .int .i64 (a:Int))(h3:ρ z = .int .i64 ((a:Int)+4))(h4:ρ m = .int .i64 ((a:Int)+4))(hb:a+4<=n)(hn:n<=c) :
  (execOp ρ o).run Tryz.prog w = .ok (.value (.slice (some ⟨g,p+a,none⟩) 4 4)) w:=by
 have ht:Tryz.prog.underlying 22=some (.slice (Tryz.prog.elem 22)):=by kernel_rfl
 have ea:(⟨g,p,none⟩:Addr).add a=⟨g,p+a,none⟩:=by cases a<;>simp[Addr.add]
 have h3':ρ z = .int .i64 ((a+4:Nat):Int):=by rw[h3];simp
 have h4':ρ m = .int .i64 ((a+4:Nat):Int):=by rw[h4];simp
 generalize hbb:a+4=b at *
 have e1:a<=b:=by omega
 have e3:b - a=4:=by omega
 have hbc:b<=c:=by omega
 have hbi:(b:Int)<=(c:Int):=by omega
 have e5:¬ c=a:=by omega
 have e6:¬ b=a:=by omega
 simp[execOp,ho,h1,h2,h3',h4',go_sem,run_sliceAt_slice _ _ _ _ _ _ ht,Result.andThen,e1,hbi,e3,e6,ea]
end
theorem pnumber_gives (w:World)(A:Option Addr)(c a:Nat)(y:List UInt8)(hin:InB w w.heap.size A c y)(hy:y.length=512)(ha:a+4<=512) :
  Calls Tryz.prog 38 #[.slice A 512 c,.int .i64 (a:Int)] w fun e w'=>e = .returned (.int .i64 (rfix ((y.drop a).take 4):Int))/\Below w.heap.size w w':=by
 obtain⟨g,o,rfl,hg,hc⟩:=hin.lies (by omega)
 have hle:=hin.le
 have hsub:InB w w.heap.size (some ⟨g,o+a,none⟩) 4 ((y.drop a).take 4):=by
  have hl:((y.drop a).take 4).length=4:=by simp;omega
  refine⟨by omega,by omega,(fun e=>by cases e),fun _=>⟨g,o+a,rfl,hg,fun j hj => ?_⟩⟩
  have:=hc (a+j) (by omega)
  rw[Nat.add_assoc,this]
  simp
 have hl4:((y.drop a).take 4).length=4:=by simp;omega
 have H:=readFour_gives w _ _ _ hsub
 rw[hl4] at H
 unfold fixV32 at H
 rw[if_neg (by omega)] at H
 have e4:((y.drop a).take 4).take 4=(y.drop a).take 4:=by rw[List.take_take];simp
 rw[e4] at H
 have hr:rfix ((y.drop a).take 4)<4294967296:=rfix_take4 _
 generalize rfix ((y.drop a).take 4)=R at *
 have hw:IntKind.i64.wrap ((a:Int)+4)=(a:Int)+4:=wrap_i64_fr _ (by omega) (by omega)
 have hwR:IntKind.i64.wrap (R:Int)=(R:Int):=wrap_i64_fr _ (by omega) (by omega)
 clear hsub hin hc
 go_enter Tryz.func38,Tryz.ntmps38
 go_wp2_with (first
  | (refine wp_exec rfl (x_cut4 (a:=a) rfl rfl rfl rfl rfl (by omega) (by omega)) ?_)
  | (go_at_call 73;refine H.mono ?_;rintro e w' ⟨rfl,hB⟩))
 go_ret
 exact⟨rfl,hB⟩
theorem pasked1_gives {w:World}{bp bu p:Nat}{b u:Bool}(h0:w.cell? ⟨bp,0,none⟩=some (.pointer (some ⟨p,0,none⟩)))(h1:w.cell? ⟨bu,0,none⟩=some (.bool u))(h2:w.cell? ⟨p,39,none⟩=some (.bool b)):Calls Tryz.prog 76 #[.pointer (some ⟨bp,0,none⟩),.pointer (some ⟨bu,0,none⟩)] w fun e w'=>e = .returned (.bool (b != u))/\Below w.heap.size w w':=by
 have hS0:w.drew.cell? ⟨bp,0,none⟩=some (.pointer (some ⟨p,0,none⟩))/\w.drew.cell? ⟨bu,0,none⟩=some (.bool u)/\w.drew.cell? ⟨p,39,none⟩=some (.bool b):=⟨h0,h1,h2⟩
 go_enter Tryz.func76,Tryz.ntmps76
 go_wp2_with fail
 refine RegF.start (fun W:World=>W.cell? ⟨bp,0,none⟩=some (.pointer (some ⟨p,0,none⟩))/\W.cell? ⟨bu,0,none⟩=some (.bool u)/\W.cell? ⟨p,39,none⟩=some (.bool b)) 99 (by kernel_rfl) ?_
 refine RegF.t0 0 (.pointer (some ⟨p,0,none⟩)) rfl hS0 (fun W ⟨e0,e1,e2⟩=>by go_simp) ?_
 simp only[zD,zB,Act.put,zA,zF,zE]
 refine RegF.t0 1 (.pointer (some ⟨p,0,none⟩)) rfl hS0 (fun W ⟨e0,e1,e2⟩=>by go_simp) ?_
 simp only[zD,zC,zB,Act.put,zA,zF,zE]
 refine RegF.t0 2 (.pointer (some ⟨p,39,none⟩)) rfl hS0 (fun W ⟨e0,e1,e2⟩=>by go_simp) ?_
 simp only[zD,zC,zB,Act.put,zA,zF,zE]
 refine RegF.t0 3 (.bool b) rfl hS0 (fun W ⟨e0,e1,e2⟩=>by go_simp) ?_
 simp only[zD,zC,zB,Act.put,zA,zF,zE]
 refine RegF.t0 4 (.bool u) rfl hS0 (fun W ⟨e0,e1,e2⟩=>by go_simp) ?_
 simp only[zD,zC,zB,Act.put,zA,zF,zE]
 refine RegF.t0 5 (.bool (b != u)) rfl hS0 (fun W ⟨e0,e1,e2⟩=>by go_simp;cases b<;>cases u<;>rfl) ?_
 simp only[zD,zC,zB,Act.put,zA,zF,zE]
 refine RegF.one 6 (by kernel_rfl) (RegF.opV (w':=w.drew) (.bool (b != u)) rfl rfl (by go_simp) ⟨fun _=>hS0,RegF.done (by kernel_rfl) ?_⟩)
 simp only[zD,zC,zB,Act.put,zA,zF,zE]
 clear hS0
 go_wp2
 go_ret
 exact⟨rfl,(Below.refl _ _).drew⟩
theorem pthere1_gives {w:World}{bn bl bp p:Nat}{n least size:Int}(h0:w.cell? ⟨bn,0,none⟩=some (.int .i64 n))(h1:w.cell? ⟨bl,0,none⟩=some (.int .i64 least))(h2:w.cell? ⟨bp,0,none⟩=some (.pointer (some ⟨p,0,none⟩)))(h3:w.cell? ⟨p,0,none⟩=some (.int .i64 size)):Calls Tryz.prog 87 #[.pointer (some ⟨bn,0,none⟩),.pointer (some ⟨bl,0,none⟩),.pointer (some ⟨bp,0,none⟩)] w fun e w'=>e = .returned (.bool (decide (n<least∨size<=n)))/\Below w.heap.size w w':=by
 have hS0:w.drew.cell? ⟨bn,0,none⟩=some (.int .i64 n)/\w.drew.cell? ⟨bl,0,none⟩=some (.int .i64 least)/\w.drew.cell? ⟨bp,0,none⟩=some (.pointer (some ⟨p,0,none⟩))/\w.drew.cell? ⟨p,0,none⟩=some (.int .i64 size):=⟨h0,h1,h2,h3⟩
 by_cases hl:n<least
 ·have hd:decide (n<least∨size<=n)=true:=by simp[hl]
  rw[hd]
  go_enter Tryz.func87,Tryz.ntmps87
  go_wp2_with fail
  refine RegF.start (fun W:World=>W.cell? ⟨bn,0,none⟩=some (.int .i64 n)/\W.cell? ⟨bl,0,none⟩=some (.int .i64 least)/\W.cell? ⟨bp,0,none⟩=some (.pointer (some ⟨p,0,none⟩))/\W.cell? ⟨p,0,none⟩=some (.int .i64 size)) 99 (by kernel_rfl) ?_
  refine RegF.t0 0 (.int .i64 n) rfl hS0 (fun W ⟨e0,e1,e2,e3⟩=>by go_simp) ?_
  simp only[zD,zB,Act.put,zA,zF,zE]
  refine RegF.t0 1 (.int .i64 least) rfl hS0 (fun W ⟨e0,e1,e2,e3⟩=>by go_simp) ?_
  simp only[zD,zC,zB,Act.put,zA,zF,zE]
  refine RegF.t0 2 (.bool true) rfl hS0 (fun W ⟨e0,e1,e2,e3⟩=>by go_simp) ?_
  simp only[zD,zC,zB,Act.put,zA,zF,zE]
  refine RegF.t0 3 (.bool true) rfl hS0 (fun W ⟨e0,e1,e2,e3⟩=>by go_simp) ?_
  simp only[zD,zC,zB,Act.put,zA,zF,zE]
  refine RegF.take0 4 undef rfl (by kernel_rfl) (by kernel_rfl) (by kernel_rfl) rfl (fun _ _ _ h=>h) hS0 (.inr ⟨by rfl,rfl⟩) ?_
  simp only[zD,zC,zB,Act.put,zA,zF,zE]
  refine RegF.take0 5 undef rfl (by kernel_rfl) (by kernel_rfl) (by kernel_rfl) rfl (fun _ _ _ h=>h) hS0 (.inr ⟨by rfl,rfl⟩) ?_
  simp only[zD,zC,zB,Act.put,zA,zF,zE]
  refine RegF.take0 6 undef rfl (by kernel_rfl) (by kernel_rfl) (by kernel_rfl) rfl (fun _ _ _ h=>h) hS0 (.inr ⟨by rfl,rfl⟩) ?_
  simp only[zD,zC,zB,Act.put,zA,zF,zE]
  refine RegF.take0 7 undef rfl (by kernel_rfl) (by kernel_rfl) (by kernel_rfl) rfl (fun _ _ _ h=>h) hS0 (.inr ⟨by rfl,rfl⟩) ?_
  simp only[zD,zC,zB,Act.put,zA,zF,zE]
  refine RegF.take0 8 undef rfl (by kernel_rfl) (by kernel_rfl) (by kernel_rfl) rfl (fun _ _ _ h=>h) hS0 (.inr ⟨by rfl,rfl⟩) ?_
  simp only[zD,zC,zB,Act.put,zA,zF,zE]
  refine RegF.take0 9 undef rfl (by kernel_rfl) (by kernel_rfl) (by kernel_rfl) rfl (fun _ _ _ h=>h) hS0 (.inr ⟨by rfl,rfl⟩) ?_
  simp only[zD,zC,zB,Act.put,zA,zF,zE]
  refine RegF.take0 10 undef rfl (by kernel_rfl) (by kernel_rfl) (by kernel_rfl) rfl (fun _ _ _ h=>h) hS0 (.inr ⟨by rfl,rfl⟩) ?_
  simp only[zD,zC,zB,Act.put,zA,zF,zE]
  refine RegF.t0 11 (.bool true) rfl hS0 (fun W ⟨e0,e1,e2,e3⟩=>by go_simp) ?_
  simp only[zD,zC,zB,Act.put,zA,zF,zE]
  refine RegF.one 12 (by kernel_rfl) (RegF.opV (w':=w.drew) (.bool true) rfl rfl (by go_simp) ⟨fun _=>hS0,RegF.done (by kernel_rfl) ?_⟩)
  simp only[zD,zC,zB,Act.put,zA,zF,zE]
  clear hS0
  go_wp2
  go_ret
  exact⟨rfl,(Below.refl _ _).drew⟩
 ·have hd:decide (n<least∨size<=n)=decide (size<=n):=by simp[hl]
  rw[hd]
  go_enter Tryz.func87,Tryz.ntmps87
  go_wp2_with fail
  refine RegF.start (fun W:World=>W.cell? ⟨bn,0,none⟩=some (.int .i64 n)/\W.cell? ⟨bl,0,none⟩=some (.int .i64 least)/\W.cell? ⟨bp,0,none⟩=some (.pointer (some ⟨p,0,none⟩))/\W.cell? ⟨p,0,none⟩=some (.int .i64 size)) 99 (by kernel_rfl) ?_
  refine RegF.t0 0 (.int .i64 n) rfl hS0 (fun W ⟨e0,e1,e2,e3⟩=>by go_simp) ?_
  simp only[zD,zB,Act.put,zA,zF,zE]
  refine RegF.t0 1 (.int .i64 least) rfl hS0 (fun W ⟨e0,e1,e2,e3⟩=>by go_simp) ?_
  simp only[zD,zC,zB,Act.put,zA,zF,zE]
  refine RegF.t0 2 (.bool false) rfl hS0 (fun W ⟨e0,e1,e2,e3⟩=>by go_simp) ?_
  simp only[zD,zC,zB,Act.put,zA,zF,zE]
  refine RegF.t0 3 (.bool false) rfl hS0 (fun W ⟨e0,e1,e2,e3⟩=>by go_simp) ?_
  simp only[zD,zC,zB,Act.put,zA,zF,zE]
  refine RegF.take0 4 (.int .i64 n) rfl (by kernel_rfl) (by kernel_rfl) (by kernel_rfl) rfl (fun _ _ _ h=>h) hS0 (RegF.yldG (by rfl) (fun W hW=>by obtain⟨e0,e1,e2,e3⟩:=hW;go_simp)) ?_
  simp only[zD,zC,zB,Act.put,zA,zF,zE]
  refine RegF.take0 5 (.pointer (some ⟨p,0,none⟩)) rfl (by kernel_rfl) (by kernel_rfl) (by kernel_rfl) rfl (fun _ _ _ h=>h) hS0 (RegF.yldG (by rfl) (fun W hW=>by obtain⟨e0,e1,e2,e3⟩:=hW;go_simp)) ?_
  simp only[zD,zC,zB,Act.put,zA,zF,zE]
  refine RegF.take0 6 (.pointer (some ⟨p,0,none⟩)) rfl (by kernel_rfl) (by kernel_rfl) (by kernel_rfl) rfl (fun _ _ _ h=>h) hS0 (RegF.yldG (by rfl) (fun W hW=>by obtain⟨e0,e1,e2,e3⟩:=hW;go_simp)) ?_
  simp only[zD,zC,zB,Act.put,zA,zF,zE]
  refine RegF.take0 7 (.pointer (some ⟨p,0,none⟩)) rfl (by kernel_rfl) (by kernel_rfl) (by kernel_rfl) rfl (fun _ _ _ h=>h) hS0 (RegF.yldG (by rfl) (fun W hW=>by obtain⟨e0,e1,e2,e3⟩:=hW;go_simp)) ?_
  simp only[zD,zC,zB,Act.put,zA,zF,zE]
  refine RegF.take0 8 (.pointer (some ⟨p,0,none⟩)) rfl (by kernel_rfl) (by kernel_rfl) (by kernel_rfl) rfl (fun _ _ _ h=>h) hS0 (RegF.yldG (by rfl) (fun W hW=>by obtain⟨e0,e1,e2,e3⟩:=hW;go_simp)) ?_
  simp only[zD,zC,zB,Act.put,zA,zF,zE]
  refine RegF.take0 9 (.int .i64 size) rfl (by kernel_rfl) (by kernel_rfl) (by kernel_rfl) rfl (fun _ _ _ h=>h) hS0 (RegF.yldG (by rfl) (fun W hW=>by obtain⟨e0,e1,e2,e3⟩:=hW;go_simp)) ?_
  simp only[zD,zC,zB,Act.put,zA,zF,zE]
  refine RegF.take0 10 (.bool (decide (size<=n))) rfl (by kernel_rfl) (by kernel_rfl) (by kernel_rfl) rfl (fun _ _ _ h=>h) hS0 (RegF.yldG (by rfl) (fun W hW=>by obtain⟨e0,e1,e2,e3⟩:=hW;go_simp)) ?_
  simp only[zD,zC,zB,Act.put,zA,zF,zE]
  refine RegF.t0 11 (.bool (decide (size<=n))) rfl hS0 (fun W ⟨e0,e1,e2,e3⟩=>by go_simp) ?_
  simp only[zD,zC,zB,Act.put,zA,zF,zE]
  refine RegF.one 12 (by kernel_rfl) (RegF.opV (w':=w.drew) (.bool (decide (size<=n))) rfl rfl (by go_simp) ⟨fun _=>hS0,RegF.done (by kernel_rfl) ?_⟩)
  simp only[zD,zC,zB,Act.put,zA,zF,zE]
  clear hS0
  go_wp2
  go_ret
  exact⟨rfl,(Below.refl _ _).drew⟩
theorem pmarked1_gives {w:World}{bn bp p len c:Nat}{A:Option Addr}{n:Int}(h0:w.cell? ⟨bn,0,none⟩=some (.int .i64 n))(h1:w.cell? ⟨bp,0,none⟩=some (.pointer (some ⟨p,0,none⟩)))(h2:w.cell? ⟨p,40,none⟩=some (.slice A len c)):Calls Tryz.prog 82 #[.pointer (some ⟨bn,0,none⟩),.pointer (some ⟨bp,0,none⟩)] w fun e w'=>e = .returned (.bool (decide (n<0∨(len:Int)<=n)))/\Below w.heap.size w w':=by
 have hS0:w.drew.cell? ⟨bn,0,none⟩=some (.int .i64 n)/\w.drew.cell? ⟨bp,0,none⟩=some (.pointer (some ⟨p,0,none⟩))/\w.drew.cell? ⟨p,40,none⟩=some (.slice A len c):=⟨h0,h1,h2⟩
 by_cases hl:n<0
 ·have hd:decide (n<0∨(len:Int)<=n)=true:=by simp[hl]
  rw[hd]
  go_enter Tryz.func82,Tryz.ntmps82
  go_wp2_with fail
  refine RegF.start (fun W:World=>W.cell? ⟨bn,0,none⟩=some (.int .i64 n)/\W.cell? ⟨bp,0,none⟩=some (.pointer (some ⟨p,0,none⟩))/\W.cell? ⟨p,40,none⟩=some (.slice A len c)) 99 (by kernel_rfl) ?_
  refine RegF.t0 0 (.int .i64 n) rfl hS0 (fun W ⟨e0,e1,e2⟩=>by go_simp) ?_
  simp only[zD,zB,Act.put,zA,zF,zE]
  refine RegF.t0 1 (.bool true) rfl hS0 (fun W ⟨e0,e1,e2⟩=>by go_simp) ?_
  simp only[zD,zC,zB,Act.put,zA,zF,zE]
  refine RegF.t0 2 (.bool true) rfl hS0 (fun W ⟨e0,e1,e2⟩=>by go_simp) ?_
  simp only[zD,zC,zB,Act.put,zA,zF,zE]
  refine RegF.take0 3 undef rfl (by kernel_rfl) (by kernel_rfl) (by kernel_rfl) rfl (fun _ _ _ h=>h) hS0 (.inr ⟨by rfl,rfl⟩) ?_
  simp only[zD,zC,zB,Act.put,zA,zF,zE]
  refine RegF.take0 4 undef rfl (by kernel_rfl) (by kernel_rfl) (by kernel_rfl) rfl (fun _ _ _ h=>h) hS0 (.inr ⟨by rfl,rfl⟩) ?_
  simp only[zD,zC,zB,Act.put,zA,zF,zE]
  refine RegF.take0 5 undef rfl (by kernel_rfl) (by kernel_rfl) (by kernel_rfl) rfl (fun _ _ _ h=>h) hS0 (.inr ⟨by rfl,rfl⟩) ?_
  simp only[zD,zC,zB,Act.put,zA,zF,zE]
  refine RegF.take0 6 undef rfl (by kernel_rfl) (by kernel_rfl) (by kernel_rfl) rfl (fun _ _ _ h=>h) hS0 (.inr ⟨by rfl,rfl⟩) ?_
  simp only[zD,zC,zB,Act.put,zA,zF,zE]
  refine RegF.take0 7 undef rfl (by kernel_rfl) (by kernel_rfl) (by kernel_rfl) rfl (fun _ _ _ h=>h) hS0 (.inr ⟨by rfl,rfl⟩) ?_
  simp only[zD,zC,zB,Act.put,zA,zF,zE]
  refine RegF.take0 8 undef rfl (by kernel_rfl) (by kernel_rfl) (by kernel_rfl) rfl (fun _ _ _ h=>h) hS0 (.inr ⟨by rfl,rfl⟩) ?_
  simp only[zD,zC,zB,Act.put,zA,zF,zE]
  refine RegF.take0 9 undef rfl (by kernel_rfl) (by kernel_rfl) (by kernel_rfl) rfl (fun _ _ _ h=>h) hS0 (.inr ⟨by rfl,rfl⟩) ?_
  simp only[zD,zC,zB,Act.put,zA,zF,zE]
  refine RegF.t0 10 (.bool true) rfl hS0 (fun W ⟨e0,e1,e2⟩=>by go_simp) ?_
  simp only[zD,zC,zB,Act.put,zA,zF,zE]
  refine RegF.one 11 (by kernel_rfl) (RegF.opV (w':=w.drew) (.bool true) rfl rfl (by go_simp) ⟨fun _=>hS0,RegF.done (by kernel_rfl) ?_⟩)
  simp only[zD,zC,zB,Act.put,zA,zF,zE]
  clear hS0
  go_wp2
  go_ret
  exact⟨rfl,(Below.refl _ _).drew⟩
 ·have hd:decide (n<0∨(len:Int)<=n)=decide ((len:Int)<=n):=by simp[hl]
  rw[hd]
  go_enter Tryz.func82,Tryz.ntmps82
  go_wp2_with fail
  refine RegF.start (fun W:World=>W.cell? ⟨bn,0,none⟩=some (.int .i64 n)/\W.cell? ⟨bp,0,none⟩=some (.pointer (some ⟨p,0,none⟩))/\W.cell? ⟨p,40,none⟩=some (.slice A len c)) 99 (by kernel_rfl) ?_
  refine RegF.t0 0 (.int .i64 n) rfl hS0 (fun W ⟨e0,e1,e2⟩=>by go_simp) ?_
  simp only[zD,zB,Act.put,zA,zF,zE]
  refine RegF.t0 1 (.bool false) rfl hS0 (fun W ⟨e0,e1,e2⟩=>by go_simp) ?_
  simp only[zD,zC,zB,Act.put,zA,zF,zE]
  refine RegF.t0 2 (.bool false) rfl hS0 (fun W ⟨e0,e1,e2⟩=>by go_simp) ?_
  simp only[zD,zC,zB,Act.put,zA,zF,zE]
  refine RegF.take0 3 (.int .i64 n) rfl (by kernel_rfl) (by kernel_rfl) (by kernel_rfl) rfl (fun _ _ _ h=>h) hS0 (RegF.yldG (by rfl) (fun W hW=>by obtain⟨e0,e1,e2⟩:=hW;go_simp)) ?_
  simp only[zD,zC,zB,Act.put,zA,zF,zE]
  refine RegF.take0 4 (.pointer (some ⟨p,0,none⟩)) rfl (by kernel_rfl) (by kernel_rfl) (by kernel_rfl) rfl (fun _ _ _ h=>h) hS0 (RegF.yldG (by rfl) (fun W hW=>by obtain⟨e0,e1,e2⟩:=hW;go_simp)) ?_
  simp only[zD,zC,zB,Act.put,zA,zF,zE]
  refine RegF.take0 5 (.pointer (some ⟨p,0,none⟩)) rfl (by kernel_rfl) (by kernel_rfl) (by kernel_rfl) rfl (fun _ _ _ h=>h) hS0 (RegF.yldG (by rfl) (fun W hW=>by obtain⟨e0,e1,e2⟩:=hW;go_simp)) ?_
  simp only[zD,zC,zB,Act.put,zA,zF,zE]
  refine RegF.take0 6 (.pointer (some ⟨p,40,none⟩)) rfl (by kernel_rfl) (by kernel_rfl) (by kernel_rfl) rfl (fun _ _ _ h=>h) hS0 (RegF.yldG (by rfl) (fun W hW=>by obtain⟨e0,e1,e2⟩:=hW;go_simp)) ?_
  simp only[zD,zC,zB,Act.put,zA,zF,zE]
  refine RegF.take0 7 (.slice A len c) rfl (by kernel_rfl) (by kernel_rfl) (by kernel_rfl) rfl (fun _ _ _ h=>h) hS0 (RegF.yldG (by rfl) (fun W hW=>by obtain⟨e0,e1,e2⟩:=hW;go_simp)) ?_
  simp only[zD,zC,zB,Act.put,zA,zF,zE]
  refine RegF.take0 8 (.int .i64 (len:Int)) rfl (by kernel_rfl) (by kernel_rfl) (by kernel_rfl) rfl (fun _ _ _ h=>h) hS0 (RegF.yldG (by rfl) (fun W hW=>by obtain⟨e0,e1,e2⟩:=hW;go_simp)) ?_
  simp only[zD,zC,zB,Act.put,zA,zF,zE]
  refine RegF.take0 9 (.bool (decide ((len:Int)<=n))) rfl (by kernel_rfl) (by kernel_rfl) (by kernel_rfl) rfl (fun _ _ _ h=>h) hS0 (RegF.yldG (by rfl) (fun W hW=>by obtain⟨e0,e1,e2⟩:=hW;go_simp)) ?_
  simp only[zD,zC,zB,Act.put,zA,zF,zE]
  refine RegF.t0 10 (.bool (decide ((len:Int)<=n))) rfl hS0 (fun W ⟨e0,e1,e2⟩=>by go_simp) ?_
  simp only[zD,zC,zB,Act.put,zA,zF,zE]
  refine RegF.one 11 (by kernel_rfl) (RegF.opV (w':=w.drew) (.bool (decide ((len:Int)<=n))) rfl rfl (by go_simp) ⟨fun _=>hS0,RegF.done (by kernel_rfl) ?_⟩)
  simp only[zD,zC,zB,Act.put,zA,zF,zE]
  clear hS0
  go_wp2
  go_ret
  exact⟨rfl,(Below.refl _ _).drew⟩
theorem pwrite1_ask {w:World}{bb len c:Nat}{A:Option Addr}(h0:w.cell? ⟨bb,0,none⟩=some (.slice A len c)):Calls Tryz.prog 55 #[.pointer (some ⟨bb,0,none⟩)] w fun e w'=>e = .returned (.bool ((len:Int) != 512))/\w=w':=by
 go_enter Tryz.func55,Tryz.ntmps55
 go_wp2
 go_ret
 exact⟨rfl,rfl⟩
theorem psetroot1_ask {w:World}{bi:Nat}{i:Int}(h0:w.cell? ⟨bi,0,none⟩=some (.int .i64 i)):Calls Tryz.prog 56 #[.pointer (some ⟨bi,0,none⟩)] w fun e w'=>e = .returned (.bool (decide (i<0∨16<=i)))/\w=w':=by
 by_cases hl:i<0
 ·have hd:decide (i<0∨16<=i)=true:=by simp[hl]
  rw[hd]
  go_enter Tryz.func56,Tryz.ntmps56
  go_wp2
  go_ret
  exact⟨rfl,rfl⟩
 ·by_cases h16:16<=i
  ·have hd:decide (i<0∨16<=i)=true:=by simp[h16]
   rw[hd]
   go_enter Tryz.func56,Tryz.ntmps56
   go_wp2
   go_ret
   exact⟨rfl,rfl⟩
  ·have hd:decide (i<0∨16<=i)=false:=by simp[hl,h16]
   rw[hd]
   go_enter Tryz.func56,Tryz.ntmps56
   go_wp2
   go_ret
   exact⟨rfl,rfl⟩
structure AnsF (w:World)(fn:Nat)(xs:Array Value)(b:Bool):Prop where
 enters:∀args w,(callFunc fn args).run Tryz.prog w = .ok (.enter fn args) w
 says:∀W,Below w.heap.size w W->Calls Tryz.prog fn xs W fun e w'=>e = .returned (.bool b)/\Below W.heap.size W w'
theorem AnsF.later {w w':World}{fn:Nat}{xs:Array Value}{b:Bool}(h:AnsF w fn xs b)(hB:Below w.heap.size w w'):AnsF w' fn xs b:=⟨h.enters,fun W hW=>h.says W (hB.trans (hW.mono hB.size))⟩
theorem pasked2_bound {w:World}{fn:Nat}{x:Value}{er:Int}{b:Bool}(h:AnsF w fn #[x] b):Calls Tryz.prog 78 #[.agg #[.func (.func fn) #[x] #[],.int .i64 er]] w fun e w'=>e = .returned (.bool b)/\Below w.heap.size w w':=by
 have hB1:Below w.heap.size w (w.alloc (.cells #[.func (.func fn) #[x] #[],.int .i64 er] 92)):=(Below.refl _ w).alloc (zG _) _
 have H:=h.says _ hB1
 have eg:=h.enters
 have hs1:=hB1.size
 clear h
 go_enter Tryz.func78,Tryz.ntmps78
 go_wp2_with fail
 refine H.mono ?_
 rintro e w' ⟨rfl,hB⟩
 go_wp2
 go_ret
 exact⟨rfl,hB1.trans (hB.mono hs1)⟩
theorem pasked2_one {w:World}{fn:Nat}{x:Value}{er:Int}{b:Bool}(h:AnsF w fn #[x] b):Calls Tryz.prog 78 #[.agg #[.func (.func fn) #[] #[x],.int .i64 er]] w fun e w'=>e = .returned (.bool b)/\Below w.heap.size w w':=by
 have hB1:Below w.heap.size w (w.alloc (.cells #[.func (.func fn) #[] #[x],.int .i64 er] 92)):=(Below.refl _ w).alloc (zG _) _
 have H:=h.says _ hB1
 have eg:=h.enters
 have hs1:=hB1.size
 clear h
 go_enter Tryz.func78,Tryz.ntmps78
 go_wp2_with fail
 refine H.mono ?_
 rintro e w' ⟨rfl,hB⟩
 go_wp2
 go_ret
 exact⟨rfl,hB1.trans (hB.mono hs1)⟩
theorem pasked2_two {w:World}{fn:Nat}{x y:Value}{er:Int}{b:Bool}(h:AnsF w fn #[x,y] b):Calls Tryz.prog 78 #[.agg #[.func (.func fn) #[] #[x,y],.int .i64 er]] w fun e w'=>e = .returned (.bool b)/\Below w.heap.size w w':=by
 have hB1:Below w.heap.size w (w.alloc (.cells #[.func (.func fn) #[] #[x,y],.int .i64 er] 92)):=(Below.refl _ w).alloc (zG _) _
 have H:=h.says _ hB1
 have eg:=h.enters
 have hs1:=hB1.size
 clear h
 go_enter Tryz.func78,Tryz.ntmps78
 go_wp2_with fail
 refine H.mono ?_
 rintro e w' ⟨rfl,hB⟩
 go_wp2
 go_ret
 exact⟨rfl,hB1.trans (hB.mono hs1)⟩
theorem pasked2_three {w:World}{fn:Nat}{x y z:Value}{er:Int}{b:Bool}(h:AnsF w fn #[x,y,z] b):Calls Tryz.prog 78 #[.agg #[.func (.func fn) #[] #[x,y,z],.int .i64 er]] w fun e w'=>e = .returned (.bool b)/\Below w.heap.size w w':=by
 have hB1:Below w.heap.size w (w.alloc (.cells #[.func (.func fn) #[] #[x,y,z],.int .i64 er] 92)):=(Below.refl _ w).alloc (zG _) _
 have H:=h.says _ hB1
 have eg:=h.enters
 have hs1:=hB1.size
 clear h
 go_enter Tryz.func78,Tryz.ntmps78
 go_wp2_with fail
 refine H.mono ?_
 rintro e w' ⟨rfl,hB⟩
 go_wp2
 go_ret
 exact⟨rfl,hB1.trans (hB.mono hs1)⟩
theorem rowPAsk:RowTy Tryz.prog 92 2:=⟨⟨_,Tryz.underlying92,rfl⟩,by kernel_rfl⟩
structure PAsk where
 f:Value
 er:Int
 b:Bool
deriving Inhabited
def paskC (x:PAsk):List Value:=[x.f,.int .i64 x.er]
def pasksC (l:List PAsk):List Value:=(l.map paskC).flatten
theorem pasksC_elem:∀(xs:List PAsk) (j:Nat) (h:j<xs.length),((pasksC xs).drop (j*2)).take 2=paskC xs[j]
 | x::xs,0,_=>by
  have e:pasksC (x::xs)=paskC x++pasksC xs:=rfl
  rw[e]
  rfl
 | x::xs,j+1,h=>by
  have e:pasksC (x::xs)=paskC x++pasksC xs:=rfl
  rw[e,show (j+1)*2=2+j*2 by omega,<-List.drop_drop]
  exact pasksC_elem xs j (by simpa using h)
def PAskIs (w:World)(x:PAsk):Prop:=∀W,Below w.heap.size w W->Calls Tryz.prog 78 #[.agg #[x.f,.int .i64 x.er]] W fun e w'=>e = .returned (.bool x.b)/\Below W.heap.size W w'
theorem pindex_gives (w:World)(A:Option Addr)(c:Nat)(xs:List PAsk)(h:InG w w.heap.size 2 A xs.length c (pasksC xs))(hl:xs.length<=1000)(ha:∀k (hk:k<xs.length),(∀j (hj:j<xs.length),j<k->xs[j].b=false)->PAskIs w xs[k]) :
  Calls Tryz.prog 77 #[.slice A xs.length c,.func (.func 78) #[] #[]] w fun e w'=>Below w.heap.size w w'/\((∃k,∃hk:k<xs.length,e = .returned (.int .i64 (k:Int))/\xs[k].b=true/\∀j (hj:j<xs.length),j<k->xs[j].b=false)∨(e = .returned (.int .i64 (-1))/\∀x∈xs,x.b=false)):=by
 go_enter Tryz.func77,Tryz.ntmps77
 go_wp2_with fail
 go_loopw [8] (fun i wr=>∃k:Nat,k<=xs.length/\i = .int .i64 (k:Int)/\Hid (∀j (hj:j<xs.length),j<k->xs[j].b=false)/\Below w.heap.size w wr) (fun i _=>xs.length - (intOf i).toNat)
 case atStart=>exact⟨0,Nat.zero_le _,rfl,Lib.hid (fun j _ h=>by omega),Below.refl _ _⟩
 case round =>
  obtain⟨k,hk,rfl,HA,hB⟩:=hrel
  by_cases hlt:k<xs.length
  ·obtain⟨g,o,rfl,hg,_⟩:=h.lies (by omega)
   have hr:=h.elem k hlt
   rw[pasksC_elem xs k hlt] at hr
   have hx:=ha k hlt HA.out wr hB
   obtain⟨x,hxe⟩:∃x,x=xs[k]:=⟨_,rfl⟩
   rw[<-hxe] at hr hx
   have HXE:=Lib.hid hxe
   have hRg:wr.rangeAt g (o+k*2) (paskC x):=fun j v hj=>(hB.cell (p:=⟨g,o+k*2+j,none⟩) hg).trans (hr j v hj)
   have hwk:IntKind.i64.wrap ((k:Int)+1)=(k:Int)+1:=wrap_i64_fr _ (by omega) (by omega)
   have hBs:=hB.size
   obtain⟨f,er,b⟩:=x
   clear hr hxe ha h
   cases b
   ·have HN:Hid (∀j (hj:j<xs.length),j<k+1->xs[j].b=false):=Lib.hid (fun j hj h1=>by
     by_cases e:j=k
     ·subst e;rw[<-HXE.out]
     ·exact HA.out j hj (by omega))
    go_wp2_with (first
     | (refine wp_exec rfl (x_loadM rowPAsk hRg rfl rfl rfl) ?_)
     | (go_at_call 78;refine hx.mono ?_;rintro e w2 ⟨rfl,hB2⟩))
    exact⟨⟨k+1,by omega,by simp,HN,hB.trans (hB2.mono hBs)⟩,by simp[intOf];omega⟩
   ·go_wp2_with (first
     | (refine wp_exec rfl (x_loadM rowPAsk hRg rfl rfl rfl) ?_)
     | (go_at_call 78;refine hx.mono ?_;rintro e w2 ⟨rfl,hB2⟩))
    go_ret
    exact⟨hB.trans (hB2.mono hBs),.inl ⟨k,hlt,rfl,by rw[<-HXE.out],HA.out⟩⟩
  ·obtain rfl:k=xs.length:=by omega
   clear ha h
   go_wp2
   go_ret
   refine⟨hB,.inr ⟨rfl,fun x hx => ?_⟩⟩
   obtain⟨j,hj,rfl⟩:=List.getElem_of_mem hx
   exact HA.out j hj hj
theorem ansNone {w:World}{p a:Nat}(hc:w.cell? ⟨p,19,none⟩=some (.pointer (some ⟨a,0,none⟩)))(hp:p<w.heap.size):AnsF w 46 #[.pointer (some ⟨p,0,none⟩)] false :=
 ⟨enters_of Tryz.func46 (by kernel_rfl) rfl,fun W hW=>by
  refine(pnone_gives ((hW.cell (p:=⟨p,19,none⟩) hp).trans hc)).mono ?_
  rintro e w' ⟨rfl,rfl⟩
  exact⟨rfl,Below.refl _ _⟩⟩
theorem ansNil (w:World):AnsF w 46 #[.pointer none] true :=
 ⟨enters_of Tryz.func46 (by kernel_rfl) rfl,fun W hW=>by
  refine(pnone_nil W).mono ?_
  rintro e w' ⟨rfl,rfl⟩
  exact⟨rfl,Below.refl _ _⟩⟩
theorem ansEmpty {w:World}{p:Nat}(hc:w.cell? ⟨p,19,none⟩=some (.pointer none))(hp:p<w.heap.size):AnsF w 46 #[.pointer (some ⟨p,0,none⟩)] true :=
 ⟨enters_of Tryz.func46 (by kernel_rfl) rfl,fun W hW=>by
  refine(pnone_empty ((hW.cell (p:=⟨p,19,none⟩) hp).trans hc)).mono ?_
  rintro e w' ⟨rfl,rfl⟩
  exact⟨rfl,Below.refl _ _⟩⟩
theorem ansUnder {w:World}{bp bu p:Nat}{b u:Bool}(h0:w.cell? ⟨bp,0,none⟩=some (.pointer (some ⟨p,0,none⟩)))(h1:w.cell? ⟨bu,0,none⟩=some (.bool u))(h2:w.cell? ⟨p,39,none⟩=some (.bool b))(l0:bp<w.heap.size)(l1:bu<w.heap.size)(l2:p<w.heap.size):AnsF w 76 #[.pointer (some ⟨bp,0,none⟩),.pointer (some ⟨bu,0,none⟩)] (b != u) :=
 ⟨enters_of Tryz.func76 (by kernel_rfl) rfl,fun W hW=>pasked1_gives ((hW.cell (p:=⟨bp,0,none⟩) l0).trans h0) ((hW.cell (p:=⟨bu,0,none⟩) l1).trans h1) ((hW.cell (p:=⟨p,39,none⟩) l2).trans h2)⟩
theorem ansThere {w:World}{bn bl bp p:Nat}{n least size:Int}(h0:w.cell? ⟨bn,0,none⟩=some (.int .i64 n))(h1:w.cell? ⟨bl,0,none⟩=some (.int .i64 least))(h2:w.cell? ⟨bp,0,none⟩=some (.pointer (some ⟨p,0,none⟩)))(h3:w.cell? ⟨p,0,none⟩=some (.int .i64 size))(l0:bn<w.heap.size)(l1:bl<w.heap.size)(l2:bp<w.heap.size)(l3:p<w.heap.size):AnsF w 87 #[.pointer (some ⟨bn,0,none⟩),.pointer (some ⟨bl,0,none⟩),.pointer (some ⟨bp,0,none⟩)] (decide (n<least∨size<=n)) :=
 ⟨enters_of Tryz.func87 (by kernel_rfl) rfl,fun W hW=>pthere1_gives ((hW.cell (p:=⟨bn,0,none⟩) l0).trans h0) ((hW.cell (p:=⟨bl,0,none⟩) l1).trans h1) ((hW.cell (p:=⟨bp,0,none⟩) l2).trans h2) ((hW.cell (p:=⟨p,0,none⟩) l3).trans h3)⟩
theorem ansMarked {w:World}{bn bp p len c:Nat}{A:Option Addr}{n:Int}(h0:w.cell? ⟨bn,0,none⟩=some (.int .i64 n))(h1:w.cell? ⟨bp,0,none⟩=some (.pointer (some ⟨p,0,none⟩)))(h2:w.cell? ⟨p,40,none⟩=some (.slice A len c))(l0:bn<w.heap.size)(l1:bp<w.heap.size)(l2:p<w.heap.size):AnsF w 82 #[.pointer (some ⟨bn,0,none⟩),.pointer (some ⟨bp,0,none⟩)] (decide (n<0∨(len:Int)<=n)) :=
 ⟨enters_of Tryz.func82 (by kernel_rfl) rfl,fun W hW=>pmarked1_gives ((hW.cell (p:=⟨bn,0,none⟩) l0).trans h0) ((hW.cell (p:=⟨bp,0,none⟩) l1).trans h1) ((hW.cell (p:=⟨p,40,none⟩) l2).trans h2)⟩
theorem PAskIs.bound {w:World}{fn:Nat}{x:Value}{b:Bool}(er:Int)(h:AnsF w fn #[x] b):PAskIs w ⟨.func (.func fn) #[x] #[],er,b⟩:=fun _ hW=>pasked2_bound (h.later hW)
theorem PAskIs.one {w:World}{fn:Nat}{x:Value}{b:Bool}(er:Int)(h:AnsF w fn #[x] b):PAskIs w ⟨.func (.func fn) #[] #[x],er,b⟩:=fun _ hW=>pasked2_one (h.later hW)
theorem PAskIs.two {w:World}{fn:Nat}{x y:Value}{b:Bool}(er:Int)(h:AnsF w fn #[x,y] b):PAskIs w ⟨.func (.func fn) #[] #[x,y],er,b⟩:=fun _ hW=>pasked2_two (h.later hW)
theorem PAskIs.three {w:World}{fn:Nat}{x y z:Value}{b:Bool}(er:Int)(h:AnsF w fn #[x,y,z] b):PAskIs w ⟨.func (.func fn) #[] #[x,y,z],er,b⟩:=fun _ hW=>pasked2_three (h.later hW)
theorem PAskIs.later {w w':World}{x:PAsk}(h:PAskIs w x)(hB:Below w.heap.size w w'):PAskIs w' x:=fun W hW=>h W (hB.trans (hW.mono hB.size))
theorem pgC_size' {s l:PgSt}{cv mk:Value}{under:Bool}(hs:s.roots.length=16)(hl:l.roots.length=16):(pgC s cv l under mk).size=41:=by
 unfold pgC
 simp[psC_length hs,psC_length hl]
structure PaIs (W0:World)(K:PgK)(p:Nat)(v:PgV)(st last:PgSt)(under:Bool)(mk:Value)(W:World):Prop where
 ca:CaAt W0 K v W
 pb:BlkIs W p 55 (pgC st (.pointer (some ⟨K.a,0,none⟩)) last under mk)
 np:W0.heap.size<=p
 hs:st.roots.length=16
 hl:last.roots.length=16
def cntD (P:Nat)(D:Int->Option (List UInt8)):Nat:=((List.range P).filter fun k:Nat=>(D (k:Int)).isSome).length
def pgMu (K:PgK)(p:Nat)(v:PgV)(k:Nat):Prop:=k=p∨K.mu v k
section
variable {W0 W W':World}{K:PgK}{p:Nat}{v v':PgV}{st last st' last':PgSt}{under under':Bool}{mk mk':Value}
theorem CaAt.ge (h:CaAt W0 K v W):∀k,K.mu v k->W0.heap.size<=k:=CfIs.ge h.cs
theorem CaAt.lts (h:CaAt W0 K v W):∀k,K.mu v k->k<W.heap.size:=CfIs.lts h.cs
theorem PaIs.sm (h:PaIs W0 K p v st last under mk W):SmBlk W p :=
 ⟨.inr (.inl ⟨_,_,h.pb,by rw[pgC_size' h.hs h.hl];decide,fun n e=>by cases e⟩),.inr (.inl ⟨_,_,h.pb,by rw[pgC_size' h.hs h.hl];decide⟩)⟩
theorem CaAt.notPg (h:CaAt W0 K v W){cs:Array Value}(hb:BlkIs W p 55 cs):¬ K.mu v p/\p≠K.f:=by
 obtain⟨_,_,_,_,hd⟩:=DkIs.bk h.cs.fh.dk
 obtain⟨_,_,_,hl⟩:=h.cs.fh.lg.lg
 refine⟨fun hk => ?_,fun e=>BlkIs.ne_type hb h.cs.fh.fb (by decide) e⟩
 rcases hk with e|e|e
 ·exact BlkIs.ne_type hb hd (by decide) e
 ·exact BlkIs.ne_type hb hl (by decide) e
 ·exact CaIs.notTy h.cs.ca hb (by decide) (by decide) e
theorem PaIs.grow (h:PaIs W0 K p v st last under mk W)(hB:Below W.heap.size W W'):PaIs W0 K p v st last under mk W':=⟨h.ca.grow hB,h.pb.below hB h.pb.lt,h.np,h.hs,h.hl⟩
theorem PaIs.turn (h:PaIs W0 K p v st last under mk W)(hG:GrowBut (K.mu v) W W')(hC:CaAt W0 K v' W'):PaIs W0 K p v' st last under mk W':=⟨hC,hG.blk h.pb (h.ca.notPg h.pb).1,h.np,h.hs,h.hl⟩
theorem PaIs.own (h:PaIs W0 K p v st last under mk W)(hG:GrowBut (fun k=>k=p) W W')(hb:BlkIs W' p 55 (pgC st' (.pointer (some ⟨K.a,0,none⟩)) last' under' mk'))(hs:st'.roots.length=16)(hl:last'.roots.length=16):PaIs W0 K p v st' last' under' mk' W' :=
 ⟨h.ca.keep hG (fun k e=>by subst e;exact h.sm) (fun k e=>by subst e;exact h.np) (fun k e=>by subst e;exact h.ca.notPg h.pb),hb,h.np,hs,hl⟩
theorem PaIs.chc (h:PaIs W0 K p v st last under mk W):W.cell? ⟨p,19,none⟩=some (.pointer (some ⟨K.a,0,none⟩)):=by rw[h.pb.cell];exact pgC_c h.hs
theorem PaIs.und (h:PaIs W0 K p v st last under mk W):W.cell? ⟨p,39,none⟩=some (.bool under):=by rw[h.pb.cell];exact pgC_under h.hs h.hl
theorem PaIs.mks (h:PaIs W0 K p v st last under mk W):W.cell? ⟨p,40,none⟩=some mk:=by rw[h.pb.cell];exact pgC_marks h.hs h.hl
theorem PaIs.szc (h:PaIs W0 K p v st last under mk W):W.cell? ⟨p,0,none⟩=some (.int .i64 st.size):=by rw[h.pb.cell];exact pgC_size h.hs
theorem PaIs.fic (h:PaIs W0 K p v st last under mk W):W.cell? ⟨p,1,none⟩=some (.int .i64 st.first):=by rw[h.pb.cell];exact pgC_first h.hs
theorem PaIs.mac (h:PaIs W0 K p v st last under mk W):W.cell? ⟨p,2,none⟩=some (.int .i64 st.many):=by rw[h.pb.cell];exact pgC_many h.hs
end
end Go.Proofs.YtnlimngkagmjpaaGreat
