/- Texts that the proof of CacheHolds leans on, part 12. -/
import Derived.Laws.LoneSync
import Derived.Test.YtmllnpjldmdaeaaGreatCacheHoldsB11
set_option maxRecDepth 100000
set_option maxHeartbeats 8000000

namespace Go.Proofs.YtmllnpjldmdaeaaGreat
open Go Go.RowKit Lou Go.Shelf Go.Sort
theorem updV_updV (V:RowsV)(k:Int)(x y:Option RowV):updV (updV V k x) k y=updV V k y:=by
  funext j
  unfold updV
  split<;>rfl
def usedAt (V:RowsV)(k:Int):Int:=match V k with|some v=>v.at_|none=>0
def clV (V:RowsV)(k:Int):Bool:=match V k with|some v => !v.d|none=>true
theorem cmpZ_lt {a b:Int}:cmpZ a b<0↔a<b:=by
  unfold cmpZ
  split
  · constructor<;>intro<;>omega
  · split<;>constructor<;>intro<;>omega
theorem swoAt (V:RowsV):SWO (ltOf fun x y=>cmpZ (usedAt V x) (usedAt V y)):=by
  have e:∀x y,ltOf (fun x y=>cmpZ (usedAt V x) (usedAt V y)) x y=decide (usedAt V x<usedAt V y):=fun x y=>by unfold ltOf;simp only[cmpZ_lt]
  refine⟨fun x => ?_,fun x y z h1 h2 => ?_,fun x y z h1 h2 => ?_⟩<;>simp only[e,decide_eq_true_eq,decide_eq_false_iff_not] at *<;>omega
theorem clean_gives {W:World}{v:RowV}(hb:BlkIs W v.b 85 (rowC v)):Calls Tryz.prog 44 #[.pointer (some ⟨v.b,0,none⟩)] W fun e w'=>e = .returned (.bool (!v.d))/\W=w':=by
  have k2:W.cell? ⟨v.b,2,none⟩=some (.bool v.d):=by rw[hb.cell];rfl
  go_enter Tryz.func44,Tryz.ntmps44
  go_wp2
  go_ret
  exact⟨rfl,rfl⟩
theorem used_gives {W:World}{v:RowV}(hb:BlkIs W v.b 85 (rowC v))(n:Int):Calls Tryz.prog 47 #[.pointer (some ⟨v.b,0,none⟩),.int .i64 n] W fun e w'=>e = .returned (.tuple #[])/\w'=W.setCell ⟨v.b,0,none⟩ (.int .i64 n):=by
  have k2:W.cell? ⟨v.b,0,none⟩=some (.int .i64 v.at_):=by rw[hb.cell];rfl
  have k3:=hb.free 0
  go_enter Tryz.func47,Tryz.ntmps47
  go_wp2
  go_end0
  exact⟨rfl,rfl⟩
theorem older_gives {W:World}{bx a f r P:Nat}{room now hh mm:Int}{V:RowsV}(h:CaIs W a f r P room now hh mm V)(hbx:BlkIs W bx 28 #[.pointer (some ⟨a,0,none⟩)]){x y:Int}{u v:RowV}(hu:V x=some u)(hv:V y=some v) :
    Calls Tryz.prog 45 #[.int .i64 x,.int .i64 y,.pointer (some ⟨bx,0,none⟩)] W fun e w'=>e = .returned (.int .i64 (cmpZ u.at_ v.at_))/\∃q os,w'=grow (W.drewN q) os:=by
  obtain⟨es,clock,hmi,he,_⟩:=h.mp
  have k1:W.drew.cell? ⟨bx,0,none⟩=some (.pointer (some ⟨a,0,none⟩)):=hbx.boxed
  have k2:W.drew.cell? ⟨a,3,none⟩=some (.map (some r)):=(h.cb.cell _).trans rfl
  have k3:W.drew.cell? ⟨u.b,0,none⟩=some (.int .i64 u.at_):=((h.rows x u hu).blk.cell _).trans rfl
  have k4:W.drew.cell? ⟨v.b,0,none⟩=some (.int .i64 v.at_):=((h.rows y v hv).blk.cell _).trans rfl
  have k5:MapIs W.drew r es clock:=hmi
  have pu:=ptrV_some hu
  have pv:=ptrV_some hv
  have hS0:W.drew.cell? ⟨bx,0,none⟩=some (.pointer (some ⟨a,0,none⟩))/\W.drew.cell? ⟨a,3,none⟩=some (.map (some r))/\W.drew.cell? ⟨u.b,0,none⟩=some (.int .i64 u.at_)/\W.drew.cell? ⟨v.b,0,none⟩=some (.int .i64 v.at_)/\MapIs W.drew r es clock:=⟨k1,k2,k3,k4,k5⟩
  clear k1 k2 k3 k4 k5 h hbx hmi
  go_enter Tryz.func45,Tryz.ntmps45
  go_wp2_with fail
  refine RegF.start (fun W:World=>W.cell? ⟨bx,0,none⟩=some (.pointer (some ⟨a,0,none⟩))/\W.cell? ⟨a,3,none⟩=some (.map (some r))/\W.cell? ⟨u.b,0,none⟩=some (.int .i64 u.at_)/\W.cell? ⟨v.b,0,none⟩=some (.int .i64 v.at_)/\MapIs W r es clock) 99 (by kernel_rfl) ?_
  refine RegF.take0 0 (.pointer (some ⟨a,0,none⟩)) rfl (by kernel_rfl) (by kernel_rfl) (by kernel_rfl) rfl (fun _ _ _ h=>h) hS0 (RegF.yld rfl (fun W hW=>by obtain⟨e0,e1,e2,e3,e4⟩:=hW;go_simp)) ?_
  simp only[List.getElem_toArray,List.getElem_cons_zero,Act.put,List.setIfInBounds_toArray,List.set_cons_zero,List.set_cons_succ]
  refine RegF.take0 1 (.pointer (some ⟨a,0,none⟩)) rfl (by kernel_rfl) (by kernel_rfl) (by kernel_rfl) rfl (fun _ _ _ h=>h) hS0 (RegF.yld rfl (fun W hW=>by obtain⟨e0,e1,e2,e3,e4⟩:=hW;go_simp)) ?_
  simp only[List.getElem_toArray,List.getElem_cons_succ,List.getElem_cons_zero,Act.put,List.setIfInBounds_toArray,List.set_cons_zero,List.set_cons_succ]
  refine RegF.take0 2 (.pointer (some ⟨a,3,none⟩)) rfl (by kernel_rfl) (by kernel_rfl) (by kernel_rfl) rfl (fun _ _ _ h=>h) hS0 (RegF.yld rfl (fun W hW=>by obtain⟨e0,e1,e2,e3,e4⟩:=hW;go_simp)) ?_
  simp only[List.getElem_toArray,List.getElem_cons_succ,List.getElem_cons_zero,Act.put,List.setIfInBounds_toArray,List.set_cons_zero,List.set_cons_succ]
  refine RegF.take0 3 (.map (some r)) rfl (by kernel_rfl) (by kernel_rfl) (by kernel_rfl) rfl (fun _ _ _ h=>h) hS0 (RegF.yld rfl (fun W hW=>by obtain⟨e0,e1,e2,e3,e4⟩:=hW;go_simp)) ?_
  simp only[List.getElem_toArray,List.getElem_cons_succ,List.getElem_cons_zero,Act.put,List.setIfInBounds_toArray,List.set_cons_zero,List.set_cons_succ]
  refine RegF.take0 4 (.int .i64 x) rfl (by kernel_rfl) (by kernel_rfl) (by kernel_rfl) rfl (fun _ _ _ h=>h) hS0 (RegF.yld rfl (fun W hW=>by obtain⟨e0,e1,e2,e3,e4⟩:=hW;go_simp)) ?_
  simp only[List.getElem_toArray,List.getElem_cons_succ,List.getElem_cons_zero,Act.put,List.setIfInBounds_toArray,List.set_cons_zero,List.set_cons_succ]
  refine RegF.take0 5 (.pointer (some ⟨u.b,0,none⟩)) rfl (by kernel_rfl) (by kernel_rfl) (by kernel_rfl) rfl (fun _ _ _ h=>h) hS0 (RegF.yld rfl (fun W hW=>lookR he hW.2.2.2.2 pu rfl rfl rfl)) ?_
  simp only[List.getElem_toArray,List.getElem_cons_succ,List.getElem_cons_zero,Act.put,List.setIfInBounds_toArray,List.set_cons_zero,List.set_cons_succ]
  refine RegF.take0 6 (.pointer (some ⟨u.b,0,none⟩)) rfl (by kernel_rfl) (by kernel_rfl) (by kernel_rfl) rfl (fun _ _ _ h=>h) hS0 (RegF.yld rfl (fun W hW=>by obtain⟨e0,e1,e2,e3,e4⟩:=hW;go_simp)) ?_
  simp only[List.getElem_toArray,List.getElem_cons_succ,List.getElem_cons_zero,Act.put,List.setIfInBounds_toArray,List.set_cons_zero,List.set_cons_succ]
  refine RegF.take0 7 (.pointer (some ⟨u.b,0,none⟩)) rfl (by kernel_rfl) (by kernel_rfl) (by kernel_rfl) rfl (fun _ _ _ h=>h) hS0 (RegF.yld rfl (fun W hW=>by obtain⟨e0,e1,e2,e3,e4⟩:=hW;go_simp)) ?_
  simp only[List.getElem_toArray,List.getElem_cons_succ,List.getElem_cons_zero,Act.put,List.setIfInBounds_toArray,List.set_cons_zero,List.set_cons_succ]
  refine RegF.take0 8 (.pointer (some ⟨u.b,0,none⟩)) rfl (by kernel_rfl) (by kernel_rfl) (by kernel_rfl) rfl (fun _ _ _ h=>h) hS0 (RegF.yld rfl (fun W hW=>by obtain⟨e0,e1,e2,e3,e4⟩:=hW;go_simp)) ?_
  simp only[List.getElem_toArray,List.getElem_cons_succ,List.getElem_cons_zero,Act.put,List.setIfInBounds_toArray,List.set_cons_zero,List.set_cons_succ]
  refine RegF.take0 9 (.int .i64 u.at_) rfl (by kernel_rfl) (by kernel_rfl) (by kernel_rfl) rfl (fun _ _ _ h=>h) hS0 (RegF.yld rfl (fun W hW=>by obtain⟨e0,e1,e2,e3,e4⟩:=hW;go_simp)) ?_
  simp only[List.getElem_toArray,List.getElem_cons_succ,List.getElem_cons_zero,Act.put,List.setIfInBounds_toArray,List.set_cons_zero,List.set_cons_succ]
  refine RegF.take0 10 (.pointer (some ⟨a,0,none⟩)) rfl (by kernel_rfl) (by kernel_rfl) (by kernel_rfl) rfl (fun _ _ _ h=>h) hS0 (RegF.yld rfl (fun W hW=>by obtain⟨e0,e1,e2,e3,e4⟩:=hW;go_simp)) ?_
  simp only[List.getElem_toArray,List.getElem_cons_succ,List.getElem_cons_zero,Act.put,List.setIfInBounds_toArray,List.set_cons_zero,List.set_cons_succ]
  refine RegF.take0 11 (.pointer (some ⟨a,0,none⟩)) rfl (by kernel_rfl) (by kernel_rfl) (by kernel_rfl) rfl (fun _ _ _ h=>h) hS0 (RegF.yld rfl (fun W hW=>by obtain⟨e0,e1,e2,e3,e4⟩:=hW;go_simp)) ?_
  simp only[List.getElem_toArray,List.getElem_cons_succ,List.getElem_cons_zero,Act.put,List.setIfInBounds_toArray,List.set_cons_zero,List.set_cons_succ]
  refine RegF.take0 12 (.pointer (some ⟨a,3,none⟩)) rfl (by kernel_rfl) (by kernel_rfl) (by kernel_rfl) rfl (fun _ _ _ h=>h) hS0 (RegF.yld rfl (fun W hW=>by obtain⟨e0,e1,e2,e3,e4⟩:=hW;go_simp)) ?_
  simp only[List.getElem_toArray,List.getElem_cons_succ,List.getElem_cons_zero,Act.put,List.setIfInBounds_toArray,List.set_cons_zero,List.set_cons_succ]
  refine RegF.take0 13 (.map (some r)) rfl (by kernel_rfl) (by kernel_rfl) (by kernel_rfl) rfl (fun _ _ _ h=>h) hS0 (RegF.yld rfl (fun W hW=>by obtain⟨e0,e1,e2,e3,e4⟩:=hW;go_simp)) ?_
  simp only[List.getElem_toArray,List.getElem_cons_succ,List.getElem_cons_zero,Act.put,List.setIfInBounds_toArray,List.set_cons_zero,List.set_cons_succ]
  refine RegF.take0 14 (.int .i64 y) rfl (by kernel_rfl) (by kernel_rfl) (by kernel_rfl) rfl (fun _ _ _ h=>h) hS0 (RegF.yld rfl (fun W hW=>by obtain⟨e0,e1,e2,e3,e4⟩:=hW;go_simp)) ?_
  simp only[List.getElem_toArray,List.getElem_cons_succ,List.getElem_cons_zero,Act.put,List.setIfInBounds_toArray,List.set_cons_zero,List.set_cons_succ]
  refine RegF.take0 15 (.pointer (some ⟨v.b,0,none⟩)) rfl (by kernel_rfl) (by kernel_rfl) (by kernel_rfl) rfl (fun _ _ _ h=>h) hS0 (RegF.yld rfl (fun W hW=>lookR he hW.2.2.2.2 pv rfl rfl rfl)) ?_
  simp only[List.getElem_toArray,List.getElem_cons_succ,List.getElem_cons_zero,Act.put,List.setIfInBounds_toArray,List.set_cons_zero,List.set_cons_succ]
  refine RegF.take0 16 (.pointer (some ⟨v.b,0,none⟩)) rfl (by kernel_rfl) (by kernel_rfl) (by kernel_rfl) rfl (fun _ _ _ h=>h) hS0 (RegF.yld rfl (fun W hW=>by obtain⟨e0,e1,e2,e3,e4⟩:=hW;go_simp)) ?_
  simp only[List.getElem_toArray,List.getElem_cons_succ,List.getElem_cons_zero,Act.put,List.setIfInBounds_toArray,List.set_cons_zero,List.set_cons_succ]
  refine RegF.take0 17 (.pointer (some ⟨v.b,0,none⟩)) rfl (by kernel_rfl) (by kernel_rfl) (by kernel_rfl) rfl (fun _ _ _ h=>h) hS0 (RegF.yld rfl (fun W hW=>by obtain⟨e0,e1,e2,e3,e4⟩:=hW;go_simp)) ?_
  simp only[List.getElem_toArray,List.getElem_cons_succ,List.getElem_cons_zero,Act.put,List.setIfInBounds_toArray,List.set_cons_zero,List.set_cons_succ]
  refine RegF.take0 18 (.pointer (some ⟨v.b,0,none⟩)) rfl (by kernel_rfl) (by kernel_rfl) (by kernel_rfl) rfl (fun _ _ _ h=>h) hS0 (RegF.yld rfl (fun W hW=>by obtain⟨e0,e1,e2,e3,e4⟩:=hW;go_simp)) ?_
  simp only[List.getElem_toArray,List.getElem_cons_succ,List.getElem_cons_zero,Act.put,List.setIfInBounds_toArray,List.set_cons_zero,List.set_cons_succ]
  refine RegF.take0 19 (.int .i64 v.at_) rfl (by kernel_rfl) (by kernel_rfl) (by kernel_rfl) rfl (fun _ _ _ h=>h) hS0 (RegF.yld rfl (fun W hW=>by obtain⟨e0,e1,e2,e3,e4⟩:=hW;go_simp)) ?_
  simp only[List.getElem_toArray,List.getElem_cons_succ,List.getElem_cons_zero,Act.put,List.setIfInBounds_toArray,List.set_cons_zero,List.set_cons_succ]
  refine RegF.one 20 (by kernel_rfl) ?_
  refine RegF.opC 46 #[.tmp 15,.tmp 25] #[3,3] rfl rfl rfl (enters_of Tryz.func46 (by kernel_rfl) rfl) #[.int .i64 u.at_,.int .i64 v.at_] (by simp only[List.map_toArray,List.map_cons,List.map_nil];rfl) ((cmpInt_gives _ _ _).mono ?_)
  rintro e w2 ⟨rfl,rfl⟩
  refine⟨_,rfl,fun _=>hS0,?_⟩
  simp only[List.getElem_toArray,List.getElem_cons_succ,List.getElem_cons_zero,Act.put,List.setIfInBounds_toArray,List.set_cons_zero,List.set_cons_succ]
  refine RegF.one 21 (by kernel_rfl) (RegF.opV (w':=W.drew) (.int .i64 (cmpZ u.at_ v.at_)) rfl rfl (by go_simp) ⟨fun _=>hS0,RegF.done (by kernel_rfl) ?_⟩)
  simp only[List.getElem_toArray,List.getElem_cons_succ,List.getElem_cons_zero,Act.put,List.setIfInBounds_toArray,List.set_cons_zero,List.set_cons_succ]
  go_wp2
  go_ret
  exact⟨rfl,1,#[],by rw[grow_empty];rfl⟩
section
variable {ops:Array Oper}{Q:Exit->Act->World->Prop}{a:Act}{w:World}{r clock:Nat}{k:Int}{es:Array MapEntry}{f:Int->Option Value}{x y z:Operand}{o:Oper}
theorem wp_putR {rest:List Oper}{l:Value}(hg:o.guard=none)(ho:o.op = .mapUpdate 70 x y z)(h1:a.eval x = .map (some r))(h2:a.eval y = .int .i64 k)(h3:a.eval z=l)(he:EnV es f)(hst:MapKept.Stamped es clock)(hm:MapIs w r es clock)
    (h:∀es' clock',EnV es' (fsetV f k (some l))->MapKept.Stamped es' clock'->wpList Tryz.prog ops Q rest (a.put o.dst undef) (setMap w r es' clock')):wpList Tryz.prog ops Q (o::rest) a w:=by
  obtain⟨es',clock',hr,he',hs'⟩:=x_putT (ρ:=a.eval) (o:=o) Tryz.underlying70 he hst hm ho h1 h2 h3
  exact wp_execS hg hr (h es' clock' he' hs')
theorem opDelR {i:Nat}{K:Act->World->Prop}(ho:ops[i]? = some o)(hg:o.guard=none)(hop:o.op = .call { callee:=.builtin .delete,args:=#[x,y],argTypes:=#[70,3] })(h1:a.eval x = .map (some r))(h2:a.eval y = .int .i64 k)(he:EnV es f)(hst:MapKept.Stamped es clock)(hm:MapIs w r es clock)
    (h:∀es',EnV es' (fsetV f k none)->MapKept.Stamped es' clock->K (a.put o.dst (.tuple #[])) (setMap w r es' clock)):wpOp Tryz.prog ops Q i K a w:=by
  obtain⟨es',hr,he',hs'⟩:=x_delT (ρ:=a.eval) (o:=o) Tryz.underlying70 he hst hm hop h1 h2
  exact RegF.opV _ ho hg hr (h es' he' hs')
end
def TakesOut (w:World)(a f r P:Nat)(room now hh mm:Int)(V:RowsV)(page:Int)(e:Ending)(w':World):Prop :=
  (∃v,V page=some v/\e = .returned (.tuple #[.pointer (some ⟨v.b,0,none⟩),.int .i64 0])/\CaIs w' a f r P room (now+1) hh mm (updV V page (some { v with at_:=now+1 }))) ∨
  (V page=none/\(((keysV (ptrV V) P).length:Int)<room)/\∃b,w.heap.size<=b/\e = .returned (.tuple #[.pointer (some ⟨b,0,none⟩),.int .i64 0])/\CaIs w' a f r P room (now+1) hh mm (updV V page (some ⟨b,now+1,none,0,[],false⟩))) ∨
  (V page=none/\room<=((keysV (ptrV V) P).length:Int)/\(∀k v,V k=some v->v.d=true)/\e = .returned (.tuple #[.pointer none,.int .i64 160])/\CaIs w' a f r P room now hh mm V) ∨
  (V page=none/\room<=((keysV (ptrV V) P).length:Int)/\∃k0 v0,V k0=some v0/\v0.d=false/\(∀k v,V k=some v->v.d=false->v0.at_<=v.at_)/\∃b,w.heap.size<=b/\e = .returned (.tuple #[.pointer (some ⟨b,0,none⟩),.int .i64 0])/\CaIs w' a f r P room (now+1) hh mm (updV (updV V k0 none) page (some ⟨b,now+1,none,0,[],false⟩)))
theorem CaIs.size {W:World}{a f r P:Nat}{room now hh mm:Int}{V:RowsV}(h:CaIs W a f r P room now hh mm V){es:Array MapEntry}(he:EnV es (ptrV V)):es.size=(keysV (ptrV V) P).length:=by
  have hp:=(he.perm (many:=P) (fun k x hx=>by obtain⟨v,hv,_⟩:=ptrV_ptr hx;exact(h.rows k v hv).key)).length_eq
  rw[List.length_map,List.length_map,Array.length_toList] at hp
  exact hp
theorem takes_gives (w:World)(a f r P:Nat)(room now hh mm:Int)(V:RowsV)(h:CaIs w a f r P room now hh mm V)(hP:P<=1000)(hn:0<=now/\now<=1000000)(hroom:2<=room)(page:Int)(hpg:0<=page/\page<(P:Int)) :
    Calls Tryz.prog 23 #[.pointer (some ⟨a,0,none⟩),.int .i64 page] w fun e w'=>TakesOut w a f r P room now hh mm V page e w'/\GrowBut (caMu a r V) w w':=by
  have hB0:Below w.heap.size w (w.alloc (.cells #[.pointer (some ⟨a,0,none⟩)] 28)):=(Below.refl _ w).alloc (Nat.le_refl _) _
  have bx0:=BlkIs.new w 28 #[.pointer (some ⟨a,0,none⟩)]
  have hxa:¬ w.heap.size=a:=fun e=>by have:=h.cb.lt;omega
  have hw:IntKind.i64.wrap (now+1)=now+1:=wrap_i64_fr _ (by omega) (by omega)
  obtain⟨W0,hW0⟩:∃W0,W0=w.alloc (.cells #[.pointer (some ⟨a,0,none⟩)] 28):=⟨_,rfl⟩
  have hs0:W0.heap.size=w.heap.size+1:=by rw[hW0];simp
  rw[<-hW0] at hB0 bx0
  have h0:=h.below hB0
  have k0:=bx0.boxed
  have k3:W0.cell? ⟨a,3,none⟩=some (.map (some r)):=(h0.cb.cell _).trans rfl
  obtain⟨es,clock,hmi,he,hst⟩:=h0.mp
  have hG0:GrowBut (fun k=>caMu a r V k∨w.heap.size<=k) w W0:=GrowBut.below hB0
  have hout:∀{W':World},GrowBut (fun k=>caMu a r V k∨w.heap.size<=k) w W'->GrowBut (caMu a r V) w W':=fun hG=>hG.more (fun k e hk=>by
    rcases e with e|e
    · exact e
    · omega)
  have HW0:=Lib.hid hW0.symm
  clear hW0
  have hwp:=hw
  cases hpv:V page with
  | some v =>
    have hl:=ptrV_some hpv
    have ka0:W0.cell? ⟨a,2,none⟩=some (.int .i64 now):=(h0.cb.cell _).trans rfl
    have kf0:=h0.cb.free 2
    go_enter Tryz.func23,Tryz.ntmps23
    go_wp2_with (first
      | (rw[HW0.out])
      | (refine wp_exec rfl (lookR he hmi hl rfl rfl rfl) ?_))
    have h1:=h0
    have bx:=bx0
    have hg:=hG0
    have hv1:=hpv
    obtain⟨v1,ev1⟩:∃v1,v1=v:=⟨_,rfl⟩
    rw[<-ev1] at hv1 ⊢
    have hvb:caMu a r V v1.b∨w.heap.size<=v1.b:=.inl (.inr (.inr ⟨page,v1,hv1,rfl⟩))
    obtain⟨W,eW⟩:∃W,W=W0:=⟨_,rfl⟩
    rw[<-eW] at h1 bx hg ⊢
    clear eW
    have hs1:=h1.setCa 2 (.int .i64 (now+1)) (now':=now+1) (hh':=hh) (mm':=mm) rfl (by omega)
    have bx1:=hs1.2.blk bx (show ¬ w.heap.size=a from hxa)
    obtain⟨hC2,hG2⟩:=hs1
    have hr1:=h1.rows page v1 hv1
    have HT:=hC2.below (W':=(W.setCell ⟨a,2,none⟩ (.int .i64 (now+1))).drew) (Below.refl _ _).drew
    have hU:=used_gives (W:=(W.setCell ⟨a,2,none⟩ (.int .i64 (now+1))).drew) (HT.rows page v1 hv1).blk (now+1)
    have HS:=HT.setRow (v1:={ v1 with at_:=now+1 }) hv1 rfl 0 (.int .i64 (now+1)) rfl (.inl ⟨rfl,rfl,rfl⟩) ⟨by show 0<=now+1;omega,Int.le_refl _⟩ (fun _ k v hk hv=>by
      have:=(h1.rows k v hv).at0.2
      show v.at_≠now+1
      omega)
    have hS0:(W.setCell ⟨a,2,none⟩ (.int .i64 (now+1))).drew.cell? ⟨w.heap.size,0,none⟩=some (.pointer (some ⟨a,0,none⟩))/\(W.setCell ⟨a,2,none⟩ (.int .i64 (now+1))).drew.cell? ⟨a,2,none⟩=some (.int .i64 (now+1)):=⟨bx1.boxed,(HT.cb.cell _).trans rfl⟩
    have hgrow:GrowBut (fun k=>caMu a r V k∨w.heap.size<=k) w (((W.setCell ⟨a,2,none⟩ (.int .i64 (now+1))).drew).setCell ⟨v1.b,0,none⟩ (.int .i64 (now+1))):=((hg.trans (hG2.more (fun k e _ => .inl (.inl e)))).trans (GrowBut.below (Below.refl _ _).drew)).trans (HS.2.more (fun k e _=>by rw[e];exact hvb))
    clear hC2 hG2 HT hr1 bx bx1
    refine RegF.start (fun W:World=>W.cell? ⟨w.heap.size,0,none⟩=some (.pointer (some ⟨a,0,none⟩))/\W.cell? ⟨a,2,none⟩=some (.int .i64 (now+1))) 7 (by kernel_rfl) ?_
    refine RegF.take1 0 (.pointer (some ⟨v1.b,0,none⟩)) rfl (by kernel_rfl) (by kernel_rfl) (by kernel_rfl) (by kernel_rfl) (by kernel_rfl) (fun _ _ _ h=>h) hS0 (RegF.yld rfl (fun W hW=>by obtain⟨e0,e1⟩:=hW;go_simp)) ?_
    simp only[List.getElem_toArray,List.getElem_cons_zero,Act.put,List.setIfInBounds_toArray,List.set_cons_zero,List.set_cons_succ]
    refine RegF.take1 1 (.pointer (some ⟨v1.b,0,none⟩)) rfl (by kernel_rfl) (by kernel_rfl) (by kernel_rfl) (by kernel_rfl) (by kernel_rfl) (fun _ _ _ h=>h) hS0 (RegF.yld rfl (fun W hW=>by obtain⟨e0,e1⟩:=hW;go_simp)) ?_
    simp only[List.getElem_toArray,List.getElem_cons_succ,List.getElem_cons_zero,Act.put,List.setIfInBounds_toArray,List.set_cons_zero,List.set_cons_succ]
    refine RegF.take1 2 (.pointer (some ⟨v1.b,0,none⟩)) rfl (by kernel_rfl) (by kernel_rfl) (by kernel_rfl) (by kernel_rfl) (by kernel_rfl) (fun _ _ _ h=>h) hS0 (RegF.yld rfl (fun W hW=>by obtain⟨e0,e1⟩:=hW;go_simp)) ?_
    simp only[List.getElem_toArray,List.getElem_cons_succ,List.getElem_cons_zero,Act.put,List.setIfInBounds_toArray,List.set_cons_zero,List.set_cons_succ]
    refine RegF.take1 3 (.pointer (some ⟨a,0,none⟩)) rfl (by kernel_rfl) (by kernel_rfl) (by kernel_rfl) (by kernel_rfl) (by kernel_rfl) (fun _ _ _ h=>h) hS0 (RegF.yld rfl (fun W hW=>by obtain⟨e0,e1⟩:=hW;go_simp)) ?_
    simp only[List.getElem_toArray,List.getElem_cons_succ,List.getElem_cons_zero,Act.put,List.setIfInBounds_toArray,List.set_cons_zero,List.set_cons_succ]
    refine RegF.take1 4 (.pointer (some ⟨a,0,none⟩)) rfl (by kernel_rfl) (by kernel_rfl) (by kernel_rfl) (by kernel_rfl) (by kernel_rfl) (fun _ _ _ h=>h) hS0 (RegF.yld rfl (fun W hW=>by obtain⟨e0,e1⟩:=hW;go_simp)) ?_
    simp only[List.getElem_toArray,List.getElem_cons_succ,List.getElem_cons_zero,Act.put,List.setIfInBounds_toArray,List.set_cons_zero,List.set_cons_succ]
    refine RegF.take1 5 (.pointer (some ⟨a,2,none⟩)) rfl (by kernel_rfl) (by kernel_rfl) (by kernel_rfl) (by kernel_rfl) (by kernel_rfl) (fun _ _ _ h=>h) hS0 (RegF.yld rfl (fun W hW=>by obtain⟨e0,e1⟩:=hW;go_simp)) ?_
    simp only[List.getElem_toArray,List.getElem_cons_succ,List.getElem_cons_zero,Act.put,List.setIfInBounds_toArray,List.set_cons_zero,List.set_cons_succ]
    refine RegF.take1 6 (.int .i64 (now+1)) rfl (by kernel_rfl) (by kernel_rfl) (by kernel_rfl) (by kernel_rfl) (by kernel_rfl) (fun _ _ _ h=>h) hS0 (RegF.yld rfl (fun W hW=>by obtain⟨e0,e1⟩:=hW;go_simp)) ?_
    simp only[List.getElem_toArray,List.getElem_cons_succ,List.getElem_cons_zero,Act.put,List.setIfInBounds_toArray,List.set_cons_zero,List.set_cons_succ]
    refine RegF.one 7 (by kernel_rfl) ?_
    refine RegF.opC 47 #[.tmp 58,.tmp 62] #[83,3] rfl rfl rfl (enters_of Tryz.func47 (by kernel_rfl) rfl) #[.pointer (some ⟨v1.b,0,none⟩),.int .i64 (now+1)] (by simp only[List.map_toArray,List.map_cons,List.map_nil];rfl) (hU.mono ?_)
    rintro e w9 ⟨rfl,rfl⟩
    refine⟨_,rfl,fun h=>absurd rfl h,RegF.done (by kernel_rfl) ?_⟩
    simp only[List.getElem_toArray,List.getElem_cons_succ,List.getElem_cons_zero,Act.put,List.setIfInBounds_toArray,List.set_cons_zero,List.set_cons_succ]
    clear hS0
    go_wp2
    exact bodyPost_ret (results_tmp2 rfl _ _ _) rfl ⟨.inl ⟨v1,hv1,rfl,HS.1⟩,hout hgrow⟩
  | none =>
    have hl:=ptrV_none hpv
    have hsz:=h0.size he
    obtain⟨n,hn9⟩:∃n,n=(keysV (ptrV V) P).length:=⟨_,rfl⟩
    have hnP:n<=P:=by rw[hn9];exact keysV_len _ _
    rw[<-hn9] at hsz
    have kr0:W0.drew.cell? ⟨a,1,none⟩=some (.int .i64 room):=(h0.cb.cell _).trans rfl
    have hB1:Below W0.heap.size W0 W0.drew:=(Below.refl _ _).drew
    have h1:=h0.below hB1
    have bx1:BlkIs W0.drew w.heap.size 28 #[.pointer (some ⟨a,0,none⟩)]:=bx0.below hB1 bx0.lt
    have hm1:MapIs W0.drew r es clock:=hmi
    have hS0:W0.drew.cell? ⟨w.heap.size,0,none⟩=some (.pointer (some ⟨a,0,none⟩))/\W0.drew.cell? ⟨a,3,none⟩=some (.map (some r))/\W0.drew.cell? ⟨a,1,none⟩=some (.int .i64 room)/\MapIs W0.drew r es clock:=⟨k0,k3,kr0,hmi⟩
    go_enter Tryz.func23,Tryz.ntmps23
    go_wp2_with (first
      | (rw[HW0.out])
      | (refine wp_exec rfl (look0R he hmi hl rfl rfl rfl) ?_))
    refine RegF.start (fun W:World=>W.cell? ⟨w.heap.size,0,none⟩=some (.pointer (some ⟨a,0,none⟩))/\W.cell? ⟨a,3,none⟩=some (.map (some r))/\W.cell? ⟨a,1,none⟩=some (.int .i64 room)/\MapIs W r es clock) 99 (by kernel_rfl) ?_
    refine RegF.take0 0 (.pointer (some ⟨a,0,none⟩)) rfl (by kernel_rfl) (by kernel_rfl) (by kernel_rfl) rfl (fun _ _ _ h=>h) hS0 (RegF.yld rfl (fun W hW=>by obtain⟨e0,e1,e2,e3⟩:=hW;go_simp)) ?_
    simp only[List.getElem_toArray,List.getElem_cons_zero,Act.put,List.setIfInBounds_toArray,List.set_cons_zero,List.set_cons_succ]
    refine RegF.take0 1 (.pointer (some ⟨a,0,none⟩)) rfl (by kernel_rfl) (by kernel_rfl) (by kernel_rfl) rfl (fun _ _ _ h=>h) hS0 (RegF.yld rfl (fun W hW=>by obtain⟨e0,e1,e2,e3⟩:=hW;go_simp)) ?_
    simp only[List.getElem_toArray,List.getElem_cons_succ,List.getElem_cons_zero,Act.put,List.setIfInBounds_toArray,List.set_cons_zero,List.set_cons_succ]
    refine RegF.take0 2 (.pointer (some ⟨a,3,none⟩)) rfl (by kernel_rfl) (by kernel_rfl) (by kernel_rfl) rfl (fun _ _ _ h=>h) hS0 (RegF.yld rfl (fun W hW=>by obtain⟨e0,e1,e2,e3⟩:=hW;go_simp)) ?_
    simp only[List.getElem_toArray,List.getElem_cons_succ,List.getElem_cons_zero,Act.put,List.setIfInBounds_toArray,List.set_cons_zero,List.set_cons_succ]
    refine RegF.take0 3 (.map (some r)) rfl (by kernel_rfl) (by kernel_rfl) (by kernel_rfl) rfl (fun _ _ _ h=>h) hS0 (RegF.yld rfl (fun W hW=>by obtain⟨e0,e1,e2,e3⟩:=hW;go_simp)) ?_
    simp only[List.getElem_toArray,List.getElem_cons_succ,List.getElem_cons_zero,Act.put,List.setIfInBounds_toArray,List.set_cons_zero,List.set_cons_succ]
    refine RegF.take0 4 (.int .i64 (es.size:Int)) rfl (by kernel_rfl) (by kernel_rfl) (by kernel_rfl) rfl (fun _ _ _ h=>h) hS0 (RegF.yld rfl (fun W hW=>x_lenT Tryz.underlying70 hW.2.2.2 rfl rfl)) ?_
    simp only[List.getElem_toArray,List.getElem_cons_succ,List.getElem_cons_zero,Act.put,List.setIfInBounds_toArray,List.set_cons_zero,List.set_cons_succ]
    refine RegF.take0 5 (.pointer (some ⟨a,0,none⟩)) rfl (by kernel_rfl) (by kernel_rfl) (by kernel_rfl) rfl (fun _ _ _ h=>h) hS0 (RegF.yld rfl (fun W hW=>by obtain⟨e0,e1,e2,e3⟩:=hW;go_simp)) ?_
    simp only[List.getElem_toArray,List.getElem_cons_succ,List.getElem_cons_zero,Act.put,List.setIfInBounds_toArray,List.set_cons_zero,List.set_cons_succ]
    refine RegF.take0 6 (.pointer (some ⟨a,0,none⟩)) rfl (by kernel_rfl) (by kernel_rfl) (by kernel_rfl) rfl (fun _ _ _ h=>h) hS0 (RegF.yld rfl (fun W hW=>by obtain⟨e0,e1,e2,e3⟩:=hW;go_simp)) ?_
    simp only[List.getElem_toArray,List.getElem_cons_succ,List.getElem_cons_zero,Act.put,List.setIfInBounds_toArray,List.set_cons_zero,List.set_cons_succ]
    refine RegF.take0 7 (.pointer (some ⟨a,1,none⟩)) rfl (by kernel_rfl) (by kernel_rfl) (by kernel_rfl) rfl (fun _ _ _ h=>h) hS0 (RegF.yld rfl (fun W hW=>by obtain⟨e0,e1,e2,e3⟩:=hW;go_simp)) ?_
    simp only[List.getElem_toArray,List.getElem_cons_succ,List.getElem_cons_zero,Act.put,List.setIfInBounds_toArray,List.set_cons_zero,List.set_cons_succ]
    refine RegF.take0 8 (.int .i64 room) rfl (by kernel_rfl) (by kernel_rfl) (by kernel_rfl) rfl (fun _ _ _ h=>h) hS0 (RegF.yld rfl (fun W hW=>by obtain⟨e0,e1,e2,e3⟩:=hW;go_simp)) ?_
    simp only[List.getElem_toArray,List.getElem_cons_succ,List.getElem_cons_zero,Act.put,List.setIfInBounds_toArray,List.set_cons_zero,List.set_cons_succ]
    refine RegF.one 9 (by kernel_rfl) (RegF.opV (w':=W0.drew) (.bool (decide ((es.size:Int) ≥ room))) rfl rfl (by go_simp) ⟨fun _=>hS0,RegF.done (by kernel_rfl) ?_⟩)
    simp only[List.getElem_toArray,List.getElem_cons_succ,List.getElem_cons_zero,Act.put,List.setIfInBounds_toArray,List.set_cons_zero,List.set_cons_succ]
    clear hS0
    obtain⟨W1,eW1⟩:∃W1,W1=W0.drew:=⟨_,rfl⟩
    rw[<-eW1] at h1 bx1 hm1 hB1 ⊢
    clear eW1
    have hG1:GrowBut (fun k=>caMu a r V k∨w.heap.size<=k) w W1:=hG0.trans (GrowBut.below hB1)
    by_cases hfull:room<=(n:Int)
    · rw[show decide ((es.size:Int) ≥ room)=true from decide_eq_true (by omega)]
      have k1:=bx1.boxed
      have k13:W1.cell? ⟨a,3,none⟩=some (.map (some r)):=(h1.cb.cell _).trans rfl
      have HSR:=sortedR_gives W1 r P clock es (ptrV V) hm1 he hst (fun k x hx=>by obtain⟨v,hv,_⟩:=ptrV_ptr hx;exact(h1.rows k v hv).key) (by omega) 44 #[] (enters_of Tryz.func44 (by kernel_rfl) rfl) (clV V)
        (fun W hW k x hx=>by
          obtain⟨v,hv,rfl⟩:=ptrV_ptr hx
          have hcl:clV V k = !v.d:=by unfold clV;rw[hv]
          rw[hcl]
          exact clean_gives ((h1.below hW).rows k v hv).blk)
        45 #[.pointer (some ⟨w.heap.size,0,none⟩)] (enters_of Tryz.func45 (by kernel_rfl) rfl) _ (swoAt V)
        (fun W hW x y hx hy _ _=>by
          obtain⟨u',hu'⟩:=Option.isSome_iff_exists.1 hx
          obtain⟨v',hv'⟩:=Option.isSome_iff_exists.1 hy
          obtain⟨u,hu,_⟩:=ptrV_ptr hu'
          obtain⟨v,hv,_⟩:=ptrV_ptr hv'
          have e1:usedAt V x=u.at_:=by unfold usedAt;rw[hu]
          have e2:usedAt V y=v.at_:=by unfold usedAt;rw[hv]
          rw[e1,e2]
          exact older_gives (h1.below hW) (bx1.below hW bx1.lt) hu hv)
      by_cases hall:∀k v,V k=some v->v.d=true
      · have HS0:=HSR.mono (R':=fun e w'=>∃A c,e = .returned (.slice A 0 c)/\Below W1.heap.size W1 w') (by
          rintro e W2 ⟨A,c,ks,rfl,⟨hnd,hmem,hord⟩,hri,hB2⟩
          have hks:ks=[]:=List.eq_nil_iff_forall_not_mem.2 (fun k hk=>by
            obtain⟨h1,h2⟩:=(hmem k).1 hk
            obtain⟨x,hx⟩:=Option.isSome_iff_exists.1 h1
            obtain⟨v,hv,_⟩:=ptrV_ptr hx
            have:=hall k v hv
            simp[clV,hv,this] at h2)
          subst hks
          exact⟨A,c,rfl,hB2⟩)
        clear HSR
        go_wp2_with (go_at_call 43;refine HS0.mono ?_;rintro e W2 ⟨A,c,rfl,hB2⟩)
        exact bodyPost_ret (results_tmp2 rfl _ _ _) rfl ⟨.inr (.inr (.inl ⟨hpv,by omega,hall,rfl,h1.below hB2⟩)),hout (hG1.trans (GrowBut.below hB2))⟩
      · have HS0:=HSR.mono (R':=fun e w'=>∃g c N k0 v0,e = .returned (.slice (some ⟨g,0,none⟩) N c)/\0<N/\V k0=some v0/\v0.d=false/\(∀k v,V k=some v->v.d=false->v0.at_<=v.at_)/\w'.cell? ⟨g,0,none⟩=some (.int .i64 k0)/\Below W1.heap.size W1 w') (by
          rintro e W2 ⟨A,c,ks,rfl,⟨hnd,hmem,hord⟩,hri,hB2⟩
          have hin:∀k v,V k=some v->v.d=false->k∈ks:=fun k v hv hd=>(hmem k).2 ⟨by rw[ptrV_some hv];rfl,by simp[clV,hv,hd]⟩
          cases ks with
          | nil =>
            refine absurd (fun k v hv => ?_) hall
            cases hd:v.d with
            | true=>rfl
            | false=>exact absurd (hin k v hv hd) (by simp)
          | cons k0 kr =>
            obtain⟨g,rfl,_,hc⟩:=hri 0 (by simp)
            obtain⟨h1,h2⟩:=(hmem k0).1 (by simp)
            obtain⟨x,hx⟩:=Option.isSome_iff_exists.1 h1
            obtain⟨v0,hv0,_⟩:=ptrV_ptr hx
            have hd0:v0.d=false:=by
              simpa[clV,hv0] using h2
            refine⟨g,c,_,k0,v0,rfl,by simp,hv0,hd0,fun k v hv hd => ?_,hc,hB2⟩
            have e1:usedAt V k0=v0.at_:=by unfold usedAt;rw[hv0]
            have e2:usedAt V k=v.at_:=by unfold usedAt;rw[hv]
            have hk:=hin k v hv hd
            rcases List.mem_cons.1 hk with rfl|hk
            · rw[hv0] at hv
              injection hv with hv
              rw[hv]
              exact Int.le_refl _
            · have:=(List.pairwise_cons.1 hord).1 k hk
              rw[cmpZ_lt,e1,e2] at this
              omega)
        clear HSR
        go_wp2_with (go_at_call 43;refine HS0.mono ?_;rintro e W2 ⟨g,c,N,k0,v0,rfl,hN,hv0,hd0,hleast,hck,hB2⟩;have hN0:¬ (N:Int)=0:=by omega)
        have hBd:Below W1.heap.size W1 W2.drew:=hB2.drew
        have h2:=h1.below hBd
        have bx2:=bx1.below hBd bx1.lt
        have hm2:MapIs W2.drew r es clock:=hm1.below hBd hm1.lt
        have hS0:W2.drew.cell? ⟨w.heap.size,0,none⟩=some (.pointer (some ⟨a,0,none⟩))/\W2.drew.cell? ⟨a,3,none⟩=some (.map (some r))/\W2.drew.cell? ⟨g,0,none⟩=some (.int .i64 k0):=⟨bx2.boxed,(h2.cb.cell _).trans rfl,hck⟩
        have hG2:=hG1.trans (GrowBut.below (Mu:=fun k=>caMu a r V k∨w.heap.size<=k) hBd)
        refine RegF.start (fun W:World=>W.cell? ⟨w.heap.size,0,none⟩=some (.pointer (some ⟨a,0,none⟩))/\W.cell? ⟨a,3,none⟩=some (.map (some r))/\W.cell? ⟨g,0,none⟩=some (.int .i64 k0)) 7 (by kernel_rfl) ?_
        refine RegF.take1 0 (.pointer (some ⟨a,0,none⟩)) rfl (by kernel_rfl) (by kernel_rfl) (by kernel_rfl) (by kernel_rfl) (by kernel_rfl) (fun _ _ _ h=>h) hS0 (RegF.yld rfl (fun W hW=>by obtain⟨e0,e1,e2⟩:=hW;go_simp)) ?_
        simp only[List.getElem_toArray,List.getElem_cons_zero,Act.put,List.setIfInBounds_toArray,List.set_cons_zero,List.set_cons_succ]
        refine RegF.take1 1 (.pointer (some ⟨a,0,none⟩)) rfl (by kernel_rfl) (by kernel_rfl) (by kernel_rfl) (by kernel_rfl) (by kernel_rfl) (fun _ _ _ h=>h) hS0 (RegF.yld rfl (fun W hW=>by obtain⟨e0,e1,e2⟩:=hW;go_simp)) ?_
        simp only[List.getElem_toArray,List.getElem_cons_succ,List.getElem_cons_zero,Act.put,List.setIfInBounds_toArray,List.set_cons_zero,List.set_cons_succ]
        refine RegF.take1 2 (.pointer (some ⟨a,3,none⟩)) rfl (by kernel_rfl) (by kernel_rfl) (by kernel_rfl) (by kernel_rfl) (by kernel_rfl) (fun _ _ _ h=>h) hS0 (RegF.yld rfl (fun W hW=>by obtain⟨e0,e1,e2⟩:=hW;go_simp)) ?_
        simp only[List.getElem_toArray,List.getElem_cons_succ,List.getElem_cons_zero,Act.put,List.setIfInBounds_toArray,List.set_cons_zero,List.set_cons_succ]
        refine RegF.take1 3 (.map (some r)) rfl (by kernel_rfl) (by kernel_rfl) (by kernel_rfl) (by kernel_rfl) (by kernel_rfl) (fun _ _ _ h=>h) hS0 (RegF.yld rfl (fun W hW=>by obtain⟨e0,e1,e2⟩:=hW;go_simp)) ?_
        simp only[List.getElem_toArray,List.getElem_cons_succ,List.getElem_cons_zero,Act.put,List.setIfInBounds_toArray,List.set_cons_zero,List.set_cons_succ]
        refine RegF.take1 4 (.slice (some ⟨g,0,none⟩) N c) rfl (by kernel_rfl) (by kernel_rfl) (by kernel_rfl) (by kernel_rfl) (by kernel_rfl) (fun _ _ _ h=>h) hS0 (RegF.yld rfl (fun W hW=>by obtain⟨e0,e1,e2⟩:=hW;go_simp)) ?_
        simp only[List.getElem_toArray,List.getElem_cons_succ,List.getElem_cons_zero,Act.put,List.setIfInBounds_toArray,List.set_cons_zero,List.set_cons_succ]
        refine RegF.take1 5 (.pointer (some ⟨g,0,none⟩)) rfl (by kernel_rfl) (by kernel_rfl) (by kernel_rfl) (by kernel_rfl) (by kernel_rfl) (fun _ _ _ h=>h) hS0 (RegF.yld rfl (fun W hW=>by obtain⟨e0,e1,e2⟩:=hW;go_simp)) ?_
        simp only[List.getElem_toArray,List.getElem_cons_succ,List.getElem_cons_zero,Act.put,List.setIfInBounds_toArray,List.set_cons_zero,List.set_cons_succ]
        refine RegF.take1 6 (.int .i64 k0) rfl (by kernel_rfl) (by kernel_rfl) (by kernel_rfl) (by kernel_rfl) (by kernel_rfl) (fun _ _ _ h=>h) hS0 (RegF.yld rfl (fun W hW=>by obtain⟨e0,e1,e2⟩:=hW;go_simp)) ?_
        simp only[List.getElem_toArray,List.getElem_cons_succ,List.getElem_cons_zero,Act.put,List.setIfInBounds_toArray,List.set_cons_zero,List.set_cons_succ]
        refine RegF.one 7 (by kernel_rfl) ?_
        refine opDelR rfl rfl rfl rfl rfl he hst hm2 (fun es3 he3 hs3 => ?_)
        refine⟨fun h=>absurd rfl h,RegF.done (by kernel_rfl) ?_⟩
        simp only[List.getElem_toArray,List.getElem_cons_succ,List.getElem_cons_zero,Act.put]
        have HDL:=h2.del k0 hm2 es3 clock he3 hs3
        have hd:=HDL.1
        have hdm:=hm2.set es3 clock
        have hde:EnV es3 (ptrV (updV V k0 none)):=by rw[ptrV_upd];exact he3
        have hds:=hs3
        have bxd:=HDL.2.blk bx2 (fun e=>hm2.notBlk bx2 e.symm)
        have h0p:updV V k0 none page=none:=by
          unfold updV
          split
          · rfl
          · exact hpv
        have hgd:=hG2.trans (HDL.2.more (Nu:=fun k=>caMu a r V k∨w.heap.size<=k) (fun k e _ => .inl (.inr (.inl e))))
        clear hS0 HDL
        obtain⟨W1,eW1⟩:∃W1,W1=setMap W2.drew r es3 clock:=⟨_,rfl⟩
        rw[<-eW1] at hd hdm bxd hgd ⊢
        clear eW1
        have hfB:Below W1.heap.size W1 (W1.alloc (.cells #[.int .i64 0,.slice none 0 0,.bool false] 85)):=(Below.refl _ _).alloc (Nat.le_refl _) _
        have hfb:=BlkIs.new W1 85 #[.int .i64 0,.slice none 0 0,.bool false]
        have hbq:w.heap.size<=W1.heap.size:=hgd.size
        obtain⟨Wf,eWf⟩:∃Wf,Wf=W1.alloc (.cells #[.int .i64 0,.slice none 0 0,.bool false] 85):=⟨_,rfl⟩
        rw[<-eWf] at hfB hfb
        have hf:=hd.below hfB
        have hfm:MapIs Wf r _ _:=hdm.below hfB hdm.lt
        have bxf:=bxd.below hfB bxd.lt
        have hgf:=hgd.trans (GrowBut.below (Mu:=fun k=>caMu a r V k∨w.heap.size<=k) hfB)
        have HWf:=Lib.hid eWf.symm
        clear eWf
        have kbf:=bxf.boxed
        have k3f:Wf.cell? ⟨a,3,none⟩=some (.map (some r)):=(hf.cb.cell _).trans rfl
        have hne:∀k v,updV V k0 none k=some v->v.b≠W1.heap.size:=fun k v hv e=>by
          have:=(hd.rows k v hv).blk.lt
          omega
        obtain⟨b1,eb1⟩:∃b1,b1=W1.heap.size:=⟨_,rfl⟩
        rw[<-eb1] at hfb hne hbq
        go_wp2_with (first
          | (rw[HWf.out])
          | (rw[<-eb1])
          | (refine wp_putR rfl rfl rfl rfl rfl hde hds hfm ?_
             intro es2 ck2 he2 hs2
             have HFR:=hf.fresh hpg h0p hn.1 hfb hne hfm es2 ck2 he2 hs2
             have bx:=HFR.2.blk bxf (fun e=>hfm.notBlk bxf e.symm)
             have h1:=HFR.1
             have hg:=hgf.trans (HFR.2.more (Nu:=fun k=>caMu a r V k∨w.heap.size<=k) (fun k e _ => .inl (.inr (.inl e))))
             clear HFR
             obtain⟨W,eW⟩:∃W,W=setMap Wf r es2 ck2:=⟨_,rfl⟩
             rw[<-eW] at bx h1 hg ⊢
             clear eW
             have kbx:=bx.boxed
             have ka0:W.cell? ⟨a,2,none⟩=some (.int .i64 now):=(h1.cb.cell _).trans rfl
             have kf0:=h1.cb.free 2))
        obtain⟨v1,ev1⟩:∃v1:RowV,v1=⟨b1,0,none,0,[],false⟩:=⟨_,rfl⟩
        rw[<-ev1] at h1
        have evb:v1.b=b1:=by rw[ev1]
        rw[<-evb]
        have hv1:=updV_self (updV V k0 none) page (some v1)
        have hvb:caMu a r V v1.b∨w.heap.size<=v1.b:=.inr (by rw[evb];exact hbq)
        have hs1:=h1.setCa 2 (.int .i64 (now+1)) (now':=now+1) (hh':=hh) (mm':=mm) rfl (by omega)
        have bx1:=hs1.2.blk bx (show ¬ w.heap.size=a from hxa)
        obtain⟨hC2,hG2⟩:=hs1
        have hr1:=h1.rows page v1 hv1
        have HT:=hC2.below (W':=(W.setCell ⟨a,2,none⟩ (.int .i64 (now+1))).drew) (Below.refl _ _).drew
        have hU:=used_gives (W:=(W.setCell ⟨a,2,none⟩ (.int .i64 (now+1))).drew) (HT.rows page v1 hv1).blk (now+1)
        have HS:=HT.setRow (v1:={ v1 with at_:=now+1 }) hv1 rfl 0 (.int .i64 (now+1)) rfl (.inl ⟨rfl,rfl,rfl⟩) ⟨by show 0<=now+1;omega,Int.le_refl _⟩ (fun _ k v hk hv=>by
          have:=(h1.rows k v hv).at0.2
          show v.at_≠now+1
          omega)
        have hS0:(W.setCell ⟨a,2,none⟩ (.int .i64 (now+1))).drew.cell? ⟨w.heap.size,0,none⟩=some (.pointer (some ⟨a,0,none⟩))/\(W.setCell ⟨a,2,none⟩ (.int .i64 (now+1))).drew.cell? ⟨a,2,none⟩=some (.int .i64 (now+1)):=⟨bx1.boxed,(HT.cb.cell _).trans rfl⟩
        have hgrow:GrowBut (fun k=>caMu a r V k∨w.heap.size<=k) w (((W.setCell ⟨a,2,none⟩ (.int .i64 (now+1))).drew).setCell ⟨v1.b,0,none⟩ (.int .i64 (now+1))):=((hg.trans (hG2.more (fun k e _ => .inl (.inl e)))).trans (GrowBut.below (Below.refl _ _).drew)).trans (HS.2.more (fun k e _=>by rw[e];exact hvb))
        clear hC2 hG2 HT hr1 bx bx1
        refine RegF.start (fun W:World=>W.cell? ⟨w.heap.size,0,none⟩=some (.pointer (some ⟨a,0,none⟩))/\W.cell? ⟨a,2,none⟩=some (.int .i64 (now+1))) 7 (by kernel_rfl) ?_
        refine RegF.take1 0 (.pointer (some ⟨v1.b,0,none⟩)) rfl (by kernel_rfl) (by kernel_rfl) (by kernel_rfl) (by kernel_rfl) (by kernel_rfl) (fun _ _ _ h=>h) hS0 (RegF.yld rfl (fun W hW=>by obtain⟨e0,e1⟩:=hW;go_simp)) ?_
        simp only[List.getElem_toArray,List.getElem_cons_zero,Act.put,List.setIfInBounds_toArray,List.set_cons_zero,List.set_cons_succ]
        refine RegF.take1 1 (.pointer (some ⟨v1.b,0,none⟩)) rfl (by kernel_rfl) (by kernel_rfl) (by kernel_rfl) (by kernel_rfl) (by kernel_rfl) (fun _ _ _ h=>h) hS0 (RegF.yld rfl (fun W hW=>by obtain⟨e0,e1⟩:=hW;go_simp)) ?_
        simp only[List.getElem_toArray,List.getElem_cons_succ,List.getElem_cons_zero,Act.put,List.setIfInBounds_toArray,List.set_cons_zero,List.set_cons_succ]
        refine RegF.take1 2 (.pointer (some ⟨v1.b,0,none⟩)) rfl (by kernel_rfl) (by kernel_rfl) (by kernel_rfl) (by kernel_rfl) (by kernel_rfl) (fun _ _ _ h=>h) hS0 (RegF.yld rfl (fun W hW=>by obtain⟨e0,e1⟩:=hW;go_simp)) ?_
        simp only[List.getElem_toArray,List.getElem_cons_succ,List.getElem_cons_zero,Act.put,List.setIfInBounds_toArray,List.set_cons_zero,List.set_cons_succ]
        refine RegF.take1 3 (.pointer (some ⟨a,0,none⟩)) rfl (by kernel_rfl) (by kernel_rfl) (by kernel_rfl) (by kernel_rfl) (by kernel_rfl) (fun _ _ _ h=>h) hS0 (RegF.yld rfl (fun W hW=>by obtain⟨e0,e1⟩:=hW;go_simp)) ?_
        simp only[List.getElem_toArray,List.getElem_cons_succ,List.getElem_cons_zero,Act.put,List.setIfInBounds_toArray,List.set_cons_zero,List.set_cons_succ]
        refine RegF.take1 4 (.pointer (some ⟨a,0,none⟩)) rfl (by kernel_rfl) (by kernel_rfl) (by kernel_rfl) (by kernel_rfl) (by kernel_rfl) (fun _ _ _ h=>h) hS0 (RegF.yld rfl (fun W hW=>by obtain⟨e0,e1⟩:=hW;go_simp)) ?_
        simp only[List.getElem_toArray,List.getElem_cons_succ,List.getElem_cons_zero,Act.put,List.setIfInBounds_toArray,List.set_cons_zero,List.set_cons_succ]
        refine RegF.take1 5 (.pointer (some ⟨a,2,none⟩)) rfl (by kernel_rfl) (by kernel_rfl) (by kernel_rfl) (by kernel_rfl) (by kernel_rfl) (fun _ _ _ h=>h) hS0 (RegF.yld rfl (fun W hW=>by obtain⟨e0,e1⟩:=hW;go_simp)) ?_
        simp only[List.getElem_toArray,List.getElem_cons_succ,List.getElem_cons_zero,Act.put,List.setIfInBounds_toArray,List.set_cons_zero,List.set_cons_succ]
        refine RegF.take1 6 (.int .i64 (now+1)) rfl (by kernel_rfl) (by kernel_rfl) (by kernel_rfl) (by kernel_rfl) (by kernel_rfl) (fun _ _ _ h=>h) hS0 (RegF.yld rfl (fun W hW=>by obtain⟨e0,e1⟩:=hW;go_simp)) ?_
        simp only[List.getElem_toArray,List.getElem_cons_succ,List.getElem_cons_zero,Act.put,List.setIfInBounds_toArray,List.set_cons_zero,List.set_cons_succ]
        refine RegF.one 7 (by kernel_rfl) ?_
        refine RegF.opC 47 #[.tmp 58,.tmp 62] #[83,3] rfl rfl rfl (enters_of Tryz.func47 (by kernel_rfl) rfl) #[.pointer (some ⟨v1.b,0,none⟩),.int .i64 (now+1)] (by simp only[List.map_toArray,List.map_cons,List.map_nil];rfl) (hU.mono ?_)
        rintro e w9 ⟨rfl,rfl⟩
        refine⟨_,rfl,fun h=>absurd rfl h,RegF.done (by kernel_rfl) ?_⟩
        simp only[List.getElem_toArray,List.getElem_cons_succ,List.getElem_cons_zero,Act.put,List.setIfInBounds_toArray,List.set_cons_zero,List.set_cons_succ]
        clear hS0
        go_wp2
        have hQ:=HS.1
        rw[updV_updV] at hQ
        subst ev1
        exact bodyPost_ret (results_tmp2 rfl _ _ _) rfl ⟨.inr (.inr (.inr ⟨hpv,by omega,k0,v0,hv0,hd0,hleast,b1,hbq,rfl,hQ⟩)),hout hgrow⟩
    · rw[show decide ((es.size:Int) ≥ room)=false from decide_eq_false (by omega)]
      have hd:=h1
      have hdm:=hm1
      have hde:=he
      have hds:=hst
      have bxd:=bx1
      have h0p:=hpv
      have hgd:=hG1
      have hfB:Below W1.heap.size W1 (W1.alloc (.cells #[.int .i64 0,.slice none 0 0,.bool false] 85)):=(Below.refl _ _).alloc (Nat.le_refl _) _
      have hfb:=BlkIs.new W1 85 #[.int .i64 0,.slice none 0 0,.bool false]
      have hbq:w.heap.size<=W1.heap.size:=hgd.size
      obtain⟨Wf,eWf⟩:∃Wf,Wf=W1.alloc (.cells #[.int .i64 0,.slice none 0 0,.bool false] 85):=⟨_,rfl⟩
      rw[<-eWf] at hfB hfb
      have hf:=hd.below hfB
      have hfm:MapIs Wf r _ _:=hdm.below hfB hdm.lt
      have bxf:=bxd.below hfB bxd.lt
      have hgf:=hgd.trans (GrowBut.below (Mu:=fun k=>caMu a r V k∨w.heap.size<=k) hfB)
      have HWf:=Lib.hid eWf.symm
      clear eWf
      have kbf:=bxf.boxed
      have k3f:Wf.cell? ⟨a,3,none⟩=some (.map (some r)):=(hf.cb.cell _).trans rfl
      have hne:∀k v,V k=some v->v.b≠W1.heap.size:=fun k v hv e=>by
        have:=(hd.rows k v hv).blk.lt
        omega
      obtain⟨b1,eb1⟩:∃b1,b1=W1.heap.size:=⟨_,rfl⟩
      rw[<-eb1] at hfb hne hbq
      go_wp2_with (first
        | (rw[HWf.out])
        | (rw[<-eb1])
        | (refine wp_putR rfl rfl rfl rfl rfl hde hds hfm ?_
           intro es2 ck2 he2 hs2
           have HFR:=hf.fresh hpg h0p hn.1 hfb hne hfm es2 ck2 he2 hs2
           have bx:=HFR.2.blk bxf (fun e=>hfm.notBlk bxf e.symm)
           have h1:=HFR.1
           have hg:=hgf.trans (HFR.2.more (Nu:=fun k=>caMu a r V k∨w.heap.size<=k) (fun k e _ => .inl (.inr (.inl e))))
           clear HFR
           obtain⟨W,eW⟩:∃W,W=setMap Wf r es2 ck2:=⟨_,rfl⟩
           rw[<-eW] at bx h1 hg ⊢
           clear eW
           have kbx:=bx.boxed
           have ka0:W.cell? ⟨a,2,none⟩=some (.int .i64 now):=(h1.cb.cell _).trans rfl
           have kf0:=h1.cb.free 2))
      obtain⟨v1,ev1⟩:∃v1:RowV,v1=⟨b1,0,none,0,[],false⟩:=⟨_,rfl⟩
      rw[<-ev1] at h1
      have evb:v1.b=b1:=by rw[ev1]
      rw[<-evb]
      have hv1:=updV_self (V) page (some v1)
      have hvb:caMu a r V v1.b∨w.heap.size<=v1.b:=.inr (by rw[evb];exact hbq)
      have hs1:=h1.setCa 2 (.int .i64 (now+1)) (now':=now+1) (hh':=hh) (mm':=mm) rfl (by omega)
      have bx1:=hs1.2.blk bx (show ¬ w.heap.size=a from hxa)
      obtain⟨hC2,hG2⟩:=hs1
      have hr1:=h1.rows page v1 hv1
      have HT:=hC2.below (W':=(W.setCell ⟨a,2,none⟩ (.int .i64 (now+1))).drew) (Below.refl _ _).drew
      have hU:=used_gives (W:=(W.setCell ⟨a,2,none⟩ (.int .i64 (now+1))).drew) (HT.rows page v1 hv1).blk (now+1)
      have HS:=HT.setRow (v1:={ v1 with at_:=now+1 }) hv1 rfl 0 (.int .i64 (now+1)) rfl (.inl ⟨rfl,rfl,rfl⟩) ⟨by show 0<=now+1;omega,Int.le_refl _⟩ (fun _ k v hk hv=>by
        have:=(h1.rows k v hv).at0.2
        show v.at_≠now+1
        omega)
      have hS0:(W.setCell ⟨a,2,none⟩ (.int .i64 (now+1))).drew.cell? ⟨w.heap.size,0,none⟩=some (.pointer (some ⟨a,0,none⟩))/\(W.setCell ⟨a,2,none⟩ (.int .i64 (now+1))).drew.cell? ⟨a,2,none⟩=some (.int .i64 (now+1)):=⟨bx1.boxed,(HT.cb.cell _).trans rfl⟩
      have hgrow:GrowBut (fun k=>caMu a r V k∨w.heap.size<=k) w (((W.setCell ⟨a,2,none⟩ (.int .i64 (now+1))).drew).setCell ⟨v1.b,0,none⟩ (.int .i64 (now+1))):=((hg.trans (hG2.more (fun k e _ => .inl (.inl e)))).trans (GrowBut.below (Below.refl _ _).drew)).trans (HS.2.more (fun k e _=>by rw[e];exact hvb))
      clear hC2 hG2 HT hr1 bx bx1
      refine RegF.start (fun W:World=>W.cell? ⟨w.heap.size,0,none⟩=some (.pointer (some ⟨a,0,none⟩))/\W.cell? ⟨a,2,none⟩=some (.int .i64 (now+1))) 7 (by kernel_rfl) ?_
      refine RegF.take1 0 (.pointer (some ⟨v1.b,0,none⟩)) rfl (by kernel_rfl) (by kernel_rfl) (by kernel_rfl) (by kernel_rfl) (by kernel_rfl) (fun _ _ _ h=>h) hS0 (RegF.yld rfl (fun W hW=>by obtain⟨e0,e1⟩:=hW;go_simp)) ?_
      simp only[List.getElem_toArray,List.getElem_cons_zero,Act.put,List.setIfInBounds_toArray,List.set_cons_zero,List.set_cons_succ]
      refine RegF.take1 1 (.pointer (some ⟨v1.b,0,none⟩)) rfl (by kernel_rfl) (by kernel_rfl) (by kernel_rfl) (by kernel_rfl) (by kernel_rfl) (fun _ _ _ h=>h) hS0 (RegF.yld rfl (fun W hW=>by obtain⟨e0,e1⟩:=hW;go_simp)) ?_
      simp only[List.getElem_toArray,List.getElem_cons_succ,List.getElem_cons_zero,Act.put,List.setIfInBounds_toArray,List.set_cons_zero,List.set_cons_succ]
      refine RegF.take1 2 (.pointer (some ⟨v1.b,0,none⟩)) rfl (by kernel_rfl) (by kernel_rfl) (by kernel_rfl) (by kernel_rfl) (by kernel_rfl) (fun _ _ _ h=>h) hS0 (RegF.yld rfl (fun W hW=>by obtain⟨e0,e1⟩:=hW;go_simp)) ?_
      simp only[List.getElem_toArray,List.getElem_cons_succ,List.getElem_cons_zero,Act.put,List.setIfInBounds_toArray,List.set_cons_zero,List.set_cons_succ]
      refine RegF.take1 3 (.pointer (some ⟨a,0,none⟩)) rfl (by kernel_rfl) (by kernel_rfl) (by kernel_rfl) (by kernel_rfl) (by kernel_rfl) (fun _ _ _ h=>h) hS0 (RegF.yld rfl (fun W hW=>by obtain⟨e0,e1⟩:=hW;go_simp)) ?_
      simp only[List.getElem_toArray,List.getElem_cons_succ,List.getElem_cons_zero,Act.put,List.setIfInBounds_toArray,List.set_cons_zero,List.set_cons_succ]
      refine RegF.take1 4 (.pointer (some ⟨a,0,none⟩)) rfl (by kernel_rfl) (by kernel_rfl) (by kernel_rfl) (by kernel_rfl) (by kernel_rfl) (fun _ _ _ h=>h) hS0 (RegF.yld rfl (fun W hW=>by obtain⟨e0,e1⟩:=hW;go_simp)) ?_
      simp only[List.getElem_toArray,List.getElem_cons_succ,List.getElem_cons_zero,Act.put,List.setIfInBounds_toArray,List.set_cons_zero,List.set_cons_succ]
      refine RegF.take1 5 (.pointer (some ⟨a,2,none⟩)) rfl (by kernel_rfl) (by kernel_rfl) (by kernel_rfl) (by kernel_rfl) (by kernel_rfl) (fun _ _ _ h=>h) hS0 (RegF.yld rfl (fun W hW=>by obtain⟨e0,e1⟩:=hW;go_simp)) ?_
      simp only[List.getElem_toArray,List.getElem_cons_succ,List.getElem_cons_zero,Act.put,List.setIfInBounds_toArray,List.set_cons_zero,List.set_cons_succ]
      refine RegF.take1 6 (.int .i64 (now+1)) rfl (by kernel_rfl) (by kernel_rfl) (by kernel_rfl) (by kernel_rfl) (by kernel_rfl) (fun _ _ _ h=>h) hS0 (RegF.yld rfl (fun W hW=>by obtain⟨e0,e1⟩:=hW;go_simp)) ?_
      simp only[List.getElem_toArray,List.getElem_cons_succ,List.getElem_cons_zero,Act.put,List.setIfInBounds_toArray,List.set_cons_zero,List.set_cons_succ]
      refine RegF.one 7 (by kernel_rfl) ?_
      refine RegF.opC 47 #[.tmp 58,.tmp 62] #[83,3] rfl rfl rfl (enters_of Tryz.func47 (by kernel_rfl) rfl) #[.pointer (some ⟨v1.b,0,none⟩),.int .i64 (now+1)] (by simp only[List.map_toArray,List.map_cons,List.map_nil];rfl) (hU.mono ?_)
      rintro e w9 ⟨rfl,rfl⟩
      refine⟨_,rfl,fun h=>absurd rfl h,RegF.done (by kernel_rfl) ?_⟩
      simp only[List.getElem_toArray,List.getElem_cons_succ,List.getElem_cons_zero,Act.put,List.setIfInBounds_toArray,List.set_cons_zero,List.set_cons_succ]
      clear hS0
      go_wp2
      have hQ:=HS.1
      rw[updV_updV] at hQ
      subst ev1
      exact bodyPost_ret (results_tmp2 rfl _ _ _) rfl ⟨.inr (.inl ⟨hpv,by omega,b1,hbq,rfl,hQ⟩),hout hgrow⟩
end Go.Proofs.YtmllnpjldmdaeaaGreat
namespace Go.Proofs.YtmllnpjldmdaeaaGreat
open Go Go.RowKit Lou
theorem fdisk_gives {w:World}{f l d:Nat}{fr pg:Int}{S:LgS}(hb:BlkIs w f 108 (flFC l fr pg))(hL:LogIs w l d fr pg S):Calls Tryz.prog 35 #[.pointer (some ⟨f,0,none⟩)] w fun e w'=>e = .returned (.pointer (some ⟨d,0,none⟩))/\w=w':=by
  have HN:=fnone_gives hb
  obtain⟨_,A,c,vs,hlg,_⟩:=hL
  have HD:=ldisk_gives hlg
  have c0:w.cell? ⟨f,0,none⟩=some (.pointer (some ⟨l,0,none⟩)):=by rw[hb.cell];rfl
  go_enter Tryz.func35,Tryz.ntmps35
  go_wp2_with (first
    | (go_at_call 48;refine HN.mono ?_;rintro e w' ⟨rfl,rfl⟩)
    | (go_at_call 51;refine HD.mono ?_;rintro e w' ⟨rfl,rfl⟩))
  go_ret
  exact⟨rfl,rfl⟩
theorem fplan_gives {w:World}{f l:Nat}{fr pg:Int}(hb:BlkIs w f 108 (flFC l fr pg)):Calls Tryz.prog 26 #[.pointer (some ⟨f,0,none⟩)] w fun e w'=>e = .returned (.agg #[.int .i64 fr,.int .i64 pg])/\Below w.heap.size w w':=by
  have hB:Below w.heap.size w (w.alloc (.cells #[.int .i64 0,.int .i64 0] 23)):=(Below.refl _ w).alloc (Nat.le_refl _) _
  have b2:=BlkIs.new w 23 #[.int .i64 0,.int .i64 0]
  have hbf:=hb.below hB hb.lt
  have HN:=fnone_gives hbf
  have hpl:(w.alloc (.cells #[.int .i64 0,.int .i64 0] 23)).rangeAt f 1 [.int .i64 fr,.int .i64 pg]:=fun j v hj=>by
    rw[hbf.cell]
    match j,hj with
    | 0,hj=>exact hj
    | 1,hj=>exact hj
    | j+2,hj=>exact absurd hj (by simp)
  go_enter Tryz.func26,Tryz.ntmps26
  go_wp2_with (first
    | (go_at_call 48;refine HN.mono ?_;rintro e w' ⟨rfl,rfl⟩)
    | (refine wp_exec rfl (x_loadM rowPlan hpl rfl rfl rfl) ?_)
    | (fail;refine wp_storeW rfl 23 (.tmp 2) (.tmp 9) rfl w.heap.size rfl rfl rowPlan b2 (by rfl) (by rfl) (two_oneR rfl rfl) ?_))
  exact bodyPost_ret_by (results_cellW 2 rfl rfl rowPlan (BlkIs.new w _ _) (by rfl)) rfl ⟨rfl,(Below.refl _ w).alloc (Nat.le_refl _) _⟩
theorem cloneP_gives (w:World)(A:Option Addr)(c:Nat)(y:List UInt8)(h:InB w w.heap.size A c y)(hl:y.length<=100000):Calls Tryz.prog 24 #[.slice A y.length c] w fun e w'=>∃A' c',e = .returned (.slice A' y.length c')/\InB w' w'.heap.size A' c' y/\(∀g o,A'=some ⟨g,o,none⟩->w.heap.size<=g)/\TyB w' A'/\Below w.heap.size w w':=by
  refine(clone_gives w A c y h (by omega)).mono ?_
  rintro e w' ⟨v,rfl,own,hBc⟩
  have hge:=ownG_ge own
  have hty:=ownG_ty own
  obtain⟨A',c',rfl,hin⟩:=own.inB
  exact⟨A',c',rfl,hin,fun g o e=>by subst e;exact hge g rfl,fun g o e=>by subst e;exact hty g rfl,hBc⟩
theorem cnone_gives {w:World}{a f r:Nat}{room now hh mm:Int}(hb:BlkIs w a 77 (caC f room now r hh mm)):Calls Tryz.prog 21 #[.pointer (some ⟨a,0,none⟩)] w fun e w'=>e = .returned (.bool false)/\w=w':=by
  have c0:w.cell? ⟨a,3,none⟩=some (.map (some r)):=by rw[hb.cell];rfl
  have hq:=fun W=>run_eql_map_nil (P:=Tryz.prog) W 70 _ _ (some r) Tryz.underlying70
  go_enter Tryz.func21,Tryz.ntmps21
  go_wp2
  go_ret
  exact⟨rfl,rfl⟩
theorem add1_gives {w:World}{a:Addr}{x:Int}(hc:w.cell? a=some (.int .i64 x))(hf:w.frozen? a=false)(ha:a.spot=none)(hx : -1000000000<=x/\x<=1000000000):Calls Tryz.prog 22 #[.pointer (some a),.int .i64 1] w fun e w'=>e = .returned (.int .i64 (x+1))/\w'=w.setCell a (.int .i64 (x+1)):=by
  obtain⟨g,o,s⟩:=a
  subst ha
  have hw:IntKind.i64.wrap (x+1)=x+1:=wrap_i64_fr _ (by omega) (by omega)
  have hadd:=run_call_add (P:=Tryz.prog) Tryz.func42 (by kernel_rfl) (by kernel_rfl) (by kernel_rfl) .i64 (by kernel_rfl) (y:=1) (s:=x+1) hc hf (by simp[go_sem,hw])
  go_enter Tryz.func22,Tryz.ntmps22
  go_wp2
  go_ret
  exact⟨rfl,rfl⟩
theorem load1_gives {w:World}{g o:Nat}{x:Int}(hc:w.cell? ⟨g,o,none⟩=some (.int .i64 x)):Calls Tryz.prog 33 #[.pointer (some ⟨g,o,none⟩)] w fun e w'=>e = .returned (.int .i64 x)/\w=w':=by
  have hld:=run_call_load (P:=Tryz.prog) Tryz.func62 (by kernel_rfl) (by kernel_rfl) (by kernel_rfl) .i64 (by kernel_rfl) hc
  go_enter Tryz.func33,Tryz.ntmps33
  go_wp2
  go_ret
  exact⟨rfl,rfl⟩
theorem RowIs.short {W:World}{P:Nat}{now k:Int}{v:RowV}(h:RowIs W P now k v):v.y.length<=100000:=by
  rcases h.len with h|h
  · omega
  · rw[h];simp
def MadeRoom (P:Nat)(room:Int)(V V':RowsV):Prop :=
  ((((keysV (ptrV V) P).length:Int)<room)/\V'=V)∨(room<=((keysV (ptrV V) P).length:Int)/\∃k0 v0,V k0=some v0/\v0.d=false/\(∀k v,V k=some v->v.d=false->v0.at_<=v.at_)/\V'=updV V k0 none)
def NoRoom (P:Nat)(room:Int)(V:RowsV):Prop:=room<=((keysV (ptrV V) P).length:Int)/\∀k v,V k=some v->v.d=true
theorem MadeRoom.sub {P:Nat}{room:Int}{V V':RowsV}(h:MadeRoom P room V V'){k:Int}{v:RowV}(hv:V' k=some v):V k=some v:=by
  rcases h with⟨_,rfl⟩|⟨_,k0,v0,_,_,_,rfl⟩
  · exact hv
  · unfold updV at hv
    split at hv
    · cases hv
    · exact hv
section
variable {w:World}{a f r P:Nat}{room now hh mm:Int}{V:RowsV}
theorem takes_hit (h:CaIs w a f r P room now hh mm V)(hP:P<=1000)(hn:0<=now/\now<=1000000)(hroom:2<=room){page:Int}{v:RowV}(hv:V page=some v) :
    Calls Tryz.prog 23 #[.pointer (some ⟨a,0,none⟩),.int .i64 page] w fun e w'=>e = .returned (.tuple #[.pointer (some ⟨v.b,0,none⟩),.int .i64 0])/\CaIs w' a f r P room (now+1) hh mm (updV V page (some { v with at_:=now+1 }))/\GrowBut (caMu a r V) w w':=by
  refine(takes_gives w a f r P room now hh mm V h hP hn hroom page (h.rows page v hv).key).mono ?_
  rintro e w' ⟨⟨v',h1,rfl,h2⟩|⟨h1,_⟩|⟨h1,_⟩|⟨h1,_⟩,hG⟩
  · rw[hv] at h1
    injection h1 with h1
    subst h1
    exact⟨rfl,h2,hG⟩
  all_goals rw[hv] at h1;cases h1
theorem takes_miss (h:CaIs w a f r P room now hh mm V)(hP:P<=1000)(hn:0<=now/\now<=1000000)(hroom:2<=room){page:Int}(hp:0<=page/\page<(P:Int))(hv:V page=none) :
    Calls Tryz.prog 23 #[.pointer (some ⟨a,0,none⟩),.int .i64 page] w fun e w'=>((NoRoom P room V/\e = .returned (.tuple #[.pointer none,.int .i64 160])/\CaIs w' a f r P room now hh mm V)∨∃V' b,MadeRoom P room V V'/\w.heap.size<=b/\e = .returned (.tuple #[.pointer (some ⟨b,0,none⟩),.int .i64 0])/\CaIs w' a f r P room (now+1) hh mm (updV V' page (some ⟨b,now+1,none,0,[],false⟩)))/\GrowBut (caMu a r V) w w':=by
  refine(takes_gives w a f r P room now hh mm V h hP hn hroom page hp).mono ?_
  rintro e w' ⟨⟨v',h1,_⟩|⟨_,h1,b,h2,rfl,h3⟩|⟨_,h1,h2,rfl,h3⟩|⟨_,h1,k0,v0,h2,h3,h4,b,h5,rfl,h6⟩,hG⟩
  · rw[hv] at h1
    cases h1
  · exact⟨.inr ⟨V,b,.inl ⟨h1,rfl⟩,h2,rfl,h3⟩,hG⟩
  · exact⟨.inl ⟨⟨h1,h2⟩,rfl,h3⟩,hG⟩
  · exact⟨.inr ⟨_,b,.inr ⟨h1,k0,v0,h2,h3,h4,rfl⟩,h5,rfl,h6⟩,hG⟩
end
theorem cnew_gives (w:World)(f l d P:Nat)(fr pg room:Int)(S:LgS)(hb:BlkIs w f 108 (flFC l fr pg))(hL:LogIs w l d fr pg S)(hr:2<=room/\room<=2000) :
    Calls Tryz.prog 18 #[.pointer (some ⟨f,0,none⟩),.int .i64 room] w fun e w'=>∃a r,e = .returned (.tuple #[.pointer (some ⟨a,0,none⟩),.int .i64 0])/\w.heap.size<=a/\w.heap.size<=r/\CaIs w' a f r P room 0 0 0 (fun _=>none)/\Below w.heap.size w w':=by
  have HD:=fdisk_gives hb hL
  have h1:¬ room<2:=by omega
  have h2:¬ 2000<room:=by omega
  go_enter Tryz.func18,Tryz.ntmps18
  go_wp2_with (first
    | (refine wp_makeMap rfl rfl ?_;intro _)
    | (go_at_call 35;refine HD.mono ?_;rintro e w' ⟨rfl,rfl⟩))
  have hB1:Below w.heap.size w (w.alloc (.map #[] 0)):=(Below.refl _ w).alloc (Nat.le_refl _) _
  have hB2:Below (w.alloc (.map #[] 0)).heap.size (w.alloc (.map #[] 0)) ((w.alloc (.map #[] 0)).alloc (.cells (caC f room 0 w.heap.size 0 0) 77)):=(Below.refl _ _).alloc (Nat.le_refl _) _
  have hm0:MapIs (w.alloc (.map #[] 0)) w.heap.size #[] 0:=World.alloc_heap_new w _
  have bb:=BlkIs.new (w.alloc (.map #[] 0)) 77 (caC f room 0 w.heap.size 0 0)
  rw[World.size_alloc] at bb
  have e0:ptrV (fun _=>none)=fun _=>none:=rfl
  refine bodyPost_ret (results_tmp2 rfl _ _ _) rfl ⟨w.heap.size+1,w.heap.size,rfl,by omega,Nat.le_refl _,⟨bb,⟨#[],0,hm0.below hB2 hm0.lt,by rw[e0];exact EnV.empty,MapKept.stamped_empty 0⟩,fun k v h=>(by cases h),fun j k u v h=>(by cases h),fun j k u v h=>(by cases h)⟩,hB1.trans (hB2.mono hB1.size)⟩
def ReadOut (a f r P:Nat)(room now hh mm:Int)(V:RowsV)(page:Int)(R:Int ⊕ List UInt8)(sz:Nat)(e:Ending)(w':World):Prop :=
  (∃v A c,V page=some v/\e = .returned (.tuple #[.slice A v.y.length c,.int .i64 0])/\InB w' w'.heap.size A c v.y/\TyB w' A/\CaIs w' a f r P room (now+1) (hh+1) mm (updV V page (some { v with at_:=now+1 }))) ∨
  (V page=none/\∃er,R = .inl er/\e = .returned (.tuple #[.slice none 0 0,.int .i64 er])/\CaIs w' a f r P room now hh (mm+1) V) ∨
  (V page=none/\∃y,R = .inr y/\NoRoom P room V/\e = .returned (.tuple #[.slice none 0 0,.int .i64 160])/\CaIs w' a f r P room now hh (mm+1) V) ∨
  (V page=none/\∃y V' b A c A' c',R = .inr y/\MadeRoom P room V V'/\sz<=b/\e = .returned (.tuple #[.slice A y.length c,.int .i64 0])/\InB w' w'.heap.size A c y/\TyB w' A/\CaIs w' a f r P room (now+1) hh (mm+1) (updV V' page (some ⟨b,now+1,A',c',y,false⟩)))
theorem cread_hit (w:World)(a f r P:Nat)(room now hh mm:Int)(V:RowsV)(h:CaIs w a f r P room now hh mm V)(hP:P<=1000)(hn:0<=now/\now<=1000000)(hroom:2<=room)(hh0:0<=hh/\hh<=1000000)(page:Int)(R:Int ⊕ List UInt8)(v:RowV)(hv:V page=some v) :
    Calls Tryz.prog 7 #[.pointer (some ⟨a,0,none⟩),.int .i64 page] w fun e w'=>ReadOut a f r P room now hh mm V page R w.heap.size e w'/\GrowBut (caMu a r V) w w':=by
  have HN:=cnone_gives h.cb
  have k3:w.cell? ⟨a,3,none⟩=some (.map (some r)):=(h.cb.cell _).trans rfl
  have HA:=add1_gives (w:=w) (a:=⟨a,4,none⟩) (x:=hh) ((h.cb.cell _).trans rfl) (h.cb.free 4) rfl (by omega)
  obtain⟨h1,hG1⟩:=h.setCa 4 (.int .i64 (hh+1)) (now':=now) (hh':=hh+1) (mm':=mm) rfl (Int.le_refl _)
  have HT:=takes_hit h1 hP hn hroom hv
  obtain⟨es,clock,hmi,he,hst⟩:=h.mp
  have hl:=ptrV_some hv
  obtain⟨W1,eW1⟩:∃W1,W1=w.setCell ⟨a,4,none⟩ (.int .i64 (hh+1)):=⟨_,rfl⟩
  rw[<-eW1] at HA h1 hG1 HT
  clear eW1
  go_enter Tryz.func7,Tryz.ntmps7
  go_wp2_with (first
    | (go_at_call 21;refine HN.mono ?_;rintro e w' ⟨rfl,rfl⟩)
    | (refine wp_exec rfl (lookR he hmi hl rfl rfl rfl) ?_)
    | (go_at_call 22;refine HA.mono ?_;rintro e w' ⟨rfl,rfl⟩)
    | (go_at_call 23;refine HT.mono ?_;rintro e w2 ⟨rfl,h2,hG2⟩
       have hr2:=h2.rows page _ (updV_self V page _)
       have k2:w2.cell? ⟨v.b,1,none⟩=some (.slice v.A v.y.length v.c):=(hr2.blk.cell _).trans rfl
       have HC:=cloneP_gives w2 v.A v.c v.y hr2.bys hr2.short)
    | (go_at_call 24;refine HC.mono ?_;rintro e w3 ⟨A,c,rfl,hin,hge,hty,hB3⟩))
  exact bodyPost_ret (results_tmp2 rfl _ _ _) rfl ⟨.inl ⟨v,A,c,hv,rfl,hin,hty,h2.below hB3⟩,((hG1.more (fun k e _ => .inl e)).trans hG2).trans (GrowBut.below hB3)⟩
def FileSays (W:World)(f:Nat)(page:Int)(R:Int ⊕ List UInt8):Prop :=
  Calls Tryz.prog 25 #[.pointer (some ⟨f,0,none⟩),.int .i64 page] W fun e w'=>(match R with | .inl er=>e = .returned (.tuple #[.slice none 0 0,.int .i64 er]) | .inr y=>∃A c,e = .returned (.tuple #[.slice A y.length c,.int .i64 0])/\InB w' w'.heap.size A c y)/\Below W.heap.size W w'
theorem cread_err (w:World)(a f r P:Nat)(room now hh mm:Int)(V:RowsV)(h:CaIs w a f r P room now hh mm V)(hm0:0<=mm/\mm<=1000000)(page er:Int)(hv:V page=none)(her:er≠0)(HF:∀W,GrowBut (caMu a r V) w W->FileSays W f page (.inl er)) :
    Calls Tryz.prog 7 #[.pointer (some ⟨a,0,none⟩),.int .i64 page] w fun e w'=>ReadOut a f r P room now hh mm V page (.inl er) w.heap.size e w'/\GrowBut (caMu a r V) w w':=by
  have HN:=cnone_gives h.cb
  have k3:w.cell? ⟨a,3,none⟩=some (.map (some r)):=(h.cb.cell _).trans rfl
  have HA:=add1_gives (w:=w) (a:=⟨a,5,none⟩) (x:=mm) ((h.cb.cell _).trans rfl) (h.cb.free 5) rfl (by omega)
  obtain⟨h1,hG1⟩:=h.setCa 5 (.int .i64 (mm+1)) (now':=now) (hh':=hh) (mm':=mm+1) rfl (Int.le_refl _)
  have hG1':=hG1.more (Nu:=caMu a r V) (fun k e _ => .inl e)
  have HR:=HF _ hG1'
  obtain⟨es,clock,hmi,he,hst⟩:=h.mp
  have hl:=ptrV_none hv
  obtain⟨W1,eW1⟩:∃W1,W1=w.setCell ⟨a,5,none⟩ (.int .i64 (mm+1)):=⟨_,rfl⟩
  rw[<-eW1] at HA h1 hG1' HR
  clear eW1 hG1
  have k0:W1.cell? ⟨a,0,none⟩=some (.pointer (some ⟨f,0,none⟩)):=(h1.cb.cell _).trans rfl
  have hne:(er == 0)=false:=beq_eq_false_iff_ne.2 her
  unfold FileSays at HR
  go_enter Tryz.func7,Tryz.ntmps7
  go_wp2_with (first
    | (go_at_call 21;refine HN.mono ?_;rintro e w' ⟨rfl,rfl⟩)
    | (refine wp_exec rfl (look0R he hmi hl rfl rfl rfl) ?_)
    | (go_at_call 22;refine HA.mono ?_;rintro e w' ⟨rfl,rfl⟩)
    | (refine HR.mono ?_;rintro e w2 ⟨rfl,hB2⟩))
  exact bodyPost_ret (results_tmp2 rfl _ _ _) rfl ⟨.inr (.inl ⟨hv,er,rfl,rfl,h1.below hB2⟩),hG1'.trans (GrowBut.below hB2)⟩
theorem cread_miss (w:World)(a f r P:Nat)(room now hh mm:Int)(V:RowsV)(h:CaIs w a f r P room now hh mm V)(hP:P<=1000)(hn:0<=now/\now<=1000000)(hroom:2<=room)(hm0:0<=mm/\mm<=1000000)(page:Int)(hpg:0<=page/\page<(P:Int))(y:List UInt8)(hy:y.length=512)(hv:V page=none)(HF:∀W,GrowBut (caMu a r V) w W->FileSays W f page (.inr y)) :
    Calls Tryz.prog 7 #[.pointer (some ⟨a,0,none⟩),.int .i64 page] w fun e w'=>ReadOut a f r P room now hh mm V page (.inr y) w.heap.size e w'/\GrowBut (caMu a r V) w w':=by
  have HN:=cnone_gives h.cb
  have k3:w.cell? ⟨a,3,none⟩=some (.map (some r)):=(h.cb.cell _).trans rfl
  have HA:=add1_gives (w:=w) (a:=⟨a,5,none⟩) (x:=mm) ((h.cb.cell _).trans rfl) (h.cb.free 5) rfl (by omega)
  obtain⟨h1,hG1⟩:=h.setCa 5 (.int .i64 (mm+1)) (now':=now) (hh':=hh) (mm':=mm+1) rfl (Int.le_refl _)
  have hG1':=hG1.more (Nu:=caMu a r V) (fun k e _ => .inl e)
  have HR:=HF _ hG1'
  obtain⟨es,clock,hmi,he,hst⟩:=h.mp
  have hl:=ptrV_none hv
  obtain⟨W1,eW1⟩:∃W1,W1=w.setCell ⟨a,5,none⟩ (.int .i64 (mm+1)):=⟨_,rfl⟩
  rw[<-eW1] at HA h1 hG1' HR
  clear eW1 hG1
  have k0:W1.cell? ⟨a,0,none⟩=some (.pointer (some ⟨f,0,none⟩)):=(h1.cb.cell _).trans rfl
  unfold FileSays at HR
  go_enter Tryz.func7,Tryz.ntmps7
  go_wp2_with (first
    | (go_at_call 21;refine HN.mono ?_;rintro e w' ⟨rfl,rfl⟩)
    | (refine wp_exec rfl (look0R he hmi hl rfl rfl rfl) ?_)
    | (go_at_call 22;refine HA.mono ?_;rintro e w' ⟨rfl,rfl⟩)
    | (refine HR.mono ?_;rintro e w2 ⟨⟨A,c,rfl,hin⟩,hB2⟩
       have h2:=h1.below hB2
       have HT:=takes_miss h2 hP hn hroom hpg hv))
  refine HT.mono ?_
  rintro e w3 ⟨(⟨hno,rfl,h3⟩|⟨V',b,hmade,hb,rfl,h3⟩),hG3⟩
  · go_wp2
    exact bodyPost_ret (results_tmp2 rfl _ _ _) rfl ⟨.inr (.inr (.inl ⟨hv,y,rfl,hno,rfl,h3⟩)),(hG1'.trans (GrowBut.below hB2)).trans hG3⟩
  · have hin3:InB w3 w3.heap.size A c y:=RowIs.keepB hin (.inl hy) hG3 h2.ca
    have hv3:=updV_self V' page (some ⟨b,now+1,none,0,[],false⟩)
    have hr3:=h3.rows page _ hv3
    have k1:w3.cell? ⟨b,1,none⟩=some (.slice none 0 0):=(hr3.blk.cell _).trans rfl
    have k2:=hr3.blk.free 1
    obtain⟨h4,hG4⟩:=h3.setRow (v1:=⟨b,now+1,A,c,y,false⟩) hv3 rfl 1 (.slice A 512 c) (by simp[rowC,hy]) (.inr ⟨hin3,.inl hy⟩) ⟨by show 0<=now+1;omega,Int.le_refl _⟩ (fun _ k v hk hkv=>by
      rw[updV_ne hk] at hkv
      have:=(h2.rows k v (hmade.sub hkv)).at0.2
      show v.at_≠now+1
      omega)
    rw[updV_updV] at h4
    have hr4:=h4.rows page _ (updV_self V' page _)
    have HC:=cloneP_gives (w3.setCell ⟨b,1,none⟩ (.slice A 512 c)) A c y hr4.bys (by omega)
    rw[hy] at HC
    go_wp2_with (go_at_call 24;refine HC.mono ?_;rintro e w5 ⟨A2,c2,rfl,hin5,hge,hty,hB5⟩)
    refine bodyPost_ret (results_tmp2 rfl _ _ _) rfl ⟨.inr (.inr (.inr ⟨hv,y,V',b,A2,c2,A,c,rfl,hmade,Nat.le_trans hG1'.size (Nat.le_trans hB2.size hb),by rw[hy];rfl,hin5,hty,h4.below hB5⟩)),?_⟩
    have hG34:GrowBut (caMu a r V) w2 (w3.setCell ⟨b,1,none⟩ (.slice A 512 c)):=by
      have:=(hG3.more (Nu:=fun k=>caMu a r V k∨w2.heap.size<=k) (fun k e _ => .inl e)).trans (hG4.more (fun k e _ => .inr (by rw[e];exact hb)))
      exact this.more (fun k e hk=>by rcases e with e|e;exact e;omega)
    exact((hG1'.trans (GrowBut.below hB2)).trans hG34).trans (GrowBut.below hB5)
theorem planPages (fr pg:Int)(W:World):(Instr.field 23 (.agg #[.int .i64 fr,.int .i64 pg]) 1).run Tryz.prog W = .ok (.int .i64 pg) W:=by
  simp[Instr.field,run_underlying Tryz.underlying23,part,asAgg,go_sem,Result.andThen]
theorem cwrite_range (w:World)(a f l r:Nat)(fr pg room now hh mm:Int)(hb:BlkIs w a 77 (caC f room now r hh mm))(hf:BlkIs w f 108 (flFC l fr pg))(page:Int)(A:Option Addr)(c:Nat)(hn:page<0∨pg<=page) :
    Calls Tryz.prog 9 #[.pointer (some ⟨a,0,none⟩),.int .i64 page,.slice A 512 c] w fun e w'=>e = .returned (.int .i64 4)/\Below w.heap.size w w':=by
  have HN:=cnone_gives hb
  have HP:=fplan_gives hf
  have k0:w.cell? ⟨a,0,none⟩=some (.pointer (some ⟨f,0,none⟩)):=(hb.cell _).trans rfl
  go_enter Tryz.func9,Tryz.ntmps9
  go_wp2_with fail
  refine wp_scope_jumps (rest:=?rest) 0 (fun a w'=>(∃u0 u1 u2 u3 u4 u5 u7 u8 u9 u10 u11 u12 u13 u14 u15 u16 u17 u18 u19 u20 u21 u22 u23 u24 u25 u26 u27 u28 u29 u30 u31 u32 u33 u34 u35 u36 u37 u38 u39 u40 u41,a = { tmps:=#[u0,u1,u2,u3,u4,u5,.int .i64 4,u7,u8,u9,u10,u11,u12,u13,u14,u15,u16,u17,u18,u19,u20,u21,u22,u23,u24,u25,u26,u27,u28,u29,u30,u31,u32,u33,u34,u35,u36,u37,u38,u39,u40,u41],defers:=[] })/\Below w.heap.size w w') (fun _ _=>0) ?hf ?first ?pass
  case hf=>exact rfl
  case pass =>
    rintro a w' ⟨⟨u0,u1,u2,u3,u4,u5,u7,u8,u9,u10,u11,u12,u13,u14,u15,u16,u17,u18,u19,u20,u21,u22,u23,u24,u25,u26,u27,u28,u29,u30,u31,u32,u33,u34,u35,u36,u37,u38,u39,u40,u41,rfl⟩,hB⟩
    go_wp2
    simp only[Exit.jump]
    go_ret
    exact⟨rfl,hB⟩
  case first =>
    by_cases h0:page<0
    · go_wp2_with (first
        | (go_at_call 21;refine HN.mono ?_;rintro e w' ⟨rfl,rfl⟩)
        | (go_at_call 26;refine HP.mono ?_;rintro e w' ⟨rfl,hB⟩))
      go_step3
      exact⟨rfl,by repeat (first|exact rfl|apply Exists.intro),Below.refl _ _⟩
    · have h1:pg<=page:=by omega
      have hq:=planPages fr pg
      go_wp2_with (first
        | (go_at_call 21;refine HN.mono ?_;rintro e w' ⟨rfl,rfl⟩)
        | (go_at_call 26;refine HP.mono ?_;rintro e w' ⟨rfl,hB⟩))
      go_step3
      exact⟨rfl,by repeat (first|exact rfl|apply Exists.intro),hB⟩
theorem CaIs.hu {W:World}{a f r P:Nat}{room now hh mm:Int}{V:RowsV}(h:CaIs W a f r P room now hh mm V){page:Int}{v:RowV}(hv:V page=some v)(v1:RowV)(he:v1.at_=v.at_):1<=v1.at_->∀k u,k≠page->V k=some u->u.at_≠v1.at_:=fun h1 k u hk hu e=>hk (h.iat k page u v hu hv (by rw[e];exact h1) (by rw[e,he]))
theorem CaIs.fill {W:World}{a f r P:Nat}{room now hh mm:Int}{V:RowsV}(h:CaIs W a f r P room now hh mm V){page:Int}{v:RowV}(hv:V page=some v){A:Option Addr}{c:Nat}{y:List UInt8}(hy:y.length=512)(hin:InB W W.heap.size A c y) :
    CaIs ((W.setCell ⟨v.b,1,none⟩ (.slice A 512 c)).setCell ⟨v.b,2,none⟩ (.bool true)) a f r P room now hh mm (updV V page (some ⟨v.b,v.at_,A,c,y,true⟩))/\GrowBut (fun k=>k=v.b) W ((W.setCell ⟨v.b,1,none⟩ (.slice A 512 c)).setCell ⟨v.b,2,none⟩ (.bool true)):=by
  obtain⟨h1,g1⟩:=h.setRow (v1:=⟨v.b,v.at_,A,c,y,v.d⟩) hv rfl 1 (.slice A 512 c) (by simp[rowC,hy]) (.inr ⟨hin,.inl hy⟩) (h.rows page v hv).at0 (h.hu hv _ rfl)
  have hv1:=updV_self V page (some ⟨v.b,v.at_,A,c,y,v.d⟩)
  obtain⟨h2,g2⟩:=h1.setRow (v1:=⟨v.b,v.at_,A,c,y,true⟩) hv1 rfl 2 (.bool true) (by simp[rowC]) (.inl ⟨rfl,rfl,rfl⟩) (h1.rows page _ hv1).at0 (h1.hu hv1 _ rfl)
  rw[updV_updV] at h2
  exact⟨h2,g1.trans g2⟩
def Took (P:Nat)(room:Int)(V V':RowsV)(page:Int)(b:Nat)(sz:Nat):Prop:=(∃v,V page=some v/\b=v.b/\V'=V)∨(V page=none/\MadeRoom P room V V'/\sz<=b)
theorem Took.mu {P:Nat}{room:Int}{V V':RowsV}{page:Int}{b a r sz:Nat}(h:Took P room V V' page b sz):caMu a r V b∨sz<=b:=by
  rcases h with⟨v,h1,h2,_⟩|⟨_,_,h3⟩
  · exact .inl (.inr (.inr ⟨page,v,h1,h2⟩))
  · exact .inr h3
def WriteOut (a f r P:Nat)(room now hh mm:Int)(V:RowsV)(page:Int)(y:List UInt8)(sz:Nat)(e:Ending)(w':World):Prop :=
  (V page=none/\NoRoom P room V/\e = .returned (.int .i64 160)/\CaIs w' a f r P room now hh mm V) ∨
  (∃V' b A' c',Took P room V V' page b sz/\e = .returned (.int .i64 0)/\CaIs w' a f r P room (now+1) hh mm (updV V' page (some ⟨b,now+1,A',c',y,true⟩)))
theorem cwrite_gives (w:World)(a f l r P:Nat)(fr pg room now hh mm:Int)(V:RowsV)(h:CaIs w a f r P room now hh mm V)(hf:BlkIs w f 108 (flFC l fr pg))(hP:P<=1000)(hPg:(P:Int)=pg)(hn:0<=now/\now<=1000000)(hroom:2<=room)(page:Int)(hpg:0<=page/\page<pg)(A:Option Addr)(c:Nat)(y:List UInt8)(hy:y.length=512)(hin:InB w w.heap.size A c y) :
    Calls Tryz.prog 9 #[.pointer (some ⟨a,0,none⟩),.int .i64 page,.slice A 512 c] w fun e w'=>WriteOut a f r P room now hh mm V page y w.heap.size e w'/\GrowBut (caMu a r V) w w':=by
  have HN:=cnone_gives h.cb
  have HP:=fplan_gives hf
  have k0:w.cell? ⟨a,0,none⟩=some (.pointer (some ⟨f,0,none⟩)):=(h.cb.cell _).trans rfl
  have hq:=planPages fr pg
  have h0:¬ page<0:=by omega
  have h1:¬ pg<=page:=by omega
  have HT:∀W,Below w.heap.size w W->Calls Tryz.prog 23 #[.pointer (some ⟨a,0,none⟩),.int .i64 page] W fun e w'=>((V page=none/\NoRoom P room V/\e = .returned (.tuple #[.pointer none,.int .i64 160])/\CaIs w' a f r P room now hh mm V)∨∃V' v1,Took P room V V' page v1.b w.heap.size/\v1.at_=now+1/\e = .returned (.tuple #[.pointer (some ⟨v1.b,0,none⟩),.int .i64 0])/\CaIs w' a f r P room (now+1) hh mm (updV V' page (some v1)))/\GrowBut (caMu a r V) W w':=fun W hB=>by
    cases hv:V page with
    | some v =>
      refine(takes_hit (h.below hB) hP hn hroom hv).mono ?_
      rintro e w' ⟨rfl,h2,hG⟩
      exact⟨.inr ⟨V,{ v with at_:=now+1 },.inl ⟨v,hv,rfl,rfl⟩,rfl,rfl,h2⟩,hG⟩
    | none =>
      refine(takes_miss (h.below hB) hP hn hroom ⟨hpg.1,by omega⟩ hv).mono ?_
      rintro e w' ⟨⟨h2,rfl,h3⟩|⟨V',b,h2,h3,rfl,h4⟩,hG⟩
      · exact⟨.inl ⟨rfl,h2,rfl,h3⟩,hG⟩
      · exact⟨.inr ⟨V',⟨b,now+1,none,0,[],false⟩,.inr ⟨hv,h2,Nat.le_trans hB.size h3⟩,rfl,rfl,h4⟩,hG⟩
  go_enter Tryz.func9,Tryz.ntmps9
  go_wp2_with fail
  refine wp_scope_straight ?_
  go_wp2_with (first
    | (go_at_call 21;refine HN.mono ?_;rintro e w' ⟨rfl,rfl⟩)
    | (go_at_call 26;refine HP.mono ?_;rintro e w1 ⟨rfl,hB1⟩))
  refine(HT w1 hB1).mono ?_
  rintro e w2 ⟨(⟨hv,hno,rfl,h2⟩|⟨V',v1,htk,hat,rfl,h2⟩),hG2⟩
  · go_wp2
    go_step3
    go_wp2
    simp only[Exit.noGoto]
    go_ret
    exact⟨.inl ⟨hv,hno,rfl,h2⟩,(GrowBut.below hB1).trans hG2⟩
  · have hG1:=(GrowBut.below (Mu:=caMu a r V) hB1).trans hG2
    have hin2:InB w2 w2.heap.size A c y:=RowIs.keepB hin (.inl hy) hG1 h.ca
    have HC:=cloneP_gives w2 A c y hin2 (by omega)
    rw[hy] at HC
    have hv1:=updV_self V' page (some v1)
    go_wp2_with (first
      | (go_at_call 24;refine HC.mono ?_;rintro e w3 ⟨A3,c3,rfl,hin3,hge,hty,hB3⟩
         have h3:=h2.below hB3
         have hr3:=h3.rows page _ hv1
         have k1:w3.cell? ⟨v1.b,1,none⟩=some (.slice v1.A v1.y.length v1.c):=(hr3.blk.cell _).trans rfl
         have k2:=hr3.blk.free 1
         have k3:w3.cell? ⟨v1.b,2,none⟩=some (.bool v1.d):=(hr3.blk.cell _).trans rfl
         have k4:=hr3.blk.free 2
         obtain⟨h4,hG4⟩:=h3.fill hv1 hy hin3))
    go_step3
    go_wp2
    simp only[Exit.noGoto]
    go_ret
    refine⟨.inr ⟨V',v1.b,A3,c3,htk,rfl,?_⟩,?_⟩
    · rw[updV_updV,hat] at h4
      exact h4
    · have hG5:=(hG1.more (Nu:=fun k=>caMu a r V k∨w.heap.size<=k) (fun k e _ => .inl e)).trans ((GrowBut.below hB3).trans (hG4.more (fun k e _=>by rw[e];exact htk.mu)))
      exact hG5.more (fun k e hk=>by rcases e with e|e;exact e;omega)
theorem pgL_length (v:UInt8):(pgL v).length=512:=List.length_replicate
theorem toldF_inj {Y Z:Nat->List UInt8}(hY:∀k,(Y k).length=512)(hZ:∀k,(Z k).length=512){a b:Int}:∀P,toldF Y a P=toldF Z b P->lowB a=lowB b/\∀p,p<P->Y p=Z p
  | 0,h=>⟨by injection h,fun p hp=>absurd hp (Nat.not_lt_zero p)⟩
  | P+1,h=>by
    unfold toldF at h
    obtain⟨h1,h2⟩:=List.append_inj h (by rw[toldF_len hY,toldF_len hZ])
    obtain⟨h3,h4⟩:=toldF_inj hY hZ P h1
    refine⟨h3,fun p hp => ?_⟩
    by_cases e:p=P
    · subst e;exact h2
    · exact h4 p (by omega)
theorem lastPw_len {pw:Nat->Int×List UInt8}{p:Int}:∀n,(∀k,k<n->(pw k).2.length=512)->∀y,lastPw pw p n=some y->y.length=512
  | 0,_,y,h=>by cases h
  | n+1,hl,y,h=>by
    unfold lastPw at h
    by_cases e:(pw n).1=p
    · rw[if_pos e] at h
      injection h with h
      rw[<-h]
      exact hl n (by omega)
    · rw[if_neg e] at h
      exact lastPw_len n (fun k hk=>hl k (by omega)) y h
theorem tell_pages {fr:Int}{G G':Nat->List UInt8}{S S':LgS}{z:Int}{n P:Nat}{pw:Nat->Int×List UInt8}(hG:∀k,(G k).length=64)(hy:∀x∈S.fs,x.y.length=512)(hG':∀k,(G' k).length=64)(hy':∀x∈S'.fs,x.y.length=512)(hl:∀k,k<n->(pw k).2.length=512)(h:tellF G' fr S' P=wantF (fileY G fr S) z n pw P):lowB S'.sz=lowB z/\∀p,p<P->fileY G' fr S' p=(lastPw pw (p:Int) n).getD (fileY G fr S p) :=
  toldF_inj (fun k=>fpY_len hG' hy' _ _) (fun k=>by
    cases e:lastPw pw (k:Int) n with
    | none=>exact fpY_len hG hy _ _
    | some y=>exact lastPw_len n hl y e) P h
theorem com_full {fr pg z x:Int}{P n:Nat}{s s':DS}{S S':LgS}{xs:Nat->Int×Option Addr×Nat}{pw:Nat->Int×List UInt8}(h:ComOut fr pg P s S n xs pw z x s' S')(hpl:planOk fr pg=true)(hx:∀k,k<n->(pw k).1=(xs k).1)(hR:1<=n/\0<=z/\z<=pg/\∀k,k<n->0<=(pw k).1/\(pw k).1<pg)(hn:fr<(n:Int)):x=160:=by
  have hR:=(rightC_iff (z:=z) hpl hx).2 hR
  rcases h with⟨ha,_⟩|⟨_,h,_⟩
  · rcases ha with⟨h,_⟩|⟨_,_,h,_⟩|⟨_,h,_⟩
    · exact absurd hR h
    · exact h
    · omega
  · omega
theorem rng_pw {w:World}{g:Nat}{T:TypeId}(xs:List (Int×Option Addr×Nat))(h:BlkIs w g T (pwsC xs).toArray):PwIn w g 0 xs.length fun k=>xs.getD k (0,none,0):=fun k hk j v hj=>by
  rw[h.cell]
  have hx:xs.getD k (0,none,0)=xs[k]:=by rw[List.getD_eq_getElem?_getD,List.getElem?_eq_getElem hk];rfl
  simp only[hx] at hj
  have:=pwsC_get xs k hk j v hj
  simpa using this
theorem args_of {V:World}{B g:Nat}(xs:List (Int×Option Addr×Nat))(pb:List (Int×List UInt8))(hb:BlkIs V g 92 (pwsC xs).toArray)(hB:B<=g)
    (hp:∀k,k<xs.length->(pb.getD k (0,[])).1=(xs.getD k (0,none,0)).1/\(pb.getD k (0,[])).2.length=512/\InB V V.heap.size (xs.getD k (0,none,0)).2.1 (xs.getD k (0,none,0)).2.2 (pb.getD k (0,[])).2/\TyB V (xs.getD k (0,none,0)).2.1) :
    PwArgs V B (some ⟨g,0,none⟩) xs.length (fun k=>xs.getD k (0,none,0)) (fun k=>pb.getD k (0,[])) :=
  ⟨fun g' o e=>by injection e with e;injection e with e1;omega,fun _=>⟨g,0,rfl,rng_pw xs hb,hb.lt⟩,fun k hk=>⟨(hp k hk).1,(hp k hk).2.1,(hp k hk).2.2.1⟩,fun k hk=>(hp k hk).2.2.2⟩
def comX (fr pg z:Int)(n:Nat)(pw:Nat->Int×List UInt8)(x:Int):Prop :=
  ((1<=n/\0<=z/\z<=pg/\∀k,k<n->0<=(pw k).1/\(pw k).1<pg)/\(((n:Int)<=fr/\x=0)∨(fr<(n:Int)/\x=160)))∨(¬ (1<=n/\0<=z/\z<=pg/\∀k,k<n->0<=(pw k).1/\(pw k).1<pg)/\x=2)
theorem comX_same {fr pg z x y:Int}{n:Nat}{pw:Nat->Int×List UInt8}(h:comX fr pg z n pw x)(k:comX fr pg z n pw y):x=y:=by
  rcases h with⟨h1,h2⟩|⟨h1,h2⟩<;>rcases k with⟨k1,k2⟩|⟨k1,k2⟩
  · rcases h2 with⟨h2,h3⟩|⟨h2,h3⟩<;>rcases k2 with⟨k2,k3⟩|⟨k2,k3⟩<;>omega
  · exact absurd h1 k1
  · exact absurd k1 h1
  · omega
theorem comX_of {fr pg z x:Int}{P n:Nat}{s s':DS}{S S':LgS}{xs:Nat->Int×Option Addr×Nat}{pw:Nat->Int×List UInt8}(h:ComOut fr pg P s S n xs pw z x s' S')(hpl:planOk fr pg=true)(hx:∀k,k<n->(pw k).1=(xs k).1)(h0:(x=0/\MayCom fr pg z n pw)∨(¬ x=0/\¬ MayCom fr pg z n pw)):comX fr pg z n pw x:=by
  by_cases hR:1<=n/\0<=z/\z<=pg/\∀k,k<n->0<=(pw k).1/\(pw k).1<pg
  · refine .inl ⟨hR,?_⟩
    by_cases hn:(n:Int)<=fr
    · rcases h0 with⟨e,_⟩|⟨_,e⟩
      · exact .inl ⟨hn,e⟩
      · exact absurd ⟨hR,hn⟩ e
    · exact .inr ⟨by omega,com_full h hpl hx hR (by omega)⟩
  · refine .inr ⟨hR,?_⟩
    have hR':¬ RightC fr pg z n xs:=fun e=>hR ((rightC_iff (z:=z) hpl hx).1 e)
    rcases h with⟨ha,_⟩|⟨ha,_⟩
    · rcases ha with⟨_,e,_⟩|⟨e,_⟩|⟨e,_⟩
      · exact e
      · exact absurd e hR'
      · exact absurd e hR'
    · rcases ha with⟨_,e,_⟩|⟨e,_⟩|⟨e,_⟩
      · cases e
      · exact absurd e hR'
      · exact absurd e hR'
def TellSame (P:Nat)(fr:Int)(G1:Nat->List UInt8)(S1:LgS)(G2:Nat->List UInt8)(S2:LgS):Prop:=S1.sz=S2.sz/\∀p,p<P->fileY G1 fr S1 p=fileY G2 fr S2 p
abbrev RowsC:=Int->Option (List UInt8×Bool)
def RowsOk (P:Nat)(Y:Nat->List UInt8)(R:RowsC):Prop:=∀p b d,R p=some (b,d)->(0<=p/\p<(P:Int))/\b.length=512/\(d=false->b=Y p.toNat)
def DirtySame (R1 R2:RowsC):Prop:=∀p b,R1 p=some (b,true)↔R2 p=some (b,true)
def viewC (Y:Nat->List UInt8)(R:RowsC)(p:Nat):List UInt8:=match R (p:Int) with|some (b,true)=>b|_=>Y p
theorem viewC_same {P:Nat}{Y1 Y2:Nat->List UInt8}{R1 R2:RowsC}(hY:∀p,p<P->Y1 p=Y2 p)(hD:DirtySame R1 R2){p:Nat}(hp:p<P):viewC Y1 R1 p=viewC Y2 R2 p:=by
  unfold viewC
  cases h1:R1 (p:Int) with
  | none =>
    cases h2:R2 (p:Int) with
    | none=>exact hY p hp
    | some x =>
      obtain⟨b,d⟩:=x
      cases d with
      | false=>exact hY p hp
      | true=>rw[(hD _ b).2 h2] at h1;cases h1
  | some y =>
    obtain⟨c,e⟩:=y
    cases e with
    | true=>rw[(hD _ c).1 h1]
    | false =>
      cases h2:R2 (p:Int) with
      | none=>exact hY p hp
      | some x =>
        obtain⟨b,d⟩:=x
        cases d with
        | false=>exact hY p hp
        | true=>rw[(hD _ b).2 h2] at h1;cases h1
theorem RowsOk.view {P:Nat}{Y:Nat->List UInt8}{R:RowsC}(h:RowsOk P Y R){p:Nat}{b:List UInt8}{d:Bool}(hr:R (p:Int)=some (b,d)):viewC Y R p=b:=by
  unfold viewC
  rw[hr]
  cases d with
  | true=>rfl
  | false =>
    have:=(h _ b false hr).2.2 rfl
    rw[Int.toNat_natCast] at this
    exact this.symm
def RowsCut (R R':RowsC):Prop:=R'=R∨∃k b,R k=some (b,false)/\R'=fun p=>if p=k then none else R p
def rowsPut (R:RowsC)(k:Int)(x:List UInt8×Bool):RowsC:=fun p=>if p=k then some x else R p
theorem RowsCut.ok {P:Nat}{Y:Nat->List UInt8}{R R':RowsC}(h:RowsOk P Y R)(hc:RowsCut R R'):RowsOk P Y R':=by
  rcases hc with rfl|⟨k,b,_,rfl⟩
  · exact h
  · intro p c d hr
    replace hr:(if p=k then none else R p)=some (c,d):=hr
    by_cases e:p=k
    · rw[if_pos e] at hr;cases hr
    · rw[if_neg e] at hr
      exact h p c d hr
theorem RowsCut.dirty {R R':RowsC}(hc:RowsCut R R')(p:Int)(b:List UInt8):R' p=some (b,true)↔R p=some (b,true):=by
  rcases hc with rfl|⟨k,c,hk,rfl⟩
  · exact Iff.rfl
  · by_cases e:p=k
    · subst e
      simp only[if_true]
      rw[hk]
      constructor
      · intro h;cases h
      · intro h;cases h
    · simp only[if_neg e]
theorem RowsOk.put {P:Nat}{Y:Nat->List UInt8}{R:RowsC}(h:RowsOk P Y R){k:Int}{b:List UInt8}{d:Bool}(hk:0<=k/\k<(P:Int))(hb:b.length=512)(hd:d=false->b=Y k.toNat):RowsOk P Y (rowsPut R k (b,d)):=fun p c e hr=>by
  unfold rowsPut at hr
  by_cases q:p=k
  · subst q
    rw[if_pos rfl] at hr
    injection hr with hr
    injection hr with h1 h2
    subst h1 h2
    exact⟨hk,hb,hd⟩
  · rw[if_neg q] at hr
    exact h p c e hr
theorem put_clean {R:RowsC}{k:Int}{x:List UInt8}(hk:∀b,R k≠some (b,true))(p:Int)(b:List UInt8):rowsPut R k (x,false) p=some (b,true)↔R p=some (b,true):=by
  unfold rowsPut
  by_cases q:p=k
  · subst q
    rw[if_pos rfl]
    constructor
    · intro h;cases h
    · intro h;exact absurd h (hk b)
  · rw[if_neg q]
def dirtyL (R:RowsC):Nat->List (Nat×List UInt8)
  | 0=>[]
  | P+1=>dirtyL R P++(match R (P:Int) with|some (b,true)=>[(P,b)] | _=>[])
theorem dirtyL_mem {R:RowsC}:∀{P:Nat} {x:Nat×List UInt8},x∈dirtyL R P↔x.1<P/\R (x.1:Int)=some (x.2,true)
  | 0,x=>by simp[dirtyL]
  | P+1,x=>by
    unfold dirtyL
    rw[List.mem_append,dirtyL_mem]
    have hc:x∈(match R (P:Int) with|some (b,true)=>[(P,b)] | _=>[])↔x.1=P/\R (P:Int)=some (x.2,true):=by
      obtain⟨a,c⟩:=x
      split
      · next b h =>
        rw[List.mem_singleton,h]
        constructor
        · intro e
          injection e with e1 e2
          subst e1 e2
          exact⟨rfl,rfl⟩
        · rintro⟨e1,e2⟩
          simp only at e1 e2
          injection e2 with e2
          injection e2 with e2 _
          rw[e1,e2]
      · next h =>
        constructor
        · intro e;cases e
        · rintro⟨_,e⟩
          exact absurd e (h _)
    rw[hc]
    constructor
    · rintro(⟨h1,h2⟩|⟨h1,h2⟩)
      · exact⟨by omega,h2⟩
      · rw[h1];exact⟨by omega,h2⟩
    · rintro⟨h1,h2⟩
      by_cases e:x.1=P
      · rw[e] at h2;exact .inr ⟨e,h2⟩
      · exact .inl ⟨by omega,h2⟩
theorem dirtyL_len (R:RowsC):∀P,(dirtyL R P).length<=P
  | 0=>Nat.le_refl 0
  | P+1=>by
    have:=dirtyL_len R P
    unfold dirtyL
    rw[List.length_append]
    split<;>simp<;>omega
theorem dirtyL_same {R1 R2:RowsC}(h:DirtySame R1 R2):∀P,dirtyL R1 P=dirtyL R2 P
  | 0=>rfl
  | P+1=>by
    unfold dirtyL
    rw[dirtyL_same h P]
    congr 1
    have h1:=h (P:Int)
    split
    · next b e=>rw[(h1 b).1 e]
    · next e1 =>
      split
      · next b e=>exact absurd ((h1 b).2 e) (e1 b)
      · rfl
def pwL (l:List (Nat×List UInt8))(k:Nat):Int×List UInt8:=match l[k]? with|some x=>((x.1:Int),x.2)|none=>(0,[])
theorem lastPw_congr {pw qw:Nat->Int×List UInt8}{p:Int}:∀n,(∀k,k<n->pw k=qw k)->lastPw pw p n=lastPw qw p n
  | 0,_=>rfl
  | n+1,h=>by
    unfold lastPw
    rw[h n (by omega),lastPw_congr n (fun k hk=>h k (by omega))]
theorem pwL_app {l m:List (Nat×List UInt8)}{k:Nat}(hk:k<l.length):pwL (l++m) k=pwL l k:=by
  unfold pwL
  rw[List.getElem?_append_left hk]
theorem lastPw_snoc (l:List (Nat×List UInt8))(x:Nat×List UInt8)(p:Int):lastPw (pwL (l++[x])) p (l.length+1)=if (x.1:Int)=p then some x.2 else lastPw (pwL l) p l.length:=by
  have e:pwL (l++[x]) l.length=((x.1:Int),x.2):=by
    unfold pwL
    rw[List.getElem?_append_right (Nat.le_refl _),Nat.sub_self]
    rfl
  show (if (pwL (l++[x]) l.length).1=p then some (pwL (l++[x]) l.length).2 else lastPw (pwL (l++[x])) p l.length)=_
  rw[e,lastPw_congr l.length (fun k hk=>pwL_app hk)]
theorem lastPw_dirty (R:RowsC)(p:Nat):∀P,lastPw (pwL (dirtyL R P)) (p:Int) (dirtyL R P).length=if p<P then (match R (p:Int) with|some (b,true)=>some b|_=>none) else none
  | 0=>rfl
  | P+1=>by
    have ih:=lastPw_dirty R p P
    unfold dirtyL
    by_cases hd:∃b,R (P:Int)=some (b,true)
    · obtain⟨b,hb⟩:=hd
      have e:(match R (P:Int) with|some (b,true)=>[(P,b)] | _=>[])=[(P,b)]:=by rw[hb]
      rw[e,List.length_append,List.length_singleton,lastPw_snoc,ih]
      by_cases hp:p=P
      · subst hp
        rw[if_pos rfl,if_pos (by omega),hb]
      · rw[if_neg (show ¬ ((P,b).1:Int)=(p:Int) by show ¬ (P:Int)=(p:Int);omega)]
        by_cases h1:p<P
        · rw[if_pos h1,if_pos (by omega)]
        · rw[if_neg h1,if_neg (by omega)]
    · have e:(match R (P:Int) with|some (b,true)=>[(P,b)] | _=>([]:List (Nat×List UInt8)))=[]:=by
        split
        · next b h=>exact absurd ⟨b,h⟩ hd
        · rfl
      rw[e,List.append_nil,ih]
      by_cases hp:p=P
      · subst hp
        rw[if_neg (by omega),if_pos (by omega)]
        split
        · next b h=>exact absurd ⟨b,h⟩ hd
        · rfl
      · by_cases h1:p<P
        · rw[if_pos h1,if_pos (by omega)]
        · rw[if_neg h1,if_neg (by omega)]
theorem DkIs.keepX {Mu:Nat->Prop}{W W':World}{d many:Nat}{g:Nat->List UInt8}{xs:List (Nat×List UInt8)}{left:Int}{st:Bool}(h:DkIs W d many g xs left st){k:Nat}(hk:¬ g k=zer64)(hG:GrowBut Mu W W')(hd:¬ Mu d)
    (hMu:∀j,Mu j->(∃es c f,MapIs W j es c/\EnV es f/\∀k v,f k=some v->∃a,v = .pointer a)∨(∃T cs,BlkIs W j T cs/\cs.size<=64)∨∃ds,W.heap[j]? = some (.deferred ds)):DkIs W' d many g xs left st:=by
  obtain⟨r,A,c,hb,hm,hw,hx⟩:=h.has
  have hr:¬ Mu r:=fun hmr=>by
    obtain⟨es,ck,hmi,he,_⟩:=hm.lies
    have h4:W.heap[r]? = some (.map es ck):=hmi
    rcases hMu r hmr with⟨es1,c1,f,h1,h2,h3⟩|⟨T,cs,h1,_⟩|⟨ds,h1⟩
    · have h5:W.heap[r]? = some (.map es1 c1):=h1
      rw[h4] at h5
      injection h5 with h5
      injection h5 with e1 _
      subst e1
      obtain⟨i,e,h6,_,h7⟩:=he.all k (g k) (by unfold spar;rw[if_neg hk])
      obtain⟨k',l,h8,_,h9⟩:=h2.keys i e h6
      obtain⟨a,ha⟩:=h3 k' l h8
      rw[h7,ha] at h9
      cases h9
    · have h5:W.heap[r]? = some (.cells cs T (0,0)):=h1
      rw[h4] at h5
      cases h5
    · rw[h4] at h1
      cases h1
  refine⟨r,A,c,hG.blk hb hd,hm.keep (hG.block r hm.lt hr),hw,⟨hx.le,hx.max,hx.nil,hx.len,hx.one,fun h0 => ?_⟩⟩
  obtain⟨b,o,e,hbl,hrg⟩:=hx.lies h0
  subst e
  have hbn:¬ Mu b:=fun hmb=>by
    have hno:∀ob,W.heap[b]? = some ob->(∀cs T fr,ob≠.cells cs T fr)->False:=fun ob h5 hob=>by
      have hel:=InW.elem (w:=W) (B:=W.heap.size) (c:=c) ⟨hw,hx⟩ 0 h0
      have h0l:=lsC_length (hw xs[0] (List.getElem_mem h0))
      have hc:=hel 0 ((lsC xs[0])[0]'(by omega)) (List.getElem?_eq_getElem (by omega))
      cases ob with
      | cells cs T fr=>exact hob cs T fr rfl
      | _=>simp[World.cell?,h5] at hc
    rcases hMu b hmb with⟨es1,c1,f,h1,_⟩|⟨T,cs,h1,hs⟩|⟨ds,h1⟩
    · exact hno _ h1 (fun cs T fr e=>by cases e)
    · exact InW.notDisk (w:=W) (B:=W.heap.size) (c:=c) ⟨hw,hx⟩ h0 h1 hs rfl
    · exact hno _ h1 (fun cs T fr e=>by cases e)
  exact⟨b,o,rfl,Nat.lt_of_lt_of_le hbl hG.size,fun j v hj=>hG.cell (p:=⟨b,o+j,none⟩) (hrg j v hj) hbl hbn⟩
def sysMu (d l a r:Nat)(V:RowsV)(k:Nat):Prop:=k=d∨k=l∨caMu a r V k
structure SmBlk (W:World)(k:Nat):Prop where
  ca:CaBlk W k
  dk:(∃es c g,MapIs W k es c/\EnV es g/\∀j v,g j=some v->∃p,v = .pointer p)∨(∃T cs,BlkIs W k T cs/\cs.size<=64)∨∃ds,W.heap[k]? = some (.deferred ds)
theorem SmBlk.df {W:World}{k:Nat}{ds:Option (List Deferred)}(h:W.heap[k]? = some (.deferred ds)):SmBlk W k:=⟨.inr (.inr ⟨ds,h⟩),.inr (.inr ⟨ds,h⟩)⟩
theorem CaIs.sm {W:World}{a f r P:Nat}{room now hh mm:Int}{V:RowsV}(h:CaIs W a f r P room now hh mm V):∀k,caMu a r V k->SmBlk W k:=fun k hk=>by
  refine⟨h.ca k hk,?_⟩
  rcases hk with rfl|rfl|⟨j,v,hv,rfl⟩
  · exact .inr (.inl ⟨_,_,h.cb,by show 6<=64;decide⟩)
  · obtain⟨es,c,hm,he,_⟩:=h.mp
    exact .inl ⟨es,c,ptrV V,hm,he,fun k x hx=>by obtain⟨v,_,e⟩:=ptrV_ptr hx;exact⟨_,e⟩⟩
  · exact .inr (.inl ⟨_,_,(h.rows j v hv).blk,by show 3<=64;decide⟩)
theorem LogIs.lg {W:World}{l d:Nat}{fr pg:Int}{S:LgS}(h:LogIs W l d fr pg S):∃A n c,BlkIs W l 142 (lgC (some ⟨d,0,none⟩) fr pg S.sr S.ep S.sz A n c):=by
  obtain⟨_,A,c,vs,hlg,_⟩:=h
  exact⟨A,vs.length,c,hlg⟩
theorem DkIs.bk {W:World}{d many:Nat}{g:Nat->List UInt8}{xs:List (Nat×List UInt8)}{left:Int}{st:Bool}(h:DkIs W d many g xs left st):∃r A n c,BlkIs W d 103 (dkC r many A n c left st):=by
  obtain⟨r,A,c,hb,_⟩:=h.has
  exact⟨r,A,xs.length,c,hb⟩
theorem FhIs.sm {W0 W:World}{d f l many:Nat}{fr pg:Int}{s:DS}{S:LgS}(h:FhIs W0 d f l many fr pg s S W):SmBlk W d/\SmBlk W l:=by
  obtain⟨r,A,n,c,hb⟩:=DkIs.bk h.dk
  obtain⟨A',n',c',hl⟩:=h.lg.lg
  exact⟨⟨.inr (.inl ⟨_,_,hb,by show 5<=64;decide,fun n e=>by cases e⟩),.inr (.inl ⟨_,_,hb,by show 5<=64;decide⟩)⟩,⟨.inr (.inl ⟨_,_,hl,by show 7<=64;decide,fun n e=>by cases e⟩),.inr (.inl ⟨_,_,hl,by show 7<=64;decide⟩)⟩⟩
structure CfIs (W0:World)(d f l a r many P:Nat)(fr pg room now hh mm:Int)(s:DS)(S:LgS)(V:RowsV)(W:World):Prop where
  fh:FhIs W0 d f l many fr pg s S W
  ca:CaIs W a f r P room now hh mm V
  nb:∀k,caMu a r V k->W0.heap.size<=k
  nz:∃k,¬ s.g k=zer64
  y5:∀x∈S.fs,x.y.length=512
section
variable {W0 W W':World}{d f l a r many P:Nat}{fr pg room now hh mm now' hh' mm':Int}{s s':DS}{S S':LgS}{V V':RowsV}
theorem CaIs.notTy (h:CaIs W a f r P room now hh mm V){k:Nat}{T:TypeId}{cs:Array Value}(hb:BlkIs W k T cs)(h1:T≠77)(h2:T≠85):¬ caMu a r V k:=fun hk=>by
  rcases hk with rfl|rfl|⟨j,v,hv,rfl⟩
  · exact BlkIs.ne_type hb h.cb h1 rfl
  · obtain⟨es,c,hm,_⟩:=h.mp
    exact hm.notBlk hb rfl
  · exact BlkIs.ne_type hb (h.rows j v hv).blk h2 rfl
theorem CfIs.nd (h:CfIs W0 d f l a r many P fr pg room now hh mm s S V W):¬ caMu a r V d/\¬ caMu a r V l/\¬ caMu a r V f:=by
  obtain⟨_,_,_,_,hb⟩:=DkIs.bk h.fh.dk
  obtain⟨_,_,_,hl⟩:=h.fh.lg.lg
  exact⟨h.ca.notTy hb (by decide) (by decide),h.ca.notTy hl (by decide) (by decide),h.ca.notTy h.fh.fb (by decide) (by decide)⟩
theorem CfIs.sm (h:CfIs W0 d f l a r many P fr pg room now hh mm s S V W):∀k,sysMu d l a r V k->SmBlk W k:=fun k hk=>by
  rcases hk with rfl|rfl|hk
  · exact h.fh.sm.1
  · exact h.fh.sm.2
  · exact h.ca.sm k hk
theorem CfIs.ge (h:CfIs W0 d f l a r many P fr pg room now hh mm s S V W):∀k,sysMu d l a r V k->W0.heap.size<=k:=fun k hk=>by
  rcases hk with rfl|rfl|hk
  · exact h.fh.gd
  · exact h.fh.gl
  · exact h.nb k hk
theorem CfIs.lts (h:CfIs W0 d f l a r many P fr pg room now hh mm s S V W):∀k,sysMu d l a r V k->k<W.heap.size:=fun k hk=>by
  rcases hk with rfl|rfl|hk
  · exact h.fh.lts.1
  · exact h.fh.lts.2
  · exact h.ca.lts k hk
theorem FhIs.keepX {Mu:Nat->Prop}(h:FhIs W0 d f l many fr pg s S W)(hz:∃k,¬ s.g k=zer64)(hy:∀x∈S.fs,x.y.length=512)(hG:GrowBut Mu W W')(hsm:∀k,Mu k->SmBlk W k)(hge:∀k,Mu k->W0.heap.size<=k)(hn:∀k,Mu k->k≠d/\k≠l/\k≠f):FhIs W0 d f l many fr pg s S W':=by
  obtain⟨k,hk⟩:=hz
  exact⟨h.up.trans (hG.toBelow h.up.size hge),DkIs.keepX h.dk hk hG (fun e=>(hn _ e).1 rfl) (fun j hj=>(hsm j hj).dk),h.lg.keepC hy hG (fun j hj=>(hsm j hj).ca) (fun e=>(hn _ e).2.1 rfl),hG.blk h.fb (fun e=>(hn _ e).2.2 rfl),h.gd,h.gl⟩
theorem CfIs.keep {Mu:Nat->Prop}(h:CfIs W0 d f l a r many P fr pg room now hh mm s S V W)(hG:GrowBut Mu W W')(hsm:∀k,Mu k->SmBlk W k)(hge:∀k,Mu k->W0.heap.size<=k)(hn:∀k,Mu k->¬ sysMu d l a r V k/\k≠f):CfIs W0 d f l a r many P fr pg room now hh mm s S V W' :=
  ⟨h.fh.keepX h.nz h.y5 hG hsm hge (fun k hk=>⟨fun e=>(hn k hk).1 (.inl e),fun e=>(hn k hk).1 (.inr (.inl e)),(hn k hk).2⟩),h.ca.keep hG (fun k hk=>(hsm k hk).ca) (fun k hk e=>(hn k hk).1 (.inr (.inr e))),h.nb,h.nz,h.y5⟩
theorem CfIs.grow (h:CfIs W0 d f l a r many P fr pg room now hh mm s S V W)(hB:Below W.heap.size W W'):CfIs W0 d f l a r many P fr pg room now hh mm s S V W' :=
  ⟨h.fh.grow hB,h.ca.below hB,h.nb,h.nz,h.y5⟩
theorem CfIs.notDf (h:CfIs W0 d f l a r many P fr pg room now hh mm s S V W){D:Nat}{ds:Option (List Deferred)}(hD:W.heap[D]? = some (.deferred ds)):¬ sysMu d l a r V D/\D≠f:=by
  have hc:∀{T:TypeId} {cs:Array Value} {k:Nat},BlkIs W k T cs->D≠k:=fun hb e=>by
    subst e
    have hb':W.heap[D]? = some (.cells _ _ (0,0)):=hb
    rw[hD] at hb'
    cases hb'
  obtain⟨_,_,_,_,hb⟩:=DkIs.bk h.fh.dk
  obtain⟨_,_,_,hl⟩:=h.fh.lg.lg
  refine⟨fun hk => ?_,hc h.fh.fb⟩
  rcases hk with e|e|e|e|⟨j,v,hv,e⟩
  · exact hc hb e
  · exact hc hl e
  · exact hc h.ca.cb e
  · obtain⟨es,c,hm,_⟩:=h.ca.mp
    have hm':W.heap[r]? = some (.map es c):=hm
    rw[e,hm'] at hD
    cases hD
  · exact hc (h.ca.rows j v hv).blk e
theorem CfIs.taken (h:CfIs W0 d f l a r many P fr pg room now hh mm s S V W){D:Nat}{ds:Option (List Deferred)}(hD:W.heap[D]? = some (.deferred ds))(hd:W0.heap.size<=D)(o:Obj):CfIs W0 d f l a r many P fr pg room now hh mm s S V (W.putObj D o)/\GrowBut (fun k=>k=D) W (W.putObj D o):=by
  have hG:GrowBut (fun k=>k=D) W (W.putObj D o):=GrowBut.grown (grownBy_putObj' W D o) (fun r e=>by injection e with e;exact .inl e.symm)
  exact⟨h.keep hG (fun k e=>by subst e;exact SmBlk.df hD) (fun k e=>by subst e;exact hd) (fun k e=>by subst e;exact h.notDf hD),hG⟩
theorem CfIs.turn (h:CfIs W0 d f l a r many P fr pg room now hh mm s S V W)(hG:GrowBut (caMu a r V) W W')(hC:CaIs W' a f r P room now' hh' mm' V')(hN:∀k,caMu a r V' k->caMu a r V k∨W.heap.size<=k):CfIs W0 d f l a r many P fr pg room now' hh' mm' s S V' W':=by
  obtain⟨n1,n2,n3⟩:=h.nd
  have hup:=h.fh.up.size
  exact⟨h.fh.keepX h.nz h.y5 hG h.ca.sm h.nb (fun k hk=>⟨fun e=>n1 (e▸hk),fun e=>n2 (e▸hk),fun e=>n3 (e▸hk)⟩),hC,fun k hk=>(hN k hk).elim (h.nb k) (fun e=>by omega),h.nz,h.y5⟩
theorem CfIs.turnF (h:CfIs W0 d f l a r many P fr pg room now hh mm s S V W)(hG:GrowBut (fun k=>k=d∨k=l) W W')(hF:FhIs W0 d f l many fr pg s' S' W')(hz:∃k,¬ s'.g k=zer64)(hy:∀x∈S'.fs,x.y.length=512):CfIs W0 d f l a r many P fr pg room now hh mm s' S' V W':=by
  obtain⟨n1,n2,_⟩:=h.nd
  exact⟨hF,h.ca.keep hG (fun k hk=>by rcases hk with rfl|rfl;exact h.fh.sm.1.ca;exact h.fh.sm.2.ca) (fun k hk=>by rcases hk with rfl|rfl;exact n1;exact n2),h.nb,hz,hy⟩
end
def Apart (M1 M2:Nat->Prop)(f1 f2:Nat):Prop:=∀k,(M1 k∨k=f1)->¬ (M2 k∨k=f2)
theorem Apart.symm {M1 M2:Nat->Prop}{f1 f2:Nat}(h:Apart M1 M2 f1 f2):Apart M2 M1 f2 f1:=fun k h2 h1=>h k h1 h2
theorem Apart.turn {W:World}{M1 M1' M2:Nat->Prop}{f1 f2:Nat}(h:Apart M1 M2 f1 f2)(hN:∀k,M1' k->M1 k∨W.heap.size<=k)(h2:∀k,M2 k∨k=f2->k<W.heap.size):Apart M1' M2 f1 f2:=fun k hk h3=>by
  have:=h2 k h3
  rcases hk with hk|hk
  · rcases hN k hk with hk|hk
    · exact h k (.inl hk) h3
    · omega
  · exact h k (.inr hk) h3
theorem fread_range {w:World}{f l d:Nat}{fr pg:Int}{S:LgS}(hb:BlkIs w f 108 (flFC l fr pg))(hpl:planOk fr pg=true)(p:Int)(hp:p<0∨pg<=p) :
    Calls Tryz.prog 25 #[.pointer (some ⟨f,0,none⟩),.int .i64 p] w fun e w'=>e = .returned (.tuple #[.slice none 0 0,.int .i64 4])/\Below w.heap.size w w':=by
  have HN:=fnone_gives hb
  have HA:=pageAt_gives (fr:=fr) (pg:=pg) (n:=p) w
  have hp0:plE (planOk fr pg) p pg=4:=by rw[hpl];simp only[plE,if_true];rw[if_neg (by omega)]
  unfold atV at HA
  rw[hp0,if_neg (by decide)] at HA
  have hpl2:w.rangeAt f 1 [.int .i64 fr,.int .i64 pg]:=fun j v hj=>by
    rw[hb.cell]
    match j,hj with
    | 0,hj=>exact hj
    | 1,hj=>exact hj
    | j+2,hj=>exact absurd hj (by simp)
  clear hp0 hp hpl
  go_enter Tryz.func25,Tryz.ntmps25
  go_wp2_with fail
  refine wp_scope_jumps (rest:=?rest) 0 (fun a w'=>(∃u0 u1 u2 u3 u4 u6 u7 u8 u9 u10 u11 u12 u13 u14 u15 u16 u17 u18 u19 u20 u21 u22 u23 u24 u25 u26 u27 u28 u29 u30 u31 u32 u33 u34 u35 u36 u37 u38 u39 u40 u41 u42 u43 u44 u45 u46 u47 u48 u49 u50 u51 u52 u53 u54 u55 u56 u57 u58 u59 u60 u61 u62 u63 u64 u65 u66 u67 u68 u69,a = { tmps:=#[u0,u1,u2,u3,u4,.int .i64 4,u6,u7,u8,u9,u10,u11,u12,u13,u14,u15,u16,u17,u18,u19,u20,u21,u22,u23,u24,u25,u26,u27,u28,u29,u30,u31,u32,u33,u34,u35,u36,u37,u38,u39,u40,u41,u42,u43,u44,u45,u46,u47,u48,u49,u50,u51,u52,u53,u54,u55,u56,u57,u58,u59,u60,u61,u62,u63,u64,u65,u66,u67,u68,u69],defers:=[] })/\Below w.heap.size w w') (fun _ _=>0) ?hf ?first ?pass
  case hf=>exact rfl
  case pass =>
    rintro a w' ⟨⟨u0,u1,u2,u3,u4,u6,u7,u8,u9,u10,u11,u12,u13,u14,u15,u16,u17,u18,u19,u20,u21,u22,u23,u24,u25,u26,u27,u28,u29,u30,u31,u32,u33,u34,u35,u36,u37,u38,u39,u40,u41,u42,u43,u44,u45,u46,u47,u48,u49,u50,u51,u52,u53,u54,u55,u56,u57,u58,u59,u60,u61,u62,u63,u64,u65,u66,u67,u68,u69,rfl⟩,hB⟩
    go_wp2
    simp only[Exit.jump]
    exact bodyPost_ret (results_tmp2 rfl _ _ _) rfl ⟨rfl,hB⟩
  case first =>
    go_wp2_with (first
      | (go_at_call 48;refine HN.mono ?_;rintro e w' ⟨rfl,rfl⟩)
      | (refine wp_exec rfl (x_loadM rowPlan hpl2 rfl rfl rfl) ?_)
      | (go_at_call 49;refine HA.mono ?_;rintro e w1 ⟨rfl,hB1⟩))
    go_step3
    exact⟨rfl,by repeat (first|exact rfl|apply Exists.intro),hB1⟩
def fileR (fr pg:Int)(s:DS)(S:LgS)(p:Int):Int ⊕ List UInt8:=if p<0∨pg<=p then .inl 4 else if s.stopped && (pgY S.fs p).isNone then .inl 140 else .inr (fileY (laid s.g s.xs) fr S p.toNat)
theorem fileR_out {fr pg:Int}{s:DS}{S:LgS}{p:Int}(h:p<0∨pg<=p):fileR fr pg s S p = .inl 4:=if_pos h
theorem fileR_in {fr pg:Int}{s:DS}{S:LgS}{p:Int}(hs:s.stopped=false)(h:0<=p/\p<pg):fileR fr pg s S p = .inr (fileY (laid s.g s.xs) fr S p.toNat):=by
  unfold fileR
  rw[if_neg (by omega),hs]
  rfl
theorem fileR_cases {fr pg:Int}{s:DS}{S:LgS}(p:Int)(hG:∀k,(laid s.g s.xs k).length=64)(hy:∀x∈S.fs,x.y.length=512):(∃er,er≠0/\fileR fr pg s S p = .inl er)∨∃y,(0<=p/\p<pg)/\y.length=512/\fileR fr pg s S p = .inr y:=by
  unfold fileR
  split
  · exact .inl ⟨4,by decide,rfl⟩
  · split
    · exact .inl ⟨140,by decide,rfl⟩
    · exact .inr ⟨_,by omega,fpY_len hG hy _ _,rfl⟩
theorem fileSays_gives {W0 W:World}{d f l many:Nat}{fr pg:Int}{s:DS}{S:LgS}(h:FhIs W0 d f l many fr pg s S W)(hst:s.stopped=false)(hxl:s.xs.length<=1000000)(hn:S.fs.length<=2000)(hy:∀x∈S.fs,x.y.length=512)(hpl:planOk fr pg=true)(hmany:(many:Int)=2+9*fr+8*pg)(hmax:many<=1000000)(p:Int):FileSays W f p (fileR fr pg s S p):=by
  unfold FileSays
  by_cases hp:p<0∨pg<=p
  · rw[fileR_out hp]
    exact fread_range (l:=l) (d:=d) (S:=S) h.fb hpl p hp
  · rw[fileR_in hst (by omega)]
    obtain⟨q,hq⟩:∃q:Nat,(q:Int)=p:=⟨p.toNat,by omega⟩
    have hpr:=(planOk_iff fr pg).1 hpl
    have hG:=laid_long h.dk
    subst hq
    have:=fread_gives W f l d many fr pg s S h.fb h.lg h.dk hst hxl hn hy hpl hmany hmax q (by omega) (2+9*fr.toNat+8*q) (by omega)
    refine this.mono ?_
    rintro e w' ⟨A,c,rfl,hin,hB⟩
    have hl:(fileY (laid s.g s.xs) fr S q).length=512:=fpY_len hG hy _ _
    refine⟨⟨A,c,?_,hin⟩,hB⟩
    show _=Ending.returned (.tuple #[.slice A (fileY (laid s.g s.xs) fr S ((q:Int)).toNat).length c,.int .i64 0])
    rw[Int.toNat_natCast,hl]
structure CaSt where
  now:Int
  hh:Int
  mm:Int
  V:RowsV
def RdP (P:Nat)(room:Int)(c:CaSt)(page:Int)(R:Int ⊕ List UInt8)(sz:Nat)(x:Int ⊕ List UInt8)(c':CaSt):Prop :=
  (∃v,c.V page=some v/\x = .inr v.y/\c'=⟨c.now+1,c.hh+1,c.mm,updV c.V page (some { v with at_:=c.now+1 })⟩) ∨
  (c.V page=none/\∃er,R = .inl er/\x = .inl er/\c'=⟨c.now,c.hh,c.mm+1,c.V⟩) ∨
  (c.V page=none/\∃y,R = .inr y/\NoRoom P room c.V/\x = .inl 160/\c'=⟨c.now,c.hh,c.mm+1,c.V⟩) ∨
  (c.V page=none/\∃y V1 b A1 c1,R = .inr y/\MadeRoom P room c.V V1/\sz<=b/\x = .inr y/\c'=⟨c.now+1,c.hh,c.mm+1,updV V1 page (some ⟨b,c.now+1,A1,c1,y,false⟩)⟩)
def RdE (x:Int ⊕ List UInt8)(e:Ending)(w':World):Prop :=
  match x with
  | .inl er=>e = .returned (.tuple #[.slice none 0 0,.int .i64 er])
  | .inr y=>∃A c,e = .returned (.tuple #[.slice A y.length c,.int .i64 0])/\InB w' w'.heap.size A c y/\TyB w' A
theorem caMu_upd {a r n:Nat}{V V1:RowsV}{page:Int}{b:Nat}{v:RowV}(hV:∀k u,V1 k=some u->V k=some u)(hb:v.b=b)(h:(∃u,V page=some u/\b=u.b)∨n<=b):∀k,caMu a r (updV V1 page (some v)) k->caMu a r V k∨n<=k:=fun k hk=>by
  rcases hk with hk|hk|⟨j,u,hu,rfl⟩
  · exact .inl (.inl hk)
  · exact .inl (.inr (.inl hk))
  · unfold updV at hu
    split at hu
    · injection hu with hu
      subst hu
      rw[hb]
      rcases h with⟨u,h1,h2⟩|h
      · exact .inl (.inr (.inr ⟨page,u,h1,h2⟩))
      · exact .inr h
    · exact .inl (.inr (.inr ⟨j,u,hV j u hu,rfl⟩))
theorem RdP.names {P:Nat}{room:Int}{c c':CaSt}{page:Int}{R x:Int ⊕ List UInt8}{a r n:Nat}(h:RdP P room c page R n x c'):∀k,caMu a r c'.V k->caMu a r c.V k∨n<=k:=by
  rcases h with⟨v,h1,_,rfl⟩|⟨_,er,_,_,rfl⟩|⟨_,y,_,_,_,rfl⟩|⟨_,y,V1,b,A1,c1,_,h2,h3,_,rfl⟩
  · exact caMu_upd (fun k u h=>h) rfl (.inl ⟨v,h1,rfl⟩)
  · exact fun k hk => .inl hk
  · exact fun k hk => .inl hk
  · exact caMu_upd (fun k u h=>h2.sub h) rfl (.inr h3)
structure CaSt.Ok (c:CaSt)(N:Nat):Prop where
  now:0<=c.now/\c.now<=(N:Int)
  hh:0<=c.hh/\c.hh<=(N:Int)
  mm:0<=c.mm/\c.mm<=(N:Int)
theorem CaSt.Ok.more {c:CaSt}{N M:Nat}(h:c.Ok N)(hm:N<=M):c.Ok M:=⟨by have:=h.now;omega,by have:=h.hh;omega,by have:=h.mm;omega⟩
theorem RdP.ok {P:Nat}{room:Int}{c c':CaSt}{page:Int}{R x:Int ⊕ List UInt8}{n N:Nat}(h:RdP P room c page R n x c')(hc:c.Ok N):c'.Ok (N+1):=by
  obtain⟨h1,h2,h3⟩:=hc
  rcases h with⟨v,_,_,rfl⟩|⟨_,er,_,_,rfl⟩|⟨_,y,_,_,_,rfl⟩|⟨_,y,V1,b,A1,c1,_,_,_,_,rfl⟩
  all_goals exact⟨by simp only;omega,by simp only;omega,by simp only;omega⟩
abbrev CsIs (W0:World)(d f l a r many P:Nat)(fr pg room:Int)(s:DS)(S:LgS)(c:CaSt)(W:World):Prop:=CfIs W0 d f l a r many P fr pg room c.now c.hh c.mm s S c.V W
section
variable {W0 W W':World}{d f l a r many P:Nat}{fr pg room:Int}{s:DS}{S:LgS}{c:CaSt}
theorem CfIs.fhKeep {now hh mm:Int}{V:RowsV}(h:CfIs W0 d f l a r many P fr pg room now hh mm s S V W)(hG:GrowBut (caMu a r V) W W'):FhIs W0 d f l many fr pg s S W':=by
  obtain⟨n1,n2,n3⟩:=h.nd
  exact h.fh.keepX h.nz h.y5 hG h.ca.sm h.nb (fun k hk=>⟨fun e=>n1 (e▸hk),fun e=>n2 (e▸hk),fun e=>n3 (e▸hk)⟩)
def FileTold (W0:World)(d f l many:Nat)(fr pg:Int)(s:DS)(S:LgS):Prop:=∀(p:Int) (W:World),FhIs W0 d f l many fr pg s S W->FileSays W f p (fileR fr pg s S p)
theorem fileTold_free (hst:s.stopped=false)(hxl:s.xs.length<=1000000)(hn:S.fs.length<=2000)(hy:∀x∈S.fs,x.y.length=512)(hpl:planOk fr pg=true)(hmany:(many:Int)=2+9*fr+8*pg)(hmax:many<=1000000):FileTold W0 d f l many fr pg s S:=fun p W h=>fileSays_gives h hst hxl hn hy hpl hmany hmax p
theorem sread_gives (h:CsIs W0 d f l a r many P fr pg room s S c W)(hT:FileTold W0 d f l many fr pg s S)(hc:c.Ok 900000)(hroom:2<=room)(hP:P<=1000)(hPg:(P:Int)=pg)(page:Int) :
    Calls Tryz.prog 7 #[.pointer (some ⟨a,0,none⟩),.int .i64 page] W fun e w'=>∃x c',RdP P room c page (fileR fr pg s S page) W.heap.size x c'/\RdE x e w'/\CsIs W0 d f l a r many P fr pg room s S c' w'/\GrowBut (caMu a r c.V) W w':=by
  have HF:∀W',GrowBut (caMu a r c.V) W W'->FileSays W' f page (fileR fr pg s S page):=fun W' hG=>hT page W' (h.fhKeep hG)
  have hnow:=hc.now
  have hhh:=hc.hh
  have hmm:=hc.mm
  have fin:∀e w',ReadOut a f r P room c.now c.hh c.mm c.V page (fileR fr pg s S page) W.heap.size e w'/\GrowBut (caMu a r c.V) W w'->∃x c',RdP P room c page (fileR fr pg s S page) W.heap.size x c'/\RdE x e w'/\CsIs W0 d f l a r many P fr pg room s S c' w'/\GrowBut (caMu a r c.V) W w':=by
    rintro e w' ⟨⟨v,A,k,h1,rfl,h2,h3,h4⟩|⟨h1,er,h2,rfl,h3⟩|⟨h1,y,h2,h3,rfl,h4⟩|⟨h1,y,V1,b,A,k,A1,k1,h2,h3,h4,rfl,h5,h6,h7⟩,hG⟩
    · have hR:RdP P room c page (fileR fr pg s S page) W.heap.size (.inr v.y) ⟨c.now+1,c.hh+1,c.mm,updV c.V page (some { v with at_:=c.now+1 })⟩:=.inl ⟨v,h1,rfl,rfl⟩
      exact⟨_,_,hR,⟨A,k,rfl,h2,h3⟩,h.turn hG h4 hR.names,hG⟩
    · have hR:RdP P room c page (fileR fr pg s S page) W.heap.size (.inl er) ⟨c.now,c.hh,c.mm+1,c.V⟩:=.inr (.inl ⟨h1,er,h2,rfl,rfl⟩)
      exact⟨_,_,hR,rfl,h.turn hG h3 hR.names,hG⟩
    · have hR:RdP P room c page (fileR fr pg s S page) W.heap.size (.inl 160) ⟨c.now,c.hh,c.mm+1,c.V⟩:=.inr (.inr (.inl ⟨h1,y,h2,h3,rfl,rfl⟩))
      exact⟨_,_,hR,rfl,h.turn hG h4 hR.names,hG⟩
    · have hR:RdP P room c page (fileR fr pg s S page) W.heap.size (.inr y) ⟨c.now+1,c.hh,c.mm+1,updV V1 page (some ⟨b,c.now+1,A1,k1,y,false⟩)⟩:=.inr (.inr (.inr ⟨h1,y,V1,b,A1,k1,h2,h3,h4,rfl,rfl⟩))
      exact⟨_,_,hR,⟨A,k,rfl,h5,h6⟩,h.turn hG h7 hR.names,hG⟩
  cases hv:c.V page with
  | some v=>exact(cread_hit W a f r P room c.now c.hh c.mm c.V h.ca hP (by omega) hroom (by omega) page _ v hv).mono fin
  | none =>
    rcases fileR_cases (fr:=fr) (pg:=pg) page (laid_long h.fh.dk) h.y5 with⟨er,her,hR⟩|⟨y,hp,hy,hR⟩
    · rw[hR] at HF fin ⊢
      exact(cread_err W a f r P room c.now c.hh c.mm c.V h.ca (by omega) page er hv her HF).mono fin
    · rw[hR] at HF fin ⊢
      exact(cread_miss W a f r P room c.now c.hh c.mm c.V h.ca hP (by omega) hroom (by omega) page (by omega) y hy hv HF).mono fin
end
def SeenIs (es:Array MapEntry)(seen:Array Nat)(pd:Int->Bool):Prop:=∀e∈es.toList,∀k:Int,e.key = .int .i64 k->(pd k=true↔seen.contains e.born=true)
def pdPush (pd:Int->Bool)(k:Int):Int->Bool:=fun j=>decide (j=k) || pd j
theorem pdPush_self (pd:Int->Bool)(k:Int):pdPush pd k k=true:=by simp[pdPush]
theorem pdPush_ne {pd:Int->Bool}{k j:Int}(h:j≠k):pdPush pd k j=pd j:=by simp[pdPush,h]
theorem SeenIs.start (es:Array MapEntry):SeenIs es #[] (fun _=>false):=fun e _ k _=>by simp
theorem SeenIs.sub {es es':Array MapEntry}{seen:Array Nat}{pd:Int->Bool}(h:SeenIs es seen pd)(hs:∀x∈es'.toList,x∈es.toList):SeenIs es' seen pd:=fun e he=>h e (hs e he)
theorem EnV.at_ {es:Array MapEntry}{f:Int->Option Value}(h:EnV es f){e:MapEntry}(he:e∈es.toList):∃(k:Int) (v:Value),f k=some v/\e.key = .int .i64 k/\e.val=v:=by
  obtain⟨i,hi,rfl⟩:=List.getElem_of_mem he
  exact h.keys i es.toList[i] (by rw[<-Array.getElem?_toList];exact List.getElem?_eq_getElem hi)
theorem EnV.keyInj {es:Array MapEntry}{f:Int->Option Value}(h:EnV es f){e e':MapEntry}(he:e∈es.toList)(he':e'∈es.toList)(hk:e.key=e'.key):e=e':=by
  obtain⟨i,hi,rfl⟩:=List.getElem_of_mem he
  obtain⟨j,hj,rfl⟩:=List.getElem_of_mem he'
  have:=h.inj i j _ _ (by rw[<-Array.getElem?_toList];exact List.getElem?_eq_getElem hi) (by rw[<-Array.getElem?_toList];exact List.getElem?_eq_getElem hj) hk
  subst this
  rfl
theorem SeenIs.next {es:Array MapEntry}{f:Int->Option Value}{seen:Array Nat}{pd:Int->Bool}{clock:Nat}(h:SeenIs es seen pd)(he:EnV es f)(hst:MapKept.Stamped es clock){e:MapEntry}(hem:e∈es.toList){k:Int}(hek:e.key = .int .i64 k):SeenIs es (seen.push e.born) (pdPush pd k):=fun e' he' k' hk'=>by
  have hnd:=((MapKept.stamped_iff es clock).1 hst).2.1
  rw[contains_push,Bool.or_eq_true]
  unfold pdPush
  rw[Bool.or_eq_true,h e' he' k' hk']
  constructor
  · rintro(hd|hs)
    · have hkk:k'=k:=by simpa using hd
      subst hkk
      have:=he.keyInj he' hem (hk'.trans hek.symm)
      subst this
      exact .inr (by simp)
    · exact .inl hs
  · rintro(hs|hb)
    · exact .inr hs
    · have hbb:e'.born=e.born:=by simpa using hb
      obtain rfl:=born_inj hnd he' hem hbb
      exact .inl (by simpa using keyI_inj (hk'.symm.trans hek))
theorem SeenIs.fin {es:Array MapEntry}{f:Int->Option Value}{seen:Array Nat}{pd:Int->Bool}(h:SeenIs es seen pd)(he:EnV es f)(hall:∀x∈es.toList,seen.contains x.born=true):∀k v,f k=some v->pd k=true:=fun k v hv=>by
  obtain⟨i,e,h1,h2,_⟩:=he.all k v hv
  have hm:e∈es.toList:=Array.mem_toList_iff.2 (Array.mem_of_getElem? h1)
  exact(h e hm k h2).2 (hall e hm)
theorem iterV {w:World}{r m since clock:Nat}{seen:Array Nat}{es:Array MapEntry}{f:Int->Option Value}{pd:Int->Bool}(ty:TypeId)(h:IterAt w r m since seen)(hm:MapIs w m es clock)(he:EnV es f)(hst:MapKept.Stamped es clock)(hold:∀x∈es.toList,x.born<since)(hc:since<=clock)(hne:m<r)(hr:r<w.heap.size)(hp:SeenIs es seen pd) :
    ((∀k v,f k=some v->pd k=true)/\(Instr.next (.pointer (some ⟨r,0,none⟩)) false ty).run Tryz.prog w = .ok (.tuple #[.bool false]) w) ∨
    ∃k v b,∃w':World,f k=some v/\pd k=false/\(Instr.next (.pointer (some ⟨r,0,none⟩)) false ty).run Tryz.prog w = .ok (.tuple #[.bool true,.int .i64 k,v]) w'/\IterAt w' r m since (seen.push b)/\Below r w w'/\w'.rangeLeft m r<w.rangeLeft m r /\
      (Instr.entry (.pointer (some ⟨r,0,none⟩))).run Tryz.prog w' = .ok (.tuple #[.int .i64 k,v]) w'/\SeenIs es (seen.push b) (pdPush pd k):=by
  rcases iter_next ty h hm hold hc hst hne hr with⟨h1,h2⟩|⟨e,w',h1,h2,h3,h4,h5,h6,h7⟩
  · exact .inl ⟨hp.fin he h1,h2⟩
  · obtain⟨k,v,q1,q2,q3⟩:=he.at_ h1
    rw[q2,q3] at h3 h7
    refine .inr ⟨k,v,e.born,w',q1,?_,h3,h4,h5,h6,h7,hp.next he hst h1 q2⟩
    cases hpd:pd k with
    | false=>rfl
    | true =>
      have:=(hp e h1 k q2).1 hpd
      rw[h2] at this
      cases this
theorem leftOf_sub {es es':Array MapEntry}(seen:Array Nat)(h:es'.toList.Sublist es.toList):(leftOf es' seen).size<=(leftOf es seen).size:=by
  unfold leftOf
  have e:∀xs:Array MapEntry,(xs.filter fun e => !seen.contains e.born).size=(xs.toList.filter fun e => !seen.contains e.born).length:=fun xs=>by
    rw[<-Array.toList_filter,Array.length_toList]
  rw[e,e]
  exact(h.filter _).length_le
theorem erase_sub (es:Array MapEntry)(i:Nat):(es.eraseIdxIfInBounds i).toList.Sublist es.toList:=by
  unfold Array.eraseIdxIfInBounds
  split
  · rw[Array.toList_eraseIdx]
    exact List.eraseIdx_sublist _ _
  · exact List.Sublist.refl _
theorem IterAt.keep {w w':World}{r m since:Nat}{seen:Array Nat}(h:IterAt w r m since seen)(hk:w'.heap[r]? = w.heap[r]?):IterAt w' r m since seen:=by
  obtain⟨c0,q1,q2⟩:=h
  exact⟨c0,hk.trans q1,q2⟩
theorem rangeLeft_keep {w w':World}{m r:Nat}(h1:w'.heap[m]? = w.heap[m]?)(h2:w'.heap[r]? = w.heap[r]?):w'.rangeLeft m r=w.rangeLeft m r:=by
  unfold World.rangeLeft
  rw[h1,h2]
section
variable {ops:Array Oper}{Q:Exit->Act->World->Prop}{a:Act}{w:World}{r clock:Nat}{k:Int}{es:Array MapEntry}{f:Int->Option Value}{x y z:Operand}{o:Oper}
theorem opPutB {i:Nat}{K:Act->World->Prop}{l:Value}(ho:ops[i]? = some o)(hg:o.guard=none)(hop:o.op = .mapUpdate 132 x y z)(h1:a.eval x = .map (some r))(h2:a.eval y = .int .i64 k)(h3:a.eval z=l)(he:EnV es f)(hst:MapKept.Stamped es clock)(hm:MapIs w r es clock)
    (h:∀es' clock',EnV es' (fsetV f k (some l))->MapKept.Stamped es' clock'->K (a.put o.dst undef) (setMap w r es' clock')):wpOp Tryz.prog ops Q i K a w:=by
  obtain⟨es',clock',hr,he',hs'⟩:=x_putT (ρ:=a.eval) (o:=o) Tryz.underlying132 he hst hm hop h1 h2 h3
  exact RegF.opS ho hg hr (h es' clock' he' hs')
end
section
variable {ρ:Operand->Value}{w:World}{o:Oper}{x y z:Operand}{r clock:Nat}{k:Int}{es:Array MapEntry}{f:Int->Option Value}{T E:TypeId}
theorem x_delT2 (hT:Tryz.prog.underlying T=some (.map 3 E))(he:EnV es f)(hst:MapKept.Stamped es clock)(hm:MapIs w r es clock)(ho:o.op = .call { callee:=.builtin .delete,args:=#[x,y],argTypes:=#[T,3] })(h1:ρ x = .map (some r))(h2:ρ y = .int .i64 k) :
    ∃es',(execOp ρ o).run Tryz.prog w = .ok (.value (.tuple #[])) (setMap w r es' clock)/\EnV es' (fsetV f k none)/\MapKept.Stamped es' clock/\es'.toList.Sublist es.toList:=by
  have hk:MapKept.IsKey (.int .i64) (.int .i64 k):=rfl
  have hc:(Instr.checkKey es.isEmpty 10000 3 (.int .i64 k)).run Tryz.prog w = .ok () w:=MapKept.run_checkKey Tryz.underlying3 hk _ 9999
  have hm':w.heap[r]? = some (.map es clock):=hm
  rcases he.find k with⟨hf,hn⟩|⟨j,e,l0,hf,hj,hek,_,_⟩
  · refine⟨es,?_,by rw[fsetV_none hn];exact he,hst,List.Sublist.refl _⟩
    simp[execOp,ho,h1,h2,resolve,invoke,builtin,Builtin.delete_,run_underlying hT,MapKept.run_getObj_map hm',hc,MapKept.run_findKey Tryz.underlying3 hf,MapKept.run_setObj_map _ hm',Result.andThen,setMap]
  · refine⟨_,?_,he.erase hj hek,MapKept.stamped_erase hst j,erase_sub es j⟩
    simp[execOp,ho,h1,h2,resolve,invoke,builtin,Builtin.delete_,run_underlying hT,MapKept.run_getObj_map hm',hc,MapKept.run_findKey Tryz.underlying3 hf,MapKept.run_setObj_map _ hm',Result.andThen,setMap]
end
end Go.Proofs.YtmllnpjldmdaeaaGreat
