/- Texts that the proof of CacheHolds leans on, part 13. -/
import Derived.Test.YtmllnpjldmdaeaaGreatCacheHoldsB12
set_option maxRecDepth 100000
set_option maxHeartbeats 8000000

namespace Go.Proofs.YtmllnpjldmdaeaaGreat
open Go Go.RowKit Lou
def dirtyF (V:RowsV):Int->Option Value:=fun k=>match V k with|some v=>if v.d then some (.slice v.A v.y.length v.c) else none|none=>none
def dirtyY (V:RowsV):Int->Option (List UInt8):=fun k=>match V k with|some v=>if v.d then some v.y else none|none=>none
theorem dirtyF_none {V:RowsV}{k:Int}{v:RowV}(h:V k=some v)(hd:v.d=false):dirtyF V k=none:=by unfold dirtyF;rw[h];simp only[hd,Bool.false_eq_true,if_false]
theorem dirtyF_some {V:RowsV}{k:Int}{v:RowV}(h:V k=some v)(hd:v.d=true):dirtyF V k=some (.slice v.A v.y.length v.c):=by unfold dirtyF;rw[h];simp only[hd,if_true]
def come (pd:Int->Bool)(g:Int->Option Value):Int->Option Value:=fun k=>if pd k then g k else none
theorem come_start (g:Int->Option Value):come (fun _=>false) g=fun _=>none:=rfl
theorem come_some {pd:Int->Bool}{g:Int->Option Value}{k:Int}{x:Value}(h:g k=some x):come (pdPush pd k) g=fsetV (come pd g) k (some x):=by
  funext j
  unfold come fsetV
  by_cases e:j=k
  · subst e
    rw[pdPush_self,if_pos rfl,if_pos rfl,h]
  · rw[pdPush_ne e,if_neg e]
theorem come_none {pd:Int->Bool}{g:Int->Option Value}{k:Int}(h:g k=none):come (pdPush pd k) g=come pd g:=by
  funext j
  unfold come
  by_cases e:j=k
  · subst e
    rw[h]
    split<;>split<;>rfl
  · rw[pdPush_ne e]
theorem come_all {pd:Int->Bool}{g:Int->Option Value}(h:∀k x,g k=some x->pd k=true):come pd g=g:=by
  funext j
  unfold come
  cases hg:g j with
  | none=>split<;>rfl
  | some x=>rw[h j x hg,if_pos rfl]
theorem dirtyPg {W:World}{a f r P:Nat}{room now hh mm:Int}{V:RowsV}(h:CaIs W a f r P room now hh mm V)(hf:∀k v,V k=some v->v.y.length=512):PgIs W (dirtyF V) (dirtyY V):=fun k=>by
  cases hv:V k with
  | none=>exact .inl ⟨by unfold dirtyF;rw[hv],by unfold dirtyY;rw[hv]⟩
  | some v =>
    cases hd:v.d with
    | false=>exact .inl ⟨dirtyF_none hv hd,by unfold dirtyY;rw[hv];simp[hd]⟩
    | true=>exact .inr ⟨v.A,v.c,v.y,by rw[dirtyF_some hv hd,hf k v hv],by unfold dirtyY;rw[hv];simp[hd],hf k v hv,(h.rows k v hv).bys⟩
structure DirtyAt (w:World)(s r clock:Nat)(es:Array MapEntry)(g:Int->Option Value)(seen:Array Nat)(pd:Int->Bool)(W:World):Prop where
  it:IterAt W (s+1+1) r clock seen
  sn:SeenIs es seen pd
  mp:∃eo co,MapIs W s eo co/\EnV eo (come pd g)/\MapKept.Stamped eo co
  bx:BlkIs W (s+1) 132 #[.map (some s)]
  up:Below s w W
  sz:s+1+1<W.heap.size
theorem cdirty_gives (w:World)(a f r P:Nat)(room now hh mm:Int)(V:RowsV)(h:CaIs w a f r P room now hh mm V) :
    Calls Tryz.prog 27 #[.pointer (some ⟨a,0,none⟩)] w fun e w'=>∃q s eo co,e = .returned (.func (.func 53) #[] #[.pointer (some ⟨q,0,none⟩)])/\BlkIs w' q 132 #[.map (some s)]/\MapIs w' s eo co/\EnV eo (dirtyF V)/\MapKept.Stamped eo co/\Below w.heap.size w w'/\w.heap.size<=s/\w.heap.size<=q:=by
  obtain⟨W2,hW2⟩:∃W2,W2=((w.alloc (.map #[] 0)).alloc (.cells #[.map (some w.heap.size)] 132)):=⟨_,rfl⟩
  have hBm:Below w.heap.size w (w.alloc (.map #[] 0)):=(Below.refl _ w).alloc (Nat.le_refl _) _
  have hB2:Below w.heap.size w W2:=by rw[hW2];exact hBm.alloc (by simp) _
  have s2:W2.heap.size=w.heap.size+1+1:=by rw[hW2];simp
  have hm2:MapIs W2 w.heap.size #[] 0:=by
    rw[hW2]
    exact(show MapIs (w.alloc (.map #[] 0)) w.heap.size #[] 0 from heap_alloc_new w _).below ((Below.refl _ _).alloc (Nat.le_refl _) _) (by simp)
  have b2:BlkIs W2 (w.heap.size+1) 132 #[.map (some w.heap.size)]:=by
    have:=BlkIs.new (w.alloc (.map #[] 0)) 132 #[.map (some w.heap.size)]
    rw[World.size_alloc] at this
    rw[hW2]
    exact this
  have h2:=h.below hB2
  have HN:=cnone_gives h2.cb
  have k3:W2.cell? ⟨a,3,none⟩=some (.map (some r)):=(h2.cb.cell _).trans rfl
  obtain⟨es,clock,hm,he,hst⟩:=h.mp
  have hm2r:MapIs W2 r es clock:=hm.below hB2 hm.lt
  have hrl:=hm.lt
  have hcl:∀x∈es.toList,x.born<clock:=((MapKept.stamped_iff es clock).1 hst).1
  obtain⟨W3,hW3⟩:∃W3,W3=W2.alloc (.mapIter (some r) clock #[] clock):=⟨_,rfl⟩
  have hB3:Below W2.heap.size W2 W3:=by rw[hW3];exact(Below.refl _ _).alloc (Nat.le_refl _) _
  have hit3:IterAt W3 (w.heap.size+1+1) r clock #[]:=⟨clock,by rw[hW3,<-s2];exact heap_alloc_new W2 _,Nat.le_refl _⟩
  have hB3w:Below w.heap.size w W3:=hB2.trans (hB3.mono hB2.size)
  have s3:w.heap.size+1+1<W3.heap.size:=by rw[hW3];simp;omega
  have at0:DirtyAt w w.heap.size r clock es (dirtyF V) #[] (fun _=>false) W3:=⟨hit3,SeenIs.start es,⟨#[],0,hm2.below hB3 hm2.lt,by rw[come_start];exact EnV.empty,MapKept.stamped_empty 0⟩,b2.below hB3 b2.lt,hB3w,s3⟩
  have HW2:=Lib.hid hW2.symm
  have HW3:=Lib.hid hW3.symm
  have HS2:=Lib.hid s2
  clear hW2 hW3 s2
  go_enter Tryz.func27,Tryz.ntmps27
  go_wp2_with (first
    | (refine wp_makeMap rfl rfl ?_;intro _)
    | (go_at_call 21;rw[HW2.out];refine HN.mono ?_;rintro e w' ⟨rfl,rfl⟩)
    | (refine wp_exec rfl (x_range hm2r Tryz.underlying70 rfl rfl) ?_;rw[HW3.out,HS2.out]))
  simp only[Act.put,List.setIfInBounds_toArray,List.set_cons_zero,List.set_cons_succ]
  go_loopw [15] (fun _ wr=>∃seen pd,DirtyAt w w.heap.size r clock es (dirtyF V) seen pd wr) (fun _ wr=>wr.rangeLeft r (w.heap.size+1+1))
  case atStart=>exact⟨_,_,at0⟩
  case round =>
    obtain⟨seen,pd,hD⟩:=hrel
    obtain⟨hit,hsn,⟨eo,co,hmo,heo,hso⟩,hbx,hup,hsz⟩:=hD
    have hmr:MapIs wr r es clock:=(hup.block r hrl).trans hm
    rcases iterV 0 hit hmr he hst hcl (Nat.le_refl _) (by omega) hsz hsn with⟨hall,hrun⟩|⟨k,x,b,w4,hk,hpk,hrun,hit4,hB4,hdec,hent,hsn4⟩
    · have hcm:come pd (dirtyF V)=dirtyF V:=come_all fun k x hx=>by
        unfold dirtyF at hx
        cases hv:V k with
        | none=>rw[hv] at hx;cases hx
        | some v=>exact hall k _ (ptrV_some hv)
      rw[hcm] at heo
      clear hcm
      go_wp2_with (refine wp_exec rfl (x_next hrun rfl) ?_)
      go_ret
      exact⟨_,_,eo,co,rfl,hbx,hmo,heo,hso,hup,Nat.le_refl _,by omega⟩
    · obtain⟨v,hv,rfl⟩:=ptrV_ptr hk
      have hup4:Below w.heap.size w w4:=hup.trans (hB4.mono (by omega))
      have h4:=h.below hup4
      have hr4:=h4.rows k v hv
      have hmo4:=hmo.below hB4 (by omega)
      have hbx4:=hbx.below hB4 (by omega)
      have hsz4:w.heap.size+1+1<w4.heap.size:=Nat.lt_of_lt_of_le hsz hB4.size
      have k2:w4.cell? ⟨v.b,2,none⟩=some (.bool v.d):=(hr4.blk.cell _).trans rfl
      cases hd:v.d with
      | false =>
        rw[hd] at k2
        have hcm:=come_none (pd:=pd) (dirtyF_none hv hd)
        have at4:DirtyAt w w.heap.size r clock es (dirtyF V) (seen.push b) (pdPush pd k) w4:=⟨hit4,hsn4,⟨eo,co,hmo4,by rw[hcm];exact heo,hso⟩,hbx4,hup4,hsz4⟩
        clear hcm hd
        go_wp2_with (first
          | (refine wp_exec rfl (x_next hrun rfl) ?_)
          | (refine wp_exec rfl (x_entry hent rfl) ?_))
        exact⟨⟨_,_,at4⟩,hdec⟩
      | true =>
        rw[hd] at k2
        have hdf:=dirtyF_some hv hd
        have hcm:=come_some (pd:=pd) hdf
        have k1:w4.cell? ⟨v.b,1,none⟩=some (.slice v.A v.y.length v.c):=(hr4.blk.cell _).trans rfl
        have kb:w4.cell? ⟨w.heap.size+1,0,none⟩=some (.map (some w.heap.size)):=hbx4.boxed
        have hS0:w4.drew.cell? ⟨v.b,1,none⟩=some (.slice v.A v.y.length v.c)/\w4.drew.cell? ⟨w.heap.size+1,0,none⟩=some (.map (some w.heap.size)):=⟨k1,kb⟩
        have hB5:Below w4.heap.size w4 w4.drew:=(Below.refl _ _).drew
        have hmo5:=hmo4.below hB5 hmo4.lt
        have hbx5:=hbx4.below hB5 hbx4.lt
        have hup5:Below w.heap.size w w4.drew:=hup4.trans (hB5.mono hup4.size)
        have hit5:IterAt w4.drew (w.heap.size+1+1) r clock (seen.push b):=hit4
        have hd5:w4.drew.rangeLeft r (w.heap.size+1+1)<wr.rangeLeft r (w.heap.size+1+1):=hdec
        have hs5:w.heap.size+1+1<w4.drew.heap.size:=hsz4
        have HCM:=Lib.hid hcm
        clear hd hcm hdf k1 kb
        go_wp2_with (first
          | (refine wp_exec rfl (x_next hrun rfl) ?_)
          | (refine wp_exec rfl (x_entry hent rfl) ?_))
        refine RegF.start (fun W:World=>W.cell? ⟨v.b,1,none⟩=some (.slice v.A v.y.length v.c)/\W.cell? ⟨w.heap.size+1,0,none⟩=some (.map (some w.heap.size))) 6 (by kernel_rfl) ?_
        refine RegF.take 0 (.map (some w.heap.size)) rfl (by kernel_rfl) (by kernel_rfl) (by kernel_rfl) (by kernel_rfl) (fun _ _ _ h=>h) hS0 (RegF.yld rfl (fun W hW=>by obtain⟨e0,e1⟩:=hW;go_simp)) ?_
        simp only[List.getElem_toArray,List.getElem_cons_zero,Act.put,List.setIfInBounds_toArray,List.set_cons_zero,List.set_cons_succ]
        refine RegF.take 1 (.int .i64 k) rfl (by kernel_rfl) (by kernel_rfl) (by kernel_rfl) (by kernel_rfl) (fun _ _ _ h=>h) hS0 (RegF.yld rfl (fun W hW=>by obtain⟨e0,e1⟩:=hW;go_simp)) ?_
        simp only[List.getElem_toArray,List.getElem_cons_succ,List.getElem_cons_zero,Act.put,List.setIfInBounds_toArray,List.set_cons_zero,List.set_cons_succ]
        refine RegF.take 2 (.pointer (some ⟨v.b,0,none⟩)) rfl (by kernel_rfl) (by kernel_rfl) (by kernel_rfl) (by kernel_rfl) (fun _ _ _ h=>h) hS0 (RegF.yld rfl (fun W hW=>by obtain⟨e0,e1⟩:=hW;go_simp)) ?_
        simp only[List.getElem_toArray,List.getElem_cons_succ,List.getElem_cons_zero,Act.put,List.setIfInBounds_toArray,List.set_cons_zero,List.set_cons_succ]
        refine RegF.take 3 (.pointer (some ⟨v.b,0,none⟩)) rfl (by kernel_rfl) (by kernel_rfl) (by kernel_rfl) (by kernel_rfl) (fun _ _ _ h=>h) hS0 (RegF.yld rfl (fun W hW=>by obtain⟨e0,e1⟩:=hW;go_simp)) ?_
        simp only[List.getElem_toArray,List.getElem_cons_succ,List.getElem_cons_zero,Act.put,List.setIfInBounds_toArray,List.set_cons_zero,List.set_cons_succ]
        refine RegF.take 4 (.pointer (some ⟨v.b,1,none⟩)) rfl (by kernel_rfl) (by kernel_rfl) (by kernel_rfl) (by kernel_rfl) (fun _ _ _ h=>h) hS0 (RegF.yld rfl (fun W hW=>by obtain⟨e0,e1⟩:=hW;go_simp)) ?_
        simp only[List.getElem_toArray,List.getElem_cons_succ,List.getElem_cons_zero,Act.put,List.setIfInBounds_toArray,List.set_cons_zero,List.set_cons_succ]
        refine RegF.take 5 (.slice v.A v.y.length v.c) rfl (by kernel_rfl) (by kernel_rfl) (by kernel_rfl) (by kernel_rfl) (fun _ _ _ h=>h) hS0 (RegF.yld rfl (fun W hW=>by obtain⟨e0,e1⟩:=hW;go_simp)) ?_
        simp only[List.getElem_toArray,List.getElem_cons_succ,List.getElem_cons_zero,Act.put,List.setIfInBounds_toArray,List.set_cons_zero,List.set_cons_succ]
        refine RegF.one 6 (by kernel_rfl) ?_
        refine opPutB rfl rfl rfl rfl rfl rfl heo hso hmo5 ?_
        intro eo' co' heo' hso'
        refine⟨fun h=>absurd rfl h,RegF.done (by kernel_rfl) ?_⟩
        simp only[List.getElem_toArray,List.getElem_cons_succ,List.getElem_cons_zero,Act.put]
        replace heo':EnV eo' (fsetV (come pd (dirtyF V)) k (some (.slice v.A v.y.length v.c))):=heo'
        rw[<-HCM.out] at heo'
        have hg6:=setMap_grown hmo5 eo' co'
        have hm6:=hmo5.set eo' co'
        have hB6:Below w.heap.size w4.drew (setMap w4.drew w.heap.size eo' co'):=grown_below hg6 (by omega) (fun r e=>by injection e with e;omega)
        generalize setMap w4.drew w.heap.size eo' co'=w6 at *
        have e1:=hg6.block (w.heap.size+1+1) hs5 (fun e=>by injection e with e;omega)
        have e2:=hg6.block r (Nat.lt_trans hrl (by omega)) (fun e=>by injection e with e;omega)
        have at6:DirtyAt w w.heap.size r clock es (dirtyF V) (seen.push b) (pdPush pd k) w6:=⟨hit5.keep e1,hsn4,⟨eo',co',hm6,heo',hso'⟩,hbx5.grown hg6 (fun e=>by injection e with e;omega),hup5.trans hB6,Nat.lt_of_lt_of_le hs5 hg6.size⟩
        have hd6:w6.rangeLeft r (w.heap.size+1+1)<wr.rangeLeft r (w.heap.size+1+1):=by rw[rangeLeft_keep e2 e1];exact hd5
        clear hg6 hm6 hB6 e1 e2 hS0 hB5 hmo5 hbx5 hup5 hit5 hd5 hs5
        go_wp2
        exact⟨⟨_,_,at6⟩,hd6⟩
end Go.Proofs.YtmllnpjldmdaeaaGreat
namespace Go.Proofs.YtmllnpjldmdaeaaGreat
open Go Go.RowKit Lou Go.Maps Go.Shelf Go.Sort
theorem collectB_gives (w:World)(b r many clock:Nat)(es:Array MapEntry)(f:Int->Option Value)(hb:BlkIs w b 132 #[.map (some r)])(hmi:MapIs w r es clock)(he:EnV es f)(hst:MapKept.Stamped es clock)(hlt:KeysB f many)(hm:many<=40000) :
    Calls Tryz.prog 77 #[.func (.func 132) #[] #[.pointer (some ⟨b,0,none⟩)]] w fun e w'=>∃v,∃ss:List Int,e = .returned v/\ss.Perm ((keysV f many).map fun k:Nat=>(k:Int))/\w'.ownsRow w.heap.size 3 1 v ss.length (ss.map encZ)/\(v = .slice none 0 0↔ss=[])/\Below w.heap.size w w':=by
  obtain⟨D0,hown,hsz,hperm⟩:=own_mapV hmi he hst hlt hm
  have hmax:Maps.size D0<=maxLen:=Nat.le_trans hsz (Nat.le_trans hm (by decide))
  have hbytes:Maps.size D0*8<=140737488355328:=by omega
  refine(callsIn_wide (n:=6)).1 ?_
  have hseq:SeqGives Fence.wide 4 Tryz.prog 132 #[.pointer (some ⟨b,0,none⟩)] encZ (fun ss=>ss.Perm (intKeys D0)) (Maps.size D0) w :=
    AnyZI.keys_gives (ρ:=layK_ren) { layK with } Fence.wide _ trivial rfl (by omega) b r many D0 _ hb.lt hb.boxed hown
  refine(AnyZI.collect_in layC Fence.wide 6 trivial trivial rfl (by omega) 132 #[.pointer (some ⟨b,0,none⟩)] trivial (enters_of Tryz.func132 (by kernel_rfl) rfl) _ _ hmax hbytes w hseq).mono ?_
  rintro e w' ⟨v,ss,rfl,hS,hrow,hnil,hB⟩
  exact⟨v,ss,rfl,hS.trans hperm,hrow,hnil,hB⟩
theorem keysB_gives (mb:Option Nat)(w:World):Calls Tryz.prog 91 #[.map mb] w fun e w'=>e = .returned (.func (.func 132) #[] #[.pointer (some ⟨w.heap.size,0,none⟩)])/\w'=w.alloc (.cells #[.map mb] 132) :=
  (callsIn_wide (n:=6)).1 (AnyZI.keys_in layK Fence.wide 6 trivial rfl mb w)
section
variable {ρ:Operand->Value}{w:World}{o:Oper}{x y:Operand}{r clock:Nat}{k:Int}{es:Array MapEntry}{f:Int->Option Value}{v:Value}
theorem lookB (he:EnV es f)(hm:MapIs w r es clock)(hk:f k=some v)(ho:o.op = .lookup 132 x y false)(h1:ρ x = .map (some r))(h2:ρ y = .int .i64 k):(execOp ρ o).run Tryz.prog w = .ok (.value v) w :=
  x_lookupT (z0:=(.slice none 0 0)) Tryz.underlying132 (by simp[go_sem]) he hm (by simp[hk]) ho h1 h2
end
theorem notB_gives (W:World)(s1 s2 r clock:Nat)(es:Array MapEntry)(f:Int->Option Value)(sg:Nat)(sl:Array Value)(esg:∀args w,(callFunc sg args).run Tryz.prog w = .ok (.enter sg args) w)(h1:BlkIs W s1 135 #[.func (.func sg) #[] sl])(h2:BlkIs W s2 132 #[.map (some r)])(hmi:MapIs W r es clock)(he:EnV es f)(k:Int)(v:Value)(hk:f k=some v)(b:Bool)(hs:Calls Tryz.prog sg (#[v] ++ sl) W fun e w'=>e = .returned (.bool b)/\W=w') :
    Calls Tryz.prog 92 #[.int .i64 k,.pointer (some ⟨s1,0,none⟩),.pointer (some ⟨s2,0,none⟩)] W fun e w'=>e = .returned (.bool (!b))/\W=w':=by
  have c1:=h1.boxed
  have c2:=h2.boxed
  go_enter Tryz.func92,Tryz.ntmps92
  go_wp2_with (first
    | (refine wp_exec rfl (lookB he hmi hk rfl rfl rfl) ?_)
    | (refine hs.mono ?_;rintro e w' ⟨rfl,rfl⟩))
  go_ret
  exact⟨rfl,rfl⟩
theorem sortedB_gives (w:World)(r many clock:Nat)(es:Array MapEntry)(f:Int->Option Value)(hmi:MapIs w r es clock)(he:EnV es f)(hst:MapKept.Stamped es clock)(hlt:KeysB f many)(hm:many<=40000)
    (sg:Nat) (sl:Array Value) (esg:∀args w,(callFunc sg args).run Tryz.prog w = .ok (.enter sg args) w) (p:Int->Bool) (hsuch:∀W,Below w.heap.size w W->∀k v,f k=some v->Calls Tryz.prog sg (#[v] ++ sl) W fun e w'=>e = .returned (.bool (p k))/\W=w')
    (bg:Nat) (bl:Array Value) (ebg:∀args w,(callFunc bg args).run Tryz.prog w = .ok (.enter bg args) w) (cf:Int->Int->Int) (hO:SWO (ltOf cf)) (hby:∀W,Below w.heap.size w W->∀x y,(f x).isSome=true->(f y).isSome=true->p x=true->p y=true->Calls Tryz.prog bg (#[.int .i64 x,.int .i64 y] ++ bl) W fun e w'=>e = .returned (.int .i64 (cf x y))/\∃q os,w'=grow (W.drewN q) os) :
    Calls Tryz.prog 54 #[.map (some r),.func (.func sg) #[] sl,.func (.func bg) #[] bl] w fun e w'=>∃(A:Option Addr) (c:Nat) (ks:List Int),e = .returned (.slice A ks.length c)/\KeysSo f p cf ks/\RowInts w w' A ks/\Below w.heap.size w w':=by
  have hB0:Below w.heap.size w ((w.alloc (.cells #[.map (some r)] 132)).alloc (.cells #[.func (.func sg) #[] sl] 135)):=((Below.refl _ w).alloc (Nat.le_refl _) _).alloc (by simp) _
  have b0:BlkIs ((w.alloc (.cells #[.map (some r)] 132)).alloc (.cells #[.func (.func sg) #[] sl] 135)) w.heap.size 132 #[.map (some r)]:=(BlkIs.new w _ _).alloc _
  have b1:BlkIs ((w.alloc (.cells #[.map (some r)] 132)).alloc (.cells #[.func (.func sg) #[] sl] 135)) (w.heap.size+1) 135 #[.func (.func sg) #[] sl]:=by
    have:=BlkIs.new (w.alloc (.cells #[.map (some r)] 132)) 135 #[.func (.func sg) #[] sl]
    rwa [World.size_alloc] at this
  have c0:=b0.boxed
  have hKEY:=keysB_gives (some r)
  obtain⟨W0,hW0⟩:∃W0,W0=(w.alloc (.cells #[.map (some r)] 132)).alloc (.cells #[.func (.func sg) #[] sl] 135):=⟨_,rfl⟩
  have hs0:W0.heap.size=w.heap.size+2:=by rw[hW0];simp
  rw[<-hW0] at hB0 b0 b1 c0
  have hBA:Below W0.heap.size W0 (W0.alloc (.cells #[.map (some r)] 132)):=(Below.refl _ _).alloc (Nat.le_refl _) _
  have bA:BlkIs (W0.alloc (.cells #[.map (some r)] 132)) W0.heap.size 132 #[.map (some r)]:=BlkIs.new _ _ _
  have hml:=hmi.lt
  have HC:=collectB_gives _ _ r many clock es f bA ((hmi.below hB0 hml).below hBA (by omega)) he hst hlt hm
  rw[hW0] at HC
  simp only[World.size_alloc] at HC
  clear bA
  have hND:=@deleteNone_gives
  have hSN:=fun W fv=>AnyF.slices_SortFunc_none (P:=Tryz.prog) (ρ:=layF_ren) { layF with } none 0 fv W
  change ∀W fv,Calls Tryz.prog 81 _ _ _ at hSN
  go_enter Tryz.func54,Tryz.ntmps54
  go_wp2_with (first
    | (go_at_call 91;refine(hKEY _).mono ?_;rintro e w1 ⟨rfl,rfl⟩)
    | (go_at_call 77;refine HC.mono ?_;rintro e w2 ⟨v,ss,rfl,hperm,hrow,hnil,hB2⟩))
  have hmem:∀k,k∈ss↔(f k).isSome=true:=fun k=>by
    rw[hperm.mem_iff,List.mem_map]
    constructor
    · rintro⟨a,ha,rfl⟩
      exact(keysV_mem.1 ha).2
    · intro h
      obtain⟨v,hv⟩:=Option.isSome_iff_exists.1 h
      obtain⟨h3,h4⟩:=hlt k v hv
      have e:(k.toNat:Int)=k:=by omega
      exact⟨k.toNat,keysV_mem.2 ⟨by omega,by rw[e];exact h⟩,e⟩
  have hnd:ss.Nodup:=hperm.nodup_iff.2 (List.pairwise_map.2 ((keysV_lt f many).imp fun h e=>by omega))
  have hlen:ss.length<=many:=by
    have h1:=hperm.length_eq
    rw[List.length_map] at h1
    have:=keysV_len f many
    omega
  have hB2':Below w.heap.size w w2:=by
    have h1:Below w.heap.size (W0.alloc (.cells #[.map (some r)] 132)) w2:=by rw[hW0];exact hB2.mono (by omega)
    exact(hB0.trans (hBA.mono (by omega))).trans h1
  by_cases hss:ss=[]
  · rw[hnil.2 hss]
    go_wp2_with (first
      | (go_at_call 79;refine(hND _ _ _).mono ?_;rintro e w3 ⟨rfl,rfl⟩)
      | (go_at_call 81;refine(hSN _ _).mono ?_;rintro e w3 ⟨rfl,rfl⟩))
    go_ret
    refine⟨none,0,[],rfl,⟨List.nodup_nil,fun k=>⟨fun h=>absurd h (by simp),fun h => ?_⟩,List.Pairwise.nil⟩,fun j h=>absurd h (by simp),hB2'⟩
    have:=(hmem k).2 h.1
    rw[hss] at this
    exact absurd this (by simp)
  · obtain⟨gb,cap,cur,rfl,hbase,hgb,r1,r2,r3,r4⟩:∃gb cap cur,v = .slice (some ⟨gb,0,none⟩) ss.length cap/\w.heap.size+2<gb/\BlkIs w2 gb 3 cur/\ss.length<=cap/\cap<=maxLen/\cur.size=cap*1/\cur.toList.take (ss.length*1)=ss.map encZ:=by
      rcases hrow.2 with⟨rfl,hz⟩|⟨gb,cap,cur,rfl,hbase,hgb,r1,r2,r3,r4⟩
      · exact absurd (hnil.1 rfl) hss
      · exact⟨gb,cap,cur,rfl,by omega,hgb,r1,r2,r3,r4⟩
    have hcells:∀j (h:j<ss.length),cur[j]? = some (.int .i64 ss[j]):=fun j hj=>by
      rw[Nat.mul_one] at r4
      have h1:(cur.toList.take ss.length)[j]? = (ss.map encZ)[j]?:=by rw[r4]
      rw[List.getElem?_take_of_lt hj,List.getElem?_map,List.getElem?_eq_getElem hj,Array.getElem?_toList] at h1
      exact h1
    have q0:BlkIs w2 w.heap.size 132 #[.map (some r)]:=by
      have h0:=(b0.below hBA (by omega))
      rw[hW0] at h0
      exact h0.below hB2 (by omega)
    have q1:BlkIs w2 (w.heap.size+1) 135 #[.func (.func sg) #[] sl]:=by
      have h0:=(b1.below hBA (by omega))
      rw[hW0] at h0
      exact h0.below hB2 (by omega)
    have hm2:MapIs w2 r es clock:=hmi.below hB2' hml
    have HD:=delete_gives w2 92 #[.pointer (some ⟨w.heap.size+1,0,none⟩),.pointer (some ⟨w.heap.size,0,none⟩)] (enters_of Tryz.func92 (by kernel_rfl) rfl) (fun k => !p k) gb cap ss cur hgb hcells r1 (by omega) (fun W hG k hk=>by
      obtain⟨v,hv⟩:=Option.isSome_iff_exists.1 ((hmem k).1 hk)
      have n0:¬ w.heap.size=gb:=by omega
      have n1:¬ w.heap.size+1=gb:=by omega
      have n2:¬ r=gb:=by omega
      exact notB_gives W (w.heap.size+1) w.heap.size r clock es f sg sl esg (hG.blk q1 n1) (hG.blk q0 n0) ((hG.block r hm2.lt n2).trans hm2) he k v hv (p k) (hsuch W (hB2'.trans (hG.toBelow hB2'.size (fun k e=>by omega))) k v hv))
    have ef:(ss.filter fun k => !(!p k))=ss.filter p:=by congr 1;funext k;simp
    rw[ef] at HD
    have hfl:(ss.filter p).length<=ss.length:=List.length_filter_le _ _
    go_wp2_with (go_at_call 79;refine HD.mono ?_;rintro e w3 ⟨cs3,rfl,hb3,hc3,hG3⟩)
    have hB3:Below w.heap.size w w3:=hB2'.trans (hG3.toBelow hB2'.size (fun k e=>by omega))
    have HS:=sortF_gives w3 gb cap (ss.filter p) cs3 hb3 hc3 (by omega) cf hO bg bl ebg (fun W hG x hx y hy=>by
      obtain⟨hx1,hx2⟩:=List.mem_filter.1 hx
      obtain⟨hy1,hy2⟩:=List.mem_filter.1 hy
      exact hby W (hB3.trans (hG.toBelow hB3.size (fun k e=>by omega))) x y ((hmem x).1 hx1) ((hmem y).1 hy1) hx2 hy2)
    go_wp2_with (go_at_call 81;refine HS.mono ?_;rintro e w4 ⟨rfl,ks,cs4,hp4,ho4,hb4,hc4,hG4⟩)
    go_ret
    refine⟨some ⟨gb,0,none⟩,cap,ks,by rw[hp4.length_eq];rfl,⟨hp4.nodup_iff.2 (hnd.filter _),fun k=>by rw[hp4.mem_iff,List.mem_filter,hmem],ho4.imp fun h=>by omega⟩,fun j hj=>⟨gb,rfl,by omega,by rw[hb4.cell];exact hc4 j hj⟩,hB3.trans (hG4.toBelow hB3.size (fun k e=>by omega))⟩
end Go.Proofs.YtmllnpjldmdaeaaGreat
namespace Go.Proofs.YtmllnpjldmdaeaaGreat
open Go Go.RowKit Lou Go.Shelf Go.Sort
attribute [local go_sem] Oper.semAt_some
theorem swoZ:SWO (ltOf cmpZ):=by
  have e:∀x y,ltOf cmpZ x y=decide (x<y):=fun x y=>by unfold ltOf;simp only[cmpZ_lt]
  refine⟨fun x => ?_,fun x y z h1 h2 => ?_,fun x y z h1 h2 => ?_⟩<;>simp only[e,decide_eq_true_eq,decide_eq_false_iff_not] at *<;>omega
theorem keysSo_all {f:Int->Option Value}{many:Nat}{ks:List Int}(h:KeysSo f (fun _=>true) cmpZ ks)(hlt:KeysB f many):ks=(keysV f many).map fun k:Nat=>(k:Int):=by
  obtain⟨h1,h2,h3⟩:=h
  have hp:ks.Perm ((keysV f many).map fun k:Nat=>(k:Int)):=by
    refine(List.perm_ext_iff_of_nodup h1 (List.pairwise_map.2 ((keysV_lt f many).imp fun h e=>by omega))).2 fun k => ?_
    rw[h2,List.mem_map]
    constructor
    · rintro⟨h,_⟩
      obtain⟨v,hv⟩:=Option.isSome_iff_exists.1 h
      obtain⟨h4,h5⟩:=hlt k v hv
      have e:(k.toNat:Int)=k:=by omega
      exact⟨k.toNat,keysV_mem.2 ⟨by omega,by rw[e];exact h⟩,e⟩
    · rintro⟨a,ha,rfl⟩
      exact⟨(keysV_mem.1 ha).2,rfl⟩
  have e1:=(mergeSort_of_perm_i hp).trans (keysV_sort f many)
  have e2:ks.mergeSort (fun x y=>decide (x<=y))=ks:=List.mergeSort_of_pairwise (h3.imp fun h=>by
    rw[cmpZ_lt] at h
    simp
    omega)
  rw[e2] at e1
  exact e1
theorem yes_gives (W:World)(v:Value):Calls Tryz.prog 55 #[v] W fun e w'=>e = .returned (.bool true)/\W=w':=by
  go_enter Tryz.func55,Tryz.ntmps55
  go_wp2
  go_ret
  exact⟨rfl,rfl⟩
theorem byInt_gives (W:World)(x y:Int):Calls Tryz.prog 56 #[.int .i64 x,.int .i64 y] W fun e w'=>e = .returned (.int .i64 (cmpZ x y))/\∃q os,w'=grow (W.drewN q) os:=by
  go_enter Tryz.func56,Tryz.ntmps56
  go_wp2_with (go_at_call 46;refine(cmpInt_gives _ _ _).mono ?_;rintro e w' ⟨rfl,rfl⟩)
  go_ret
  exact⟨rfl,0,#[],by rw[grow_empty];rfl⟩
theorem sortedBK_gives (w:World)(r many clock:Nat)(es:Array MapEntry)(f:Int->Option Value)(hmi:MapIs w r es clock)(he:EnV es f)(hst:MapKept.Stamped es clock)(hlt:KeysB f many)(hm:many<=40000) :
    Calls Tryz.prog 54 #[.map (some r),.func (.func 55) #[] #[],.func (.func 56) #[] #[]] w fun e w'=>∃(A:Option Addr) (c:Nat),e = .returned (.slice A (keysV f many).length c)/\Below w.heap.size w w' /\
      ∀(j:Nat) (hj:j<(keysV f many).length),∃gb,A=some ⟨gb,0,none⟩/\w.heap.size<=gb/\w'.cell? ⟨gb,j,none⟩=some (.int .i64 (((keysV f many)[j]:Nat):Int)):=by
  refine(sortedB_gives w r many clock es f hmi he hst hlt hm 55 #[] (enters_of Tryz.func55 (by kernel_rfl) rfl) (fun _=>true) (fun W _ k v _=>yes_gives W v) 56 #[] (enters_of Tryz.func56 (by kernel_rfl) rfl) cmpZ swoZ (fun W _ x y _ _ _ _=>byInt_gives W x y)).mono ?_
  rintro e w' ⟨A,c,ks,rfl,hso,hri,hB⟩
  obtain rfl:=keysSo_all hso hlt
  refine⟨A,c,by rw[List.length_map],hB,fun j hj => ?_⟩
  obtain⟨g,h1,h2,h3⟩:=hri j (by rw[List.length_map];exact hj)
  exact⟨g,h1,h2,by rw[h3,List.getElem_map]⟩
theorem TyB.ownFrom {B:Nat}(A:Option Addr):OwnFrom B (fun (_:Unit) W=>TyB W A):=fun _ X Y row hs hg hr g o e=>by
  obtain⟨cs,hb⟩:=hs g o e
  refine⟨cs,(hg.block g hb.lt fun e => ?_).trans hb⟩
  obtain⟨_,ob,h1,h2⟩:=hr g e.symm
  have h3:X.heap[g]? = some (.cells cs 5 (0,0)):=hb
  rw[h1] at h3
  injection h3 with h3
  rw[h3] at h2
  cases h2
def DrRd (K:List Nat)(Y:Int->Option (List UInt8))(pre:List (Nat×(Option Addr×Nat)))(x:Nat×(Option Addr×Nat))(W:World):Prop :=
  K[pre.length]? = some x.1/\pre.map (·.1)=K.take pre.length/\∃y,Y (x.1:Int)=some y/\y.length=512/\InB W W.heap.size x.2.1 x.2.2 y/\TyB W x.2.1
theorem KeepU.step {U0 U:Nat->Prop}{W1 W2 W3:World}(h:KeepU U0 W1 W2)(hL:LaterU W1.heap.size U0 U)(k:KeepU U W2 W3):KeepU U0 W1 W3 :=
  ⟨Nat.le_trans h.1 k.1,fun i o hi hn=>k.2 i o (h.2 i o hi hn) fun e=>(hL i e).elim hn (fun h=>by have:=(Array.getElem?_eq_some_iff.1 hi).1;omega)⟩
def SmU (W:World)(k:Nat):Prop:=(∃em cm,W.heap[k]? = some (.map em cm))∨∃T cs,BlkIs W k T cs/\cs.size<=64
theorem SmU.below {W W':World}{k:Nat}(h:SmU W k)(hB:Below W.heap.size W W'):SmU W' k:=by
  rcases h with⟨em,cm,h⟩|⟨T,cs,h,hs⟩
  · exact .inl ⟨em,cm,(hB.block k (Array.getElem?_eq_some_iff.1 h).1).trans h⟩
  · exact .inr ⟨T,cs,h.below hB h.lt,hs⟩
theorem SmU.notB {W:World}{n c:Nat}{A:Option Addr}{y:List UInt8}(h:InB W n A c y)(hl:64<y.length){g o:Nat}(e:A=some ⟨g,o,none⟩):¬ SmU W g:=fun hs=>by
  obtain⟨g',o',e',_,hc⟩:=h.lies (by omega)
  rw[e] at e'
  injection e' with e'
  injection e' with e1 e2
  subst e1 e2
  have h64:=hc 64 hl
  rcases hs with⟨em,cm,hm⟩|⟨T,cs,hb,hsz⟩
  · simp[World.cell?,hm] at h64
  · rw[hb.cell,Array.getElem?_eq_none (by omega)] at h64
    cases h64
theorem dirty1_in (n:Nat)(hn:6<=n)(l q r many clock:Nat)(es:Array MapEntry)(f:Int->Option Value)(Y:Int->Option (List UInt8))(J Jx:List (Nat×(Option Addr×Nat))->(Nat->Prop)->World->Prop)(U0:Nat->Prop)(W:World)(hMq:¬ U0 q)(hMr:¬ U0 r)(hMb:∀k,U0 k->SmU W k)(hJA:StB J)(hJl:∀s U X,J s U X->∀k,U k->k<X.heap.size)
    (hY:∀pre x U W1,J pre U W1->DrRd (keysV f many) Y pre x W1->YieldAt Fence.wide (n - 1) Tryz.prog l (pgEnc x) W1 fun e W' =>
      (e = .returned (.bool true)/\∃U',LaterU W1.heap.size U U'/\J (pre++[x]) U' W'/\KeepU U W1 W')∨(e = .returned (.bool false)/\∃U',Jx (pre++[x]) U' W'))
    (hq:BlkIs W q 132 #[.map (some r)]) (hm:MapIs W r es clock) (he:EnV es f) (hst:MapKept.Stamped es clock) (hP:PgIs W f Y) (hlt:KeysB f many) (hmany:many<=40000) (h0:J [] U0 W) :
    CallsIn Fence.wide n Tryz.prog 53 #[.func (.yield l) #[] #[],.pointer (some ⟨q,0,none⟩)] W fun e W'=>(∃v,e = .returned v) /\
      ((∃ys U',ys.map (·.1)=keysV f many/\J ys U' W')∨(∃pre U',pre.length<=(keysV f many).length/\Jx pre U' W')):=by
  have h1:1<=n:=by omega
  have hcB:=hq.boxed
  have HS:=sortedBK_gives W r many clock es f hm he hst hlt hmany
  have hKm:∀k∈keysV f many,(f (k:Int)).isSome=true:=fun k hk=>(keysV_mem.1 hk).2
  have hU0:=hJl _ _ _ h0
  obtain⟨K,hK⟩:∃K,K=keysV f many:=⟨_,rfl⟩
  have hKl:K.length<=40000:=by rw[hK];exact Nat.le_trans (keysV_len f many) hmany
  rw[<-hK] at HS hKm
  rw[<-hK] at hY ⊢
  clear hK hlt hst
  refine callsIn_of_wp Tryz.func53 rfl trivial ?_ rfl
  simp only[Tryz.ntmps53,List.size_toArray,List.length_cons,List.length_nil,Nat.reduceAdd,Nat.reduceSub,Array.replicate_succ,Array.replicate_zero,List.push_toArray,List.append_toArray,List.nil_append,List.cons_append]
  gi_wp2
  refine wpIn_scope_wide ?_
  gi_wp2
  refine wpIn_label ?_
  gi_wp2_with (refine⟨trivial,?_⟩;gi_at_call 54;refine(callsIn_wide.2 HS).mono ?_;rintro e W1 ⟨A,c,rfl,hB1,hcell⟩)
  have hJ1:J [] U0 W1:=hJA _ _ _ _ h0 hB1
  have q1:=hq.below hB1 hq.lt
  have m1:=hm.below hB1 hm.lt
  have hP1:=hP.grow hB1
  have hMb1:∀k,U0 k->SmU W1 k:=fun k hk=>(hMb k hk).below hB1
  have hgn:∀gb,W.heap.size<=gb->¬ U0 gb:=fun gb hgb e=>by have:=hU0 gb e;omega
  clear HS hcB hB1 hq hm hP hMb hU0 h0
  gi_loopw [8] (fun i wr=>∃(pre:List (Nat×(Option Addr×Nat))) (U:Nat->Prop),i = .int .i64 (pre.length:Int)/\pre.length<=K.length/\pre.map (·.1)=K.take pre.length/\J pre U wr/\LaterU W1.heap.size U0 U/\KeepU U0 W1 wr)
    (fun i _=>K.length - (intOf i).toNat)
  case atStart=>exact⟨[],U0,rfl,Nat.zero_le _,rfl,hJ1,LaterU.refl _ _,KeepU.refl _ _⟩
  case round =>
    obtain⟨pre,U,rfl,hpl,hpm,hJs,hLU,hko⟩:=hrel
    by_cases hlt:pre.length<K.length
    · obtain⟨gb,rfl,hgb,hgc⟩:=hcell pre.length hlt
      have hgc2:=hko.cell (p:=⟨gb,pre.length,none⟩) hgc (hgn gb hgb)
      have hcBr:=(hko.blk q1 hMq).boxed
      have hmr:MapIs wr r es clock:=hko.2 _ _ m1 hMr
      have hk0:K[pre.length]? = some K[pre.length]:=List.getElem?_eq_getElem hlt
      have hkS:=hKm K[pre.length] (List.getElem_mem hlt)
      obtain⟨k,hk⟩:∃k,k=K[pre.length]:=⟨_,rfl⟩
      rw[<-hk] at hgc2 hk0 hkS
      rcases hP1 (k:Int) with⟨h2,_⟩|⟨A0,c0,y,h2,h3,h4,h5⟩
      · rw[h2] at hkS
        cases hkS
      · have h5r:InB wr wr.heap.size A0 c0 y:=by
          refine⟨h5.le,h5.max,h5.nil,fun h0 => ?_⟩
          obtain⟨g,o,e,hg,hc⟩:=h5.lies h0
          have hMg:¬ U0 g:=fun hmu=>SmU.notB h5 (by omega) e (hMb1 g hmu)
          exact⟨g,o,e,Nat.lt_of_lt_of_le hg hko.1,fun j hj=>hko.cell (hc j hj) hMg⟩
        have hC:=cloneP_gives wr A0 c0 y h5r (by omega)
        rw[h4] at hC
        have hpm':∀z,(pre++[(k,z)]).map (·.1)=K.take (pre++[(k,z)]).length:=fun z=>by
          rw[List.map_append,hpm,List.length_append,List.length_singleton,List.take_add_one,hk0]
          rfl
        have hwk:IntKind.i64.wrap ((pre.length:Int)+1)=(pre.length:Int)+1:=wrap_i64_id' _ (by omega) (by omega)
        have H2:=Lib.hid h2
        have H3:=Lib.hid h3
        have H4:=Lib.hid h4
        have HPM:=Lib.hid hpm
        have HPM':=Lib.hid hpm'
        have HK:=Lib.hid hk
        have HK0:=Lib.hid hk0
        clear h2 h3 h4 hpm hpm' hk hk0 hcell hKm hP1 h5
        gi_wp2_with (first
          | (refine wpV_exec rfl (x_lookupFY he hmr H2.out rfl rfl rfl) ?_)
          | (refine⟨trivial,?_⟩;gi_at_call 24;refine(callsIn_wide.2 hC).mono ?_;rintro e W6 ⟨A6,c6,rfl,hin6,_,hty6,hB6⟩;obtain⟨fn,tmps,assign,body,hyy,hR⟩:=hY pre (k,(A6,c6)) U W6 (hJA _ _ _ _ hJs hB6) ⟨HK0.out,HPM.out,y,H3.out,H4.out,hin6,hty6⟩;unfold pgEnc at hyy;dsimp only at hyy))
        refine hR.mono ?_
        rintro e W4 (⟨rfl,U4,hL4,hJ4,hk4⟩|⟨rfl,U4,hJx4⟩)
        · have s6:=hB6.size
          have k6:KeepU U wr W4:=(KeepU.grow U hB6).trans hk4
          have L4:LaterU W1.heap.size U0 U4:=hLU.trans hL4 (Nat.le_trans hko.1 s6)
          have k4:=hko.step hLU k6
          have hle4:(pre++[(k,(A6,c6))]).length<=K.length:=by simp;omega
          clear k6 hL4 hk4
          gi_wp2
          go_roundw
          case rel=>exact⟨_,U4,by simp,hle4,HPM'.out _,hJ4,L4,k4⟩
          case measure=>simp[intOf];omega
        · have hle4:(pre++[(k,(A6,c6))]).length<=K.length:=by simp;omega
          gi_wp2
          simp only[Exit.noGoto]
          go_end0
          exact⟨⟨_,rfl⟩,.inr ⟨_,U4,hle4,hJx4⟩⟩
    · have hpk:pre.map (·.1)=K:=by rw[hpm,List.take_of_length_le (by omega)]
      have HPK:=Lib.hid hpk
      clear hpk hpm
      gi_wp2
      simp only[Exit.noGoto]
      go_end0
      exact⟨⟨_,rfl⟩,.inl ⟨pre,U,HPK.out,hJs⟩⟩
theorem dirty1_seq (n:Nat)(hn:6<=n)(q r many clock:Nat)(es:Array MapEntry)(f:Int->Option Value)(Y:Int->Option (List UInt8))(w:World)
    (hq:BlkIs w q 132 #[.map (some r)]) (hm:MapIs w r es clock) (he:EnV es f) (hst:MapKept.Stamped es clock) (hP:PgIs w f Y) (hlt:KeysB f many) (hmany:many<=40000) :
    SeqU Fence.wide n Tryz.prog 53 #[.pointer (some ⟨q,0,none⟩)] pgEnc (fun U=>¬ U q/\¬ U r/\∀k,U k->SmU w k) (DrRd (keysV f many) Y) (fun ys=>ys.map (·.1)=keysV f many) (fun pre=>pre.length<=(keysV f many).length) w:=fun l J Jx U0 W hW hU hJ hJl hY h0 =>
  dirty1_in n hn l q r many clock es f Y J Jx U0 W hU.1 hU.2.1 (fun k hk=>(hU.2.2 k hk).below hW) hJ hJl hY (hq.below hW hq.lt) (hm.below hW hm.lt) he hst (hP.grow hW) hlt hmany h0
end Go.Proofs.YtmllnpjldmdaeaaGreat
namespace Go.Proofs.YtmllnpjldmdaeaaGreat
open Go Go.RowKit Lou Go.Shelf
attribute [local go_sem] Oper.semAt_some
def cleanTo (pd:Int->Bool)(V:RowsV):RowsV:=fun k=>(V k).map fun v=>if pd k then { v with d:=false } else v
def cleanV (V:RowsV):RowsV:=fun k=>(V k).map fun v => { v with d:=false }
theorem cleanTo_start (V:RowsV):cleanTo (fun _=>false) V=V:=by
  funext k
  unfold cleanTo
  cases V k<;>rfl
theorem cleanTo_next {pd:Int->Bool}{V:RowsV}{k:Int}{v:RowV}(h:V k=some v):cleanTo (pdPush pd k) V=updV (cleanTo pd V) k (some { v with d:=false }):=by
  funext j
  unfold cleanTo updV
  by_cases e:j=k
  · subst e
    rw[if_pos rfl,h,Option.map_some,pdPush_self,if_pos rfl]
  · rw[if_neg e,pdPush_ne e]
theorem cleanTo_fin {pd:Int->Bool}{V:RowsV}(h:∀k x,ptrV V k=some x->pd k=true):cleanTo pd V=cleanV V:=by
  funext k
  unfold cleanTo cleanV
  cases hv:V k with
  | none=>rfl
  | some v=>rw[Option.map_some,Option.map_some,h k _ (ptrV_some hv),if_pos rfl]
theorem cleanTo_not {pd:Int->Bool}{V:RowsV}{k:Int}{v:RowV}(h:V k=some v)(hp:pd k=false):cleanTo pd V k=some v:=by unfold cleanTo;rw[h,Option.map_some,hp];rfl
theorem caMu_clean {a r:Nat}{V:RowsV}:∀k,caMu a r (cleanV V) k->caMu a r V k:=fun k hk=>by
  rcases hk with hk|hk|⟨j,u,hu,rfl⟩
  · exact .inl hk
  · exact .inr (.inl hk)
  · unfold cleanV at hu
    cases hv:V j with
    | none=>rw[hv] at hu;cases hu
    | some v =>
      rw[hv,Option.map_some] at hu
      injection hu with hu
      subst hu
      exact .inr (.inr ⟨j,v,hv,rfl⟩)
structure CleanAt (W9:World)(h r clock:Nat)(es:Array MapEntry)(a f P:Nat)(room now hh mm:Int)(V:RowsV)(seen:Array Nat)(pd:Int->Bool)(W:World):Prop where
  it:IterAt W h r clock seen
  sn:SeenIs es seen pd
  ca:CaIs W a f r P room now hh mm (cleanTo pd V)
  mp:MapIs W r es clock
  gb:GrowBut (caMu a r V) W9 W
  sz:h<W.heap.size
theorem CleanAt.next {W9 w:World}{h r clock:Nat}{es:Array MapEntry}{a f P:Nat}{room now hh mm:Int}{V:RowsV}{seen:Array Nat}{pd:Int->Bool}(hc:CleanAt W9 h r clock es a f P room now hh mm V seen pd w){w4:World}{b:Nat}{k:Int}{v:RowV}(hv:V k=some v)(hp:pd k=false)(hvb:v.b<h)(hrh:r<h)
    (hit:IterAt w4 h r clock (seen.push b)) (hB:Below h w w4) (hB2:Below w.heap.size w w4∨True) (hsn:SeenIs es (seen.push b) (pdPush pd k)) (hca:CaIs w4 a f r P room now hh mm (cleanTo pd V)) (hgb:GrowBut (caMu a r V) W9 w4) :
    CleanAt W9 h r clock es a f P room now hh mm V (seen.push b) (pdPush pd k) (w4.setCell ⟨v.b,2,none⟩ (.bool false))/\(w4.setCell ⟨v.b,2,none⟩ (.bool false)).rangeLeft r h=w4.rangeLeft r h:=by
  have h0:=cleanTo_not hv hp
  obtain⟨h1,hG⟩:=hca.setRow (v1:={ v with d:=false }) h0 rfl 2 (.bool false) (by simp[rowC]) (.inl ⟨rfl,rfl,rfl⟩) (hca.rows k v h0).at0 (hca.hu h0 _ rfl)
  have hrb:=hca.rb h0
  have hl:r<w4.heap.size:=Nat.lt_of_lt_of_le (Nat.lt_of_lt_of_le hrh (Nat.le_of_lt hc.sz)) hB.size
  have hl2:h<w4.heap.size:=Nat.lt_of_lt_of_le hc.sz hB.size
  have e1:=hG.block h hl2 (by omega)
  have e2:=hG.block r hl hrb
  refine⟨⟨hit.keep e1,hsn,by rw[cleanTo_next hv];exact h1,e2.trans ((hB.block r hrh).trans hc.mp),hgb.trans (hG.more (fun k' e _=>by rw[e];exact .inr (.inr ⟨k,v,hv,rfl⟩))),Nat.lt_of_lt_of_le hl2 hG.size⟩,rangeLeft_keep e2 e1⟩
def pwO (x:Nat×(Option Addr×Nat)):Int×Option Addr×Nat:=((x.1:Int),x.2.1,x.2.2)
section
set_option maxRecDepth 100000
variable {F:Fence}{n:Nat}{w:World}{ops:Array Oper}{rest:List Oper}{o:Oper}{a:Act}{Q:Exit->Act->World->Prop}
theorem wpIn_appG2 (hg:o.guard=none){S T:TypeId}{sz by_:Nat}{z:Value}(hT:ElT S T sz by_ z)(s x:Operand)(ho:o.op = .call { callee:=.builtin .append,args:=#[s,x],argTypes:=#[S,S] })
    (base:Nat) (v:Value) (k:Nat) (cs:List Value) (hs:a.eval s=v) (hown:w.ownsRow base T sz v k cs) (B g c m:Nat) (cs2:List Value) (hx:a.eval x = .slice (some ⟨g,0,none⟩) m c) (hin:InG w B sz (some ⟨g,0,none⟩) m c cs2) (hm0:0<m)
    (hm:k+m<=maxLen) (hbytes:(k+m)*by_<=140737488355328) (hbase:base<=w.heap.size)
    (h:∀v' w',w'.ownsRow base T sz v' (k+m) (cs++cs2)->w.grownBy w' v.ownBlock->(v'.ownBlock=v.ownBlock∨v'.ownBlock=some w.heap.size)->wpListIn F n Tryz.prog ops Q rest (a.put o.dst v') w'):wpListIn F n Tryz.prog ops Q (o::rest) a w:=by
  obtain⟨i0,hi,hz0,hz1,hz2⟩:=info_parts hT.inf
  refine wpListIn_plain hg fun K hK' => ?_
  obtain⟨v',w',hrun,r1,r2,_,r4⟩:=run_append_own_at (P:=Tryz.prog) w base S o.type T i0 z sz by_ hT.und hi hz0 hz1 hz2 hT.zs hT.pos v k cs hown ⟨g,0,none⟩ m c cs2 hin.len (fun j u hu=>by
    obtain⟨g',o',e,_,hr⟩:=hin.lies hm0
    injection e with e
    injection e with e1 e2
    subst e1 e2
    rw[Addr.add_mid]
    exact hr j u hu) hin.one hm hbytes hbase
  unfold Oper.wpIn
  refine⟨?_,?_⟩
  · simp[Oper.about,ho,resolve,Target.leads,Sem.run_pure]
  · rw[Oper.semAt_plain F _ _ (by rw[ho];intro c hc';cases hc')]
    simp[execOp,ho,resolve,invoke,builtin,hs,hx,hrun,Result.andThen]
    exact hK' _ _ (h v' w' r1 r2 r4)
end
structure CmtAt (w:World)(B4:Nat)(Y:Int->Option (List UInt8))(pre:List (Nat×(Option Addr×Nat)))(U:Nat->Prop)(W:World):Prop where
  has:∃Aw cw,BlkIs W w.heap.size 87 #[.slice Aw pre.length cw]/\W.ownsRow B4 92 2 (.slice Aw pre.length cw) pre.length (pwsC (pre.map pwO))/\(∀k,U k↔k=w.heap.size∨(Value.slice Aw pre.length cw).ownBlock=some k)
  bys:∀x∈pre,∃y,Y (x.1:Int)=some y/\y.length=512/\InB W W.heap.size x.2.1 x.2.2 y/\TyB W x.2.1
  up:Below w.heap.size w W
  b4:w.heap.size<B4/\B4<=W.heap.size
theorem CmtAt.st (w:World)(B4:Nat)(Y:Int->Option (List UInt8)):StU B4 (fun pre U W=>CmtAt w B4 Y pre U W):=fun pre U X Z row ⟨⟨Aw,cw,h1,h2,h3⟩,h4,h5,h6⟩ hg hr=>by
  refine⟨⟨Aw,cw,h1.kept hg (fun r e=>(hr r e).2),ownG_kept h2 hg (fun r e=>(hr r e).2),h3⟩,fun x hx => ?_,h5.trans (grown_below hg h5.size (fun r e=>by have:=(hr r e).1;omega)),h6.1,Nat.le_trans h6.2 hg.size⟩
  obtain⟨y,y1,y2,y3,y4⟩:=h4 x hx
  exact⟨y,y1,y2,InB.ownFrom (B:=B4) _ _ _ () X Z row y3 hg hr,TyB.ownFrom (B:=B4) _ () X Z row y4 hg hr⟩
theorem CmtAt.lts {w:World}{B4:Nat}{Y:Int->Option (List UInt8)}{pre:List (Nat×(Option Addr×Nat))}{U:Nat->Prop}{W:World}(h:CmtAt w B4 Y pre U W):∀k,U k->k<W.heap.size:=fun k hk=>by
  obtain⟨Aw,cw,h1,h2,h3⟩:=h.has
  rcases(h3 k).1 hk with rfl|e
  · exact h1.lt
  · exact ownG_lt h2 k e
theorem CmtAt.next {w:World}{B4:Nat}{Y:Int->Option (List UInt8)}{pre:List (Nat×(Option Addr×Nat))}{U:Nat->Prop}{V Va w5:World}{x:Nat×(Option Addr×Nat)}{Aw:Option Addr}{cw:Nat}(h:CmtAt w B4 Y pre U V)(hb:BlkIs V w.heap.size 87 #[.slice Aw pre.length cw])(hown:V.ownsRow B4 92 2 (.slice Aw pre.length cw) pre.length (pwsC (pre.map pwO)))(hU:∀k,U k↔k=w.heap.size∨(Value.slice Aw pre.length cw).ownBlock=some k)
    (hx:∃y,Y (x.1:Int)=some y/\y.length=512/\InB V V.heap.size x.2.1 x.2.2 y/\TyB V x.2.1) (hBa:Below V.heap.size V Va) {v5:Value} (own5:w5.ownsRow B4 92 2 v5 (pre.length+1) (pwsC (pre.map pwO)++pwC (pwO x))) (hg5:Va.grownBy w5 (Value.slice Aw pre.length cw).ownBlock) (hv5:v5.ownBlock=(Value.slice Aw pre.length cw).ownBlock∨v5.ownBlock=some Va.heap.size) :
    ∃U',LaterU V.heap.size U U'/\KeepU U V (w5.setCell ⟨w.heap.size,0,none⟩ v5)/\CmtAt w B4 Y (pre++[x]) U' (w5.setCell ⟨w.heap.size,0,none⟩ v5):=by
  have e1:pwsC (pre.map pwO)++pwC (pwO x)=pwsC ((pre++[x]).map pwO):=by rw[List.map_append,List.map_singleton,pwsC_snoc]
  have e2:(pre++[x]).length=pre.length+1:=by simp
  rw[e1] at own5
  obtain⟨A5,c5,rfl,_⟩:=ownG_in own5 (pwsC_one _)
  have hge:=ownG_ge hown
  have hge5:=ownG_ge own5
  have hs:=hBa.size
  have h4:=h.b4
  have hbl:=hb.lt
  have hUl:=h.lts
  have k5:KeepU U V w5:=(KeepU.grow U hBa).trans (KeepU.grown U hg5 (fun r e=>(hU r).2 (.inr e)))
  have kc:KeepU U w5 (w5.setCell ⟨w.heap.size,0,none⟩ (.slice A5 (pre.length+1) c5)):=KeepU.setCell _ _ _ ((hU _).2 (.inl rfl))
  have bx:BlkIs w5 w.heap.size 87 #[.slice Aw pre.length cw]:=(hb.below hBa hb.lt).grown hg5 (fun e=>by have:=hge _ e.symm;omega)
  have hnb:∀{W:World} {A:Option Addr} {c:Nat} {y:List UInt8},InB V V.heap.size A c y->y.length=512->TyB V A->KeepU U V W->InB W W.heap.size A c y/\TyB W A:=fun {W A c y} hi hl ht hk=>by
    have hMu:∀g cs,BlkIs V g 5 cs->¬ U g:=fun g cs hgb e=>by
      rcases(hU g).1 e with rfl|e
      · exact BlkIs.ne_type hb hgb (by decide) rfl
      · obtain⟨cur,hcur⟩:=ownG_ty hown g e
        exact BlkIs.ne_type hcur hgb (by decide) rfl
    refine⟨⟨hi.le,hi.max,hi.nil,fun h0 => ?_⟩,fun g o e => ?_⟩
    · obtain⟨g,o,e,hg,hc⟩:=hi.lies h0
      obtain⟨cs,hcs⟩:=ht g o e
      exact⟨g,o,e,Nat.lt_of_lt_of_le hg hk.1,fun j hj=>hk.cell (p:=⟨g,o+j,none⟩) (hc j hj) (hMu g cs hcs)⟩
    · obtain⟨cs,hcs⟩:=ht g o e
      exact⟨cs,hk.blk hcs (hMu g cs hcs)⟩
  have kall:=k5.trans kc
  refine⟨fun k=>k=w.heap.size∨(Value.slice A5 (pre.length+1) c5).ownBlock=some k,fun k hk => ?_,kall,⟨⟨A5,c5,by rw[e2];exact bx.set 0 _,?_,fun k=>by rw[e2]⟩,fun u hu => ?_,?_,h4.1,Nat.le_trans h4.2 kall.1⟩⟩
  · rcases hk with rfl|hk
    · exact .inl ((hU _).2 (.inl rfl))
    · rcases hv5 with e|e
      · rw[e] at hk;exact .inl ((hU _).2 (.inr hk))
      · rw[e] at hk;injection hk with hk;exact .inr (by omega)
  · rw[e2]
    exact ownG_later own5 (fun r hr=>Below.heap_setCell w5 ⟨w.heap.size,0,none⟩ _ r (fun e=>by have h7:=hge5 r hr;have h8:r=w.heap.size:=e;omega))
  · rcases List.mem_append.1 hu with hu|hu
    · obtain⟨y,y1,y2,y3,y4⟩:=h.bys u hu
      obtain⟨z1,z2⟩:=hnb y3 y2 y4 kall
      exact⟨y,y1,y2,z1,z2⟩
    · rw[List.mem_singleton] at hu
      subst hu
      obtain⟨y,y1,y2,y3,y4⟩:=hx
      obtain⟨z1,z2⟩:=hnb y3 y2 y4 kall
      exact⟨y,y1,y2,z1,z2⟩
  · have h5:=h.up.size
    exact h.up.trans (((hBa.mono h5).trans (grown_below hg5 (by omega) (fun r e=>by have:=hge r e;omega))).setCell (Nat.le_refl _) _)
end Go.Proofs.YtmllnpjldmdaeaaGreat
namespace Go.Proofs.YtmllnpjldmdaeaaGreat
open Go Go.RowKit Lou Go.Shelf
attribute [local go_sem] Oper.semAt_some
def rowsR (V:RowsV):RowsC:=fun k=>(V k).map fun v=>(v.y,v.d)
theorem rowsR_dirty {V:RowsV}{k:Int}{y:List UInt8}:rowsR V k=some (y,true)↔dirtyY V k=some y:=by
  unfold rowsR dirtyY
  cases hv:V k with
  | none=>simp
  | some v =>
    cases hd:v.d<;>simp[hd]
theorem dirtyF_is {V:RowsV}{k:Int}:(dirtyF V k).isSome=(dirtyY V k).isSome:=by
  unfold dirtyF dirtyY
  cases V k with
  | none=>rfl
  | some v=>cases hd:v.d<;>simp[hd]
theorem dirtyL_keys (V:RowsV):∀P,(dirtyL (rowsR V) P).map (·.1)=keysV (dirtyF V) P
  | 0=>rfl
  | P+1=>by
    have ih:=dirtyL_keys V P
    unfold dirtyL
    rw[List.map_append,ih]
    unfold keysV
    rw[List.range_succ,List.filter_append]
    congr 1
    have h1:=@rowsR_dirty V (P:Int)
    split
    · next b e =>
      have:=h1.1 e
      simp[dirtyF_is,this]
    · next e =>
      cases hy:dirtyY V (P:Int) with
      | none=>simp[dirtyF_is,hy]
      | some y=>exact absurd (h1.2 hy) (e y)
theorem CmtAt.args {w V:World}{B4:Nat}{Y:Int->Option (List UInt8)}{ys:List (Nat×(Option Addr×Nat))}{U:Nat->Prop}(h:CmtAt w B4 Y ys U V)(L:List (Nat×List UInt8))(hk:ys.map (·.1)=L.map (·.1))(hY:∀x∈L,Y (x.1:Int)=some x.2) :
    ∃Aw cw,BlkIs V w.heap.size 87 #[.slice Aw L.length cw]/\PwArgs V B4 Aw L.length (fun k=>(ys.map pwO).getD k (0,none,0)) (pwL L):=by
  obtain⟨Aw,cw,hb,own,_⟩:=h.has
  have hl:ys.length=L.length:=by have:=congrArg List.length hk;simpa using this
  rw[hl] at hb own
  have hge:=ownG_ge own
  obtain⟨A,c,e,hin⟩:=ownG_in own (pwsC_one _)
  injection e with e1 _ e3
  subst e1 e3
  have hxs:∀k (hk:k<L.length),(ys.map pwO).getD k (0,none,0)=pwO (ys[k]'(by omega)):=fun k hk=>by
    rw[List.getD_eq_getElem?_getD,List.getElem?_eq_getElem (by simp;omega),List.getElem_map]
    rfl
  have hpw:∀k (hk:k<L.length),pwL L k=((L[k].1:Int),L[k].2):=fun k hk=>by unfold pwL;rw[List.getElem?_eq_getElem hk]
  have h1:∀k (hq:k<L.length),(ys[k]'(by omega)).1=L[k].1:=fun k hq=>by
    have h2:(ys.map (·.1))[k]? = (L.map (·.1))[k]?:=by rw[hk]
    rw[List.getElem?_eq_getElem (by simp;omega),List.getElem?_eq_getElem (by simp;omega)] at h2
    simpa using h2
  have hby:∀k (hk:k<L.length),L[k].2.length=512/\InB V V.heap.size (ys[k]'(by omega)).2.1 (ys[k]'(by omega)).2.2 L[k].2/\TyB V (ys[k]'(by omega)).2.1:=fun k hk=>by
    obtain⟨y,y1,y2,y3,y4⟩:=h.bys _ (List.getElem_mem (by omega:k<ys.length))
    have h2:=hY _ (List.getElem_mem hk)
    rw[h1 k hk,h2] at y1
    injection y1 with y1
    subst y1
    exact⟨y2,y3,y4⟩
  refine⟨Aw,cw,hb,⟨fun g o e=>hge g (by rw[e];rfl),fun h0 => ?_,fun k hk => ?_,fun k hk => ?_⟩⟩
  · obtain⟨g,o,e,hg,hr⟩:=hin.lies (by omega)
    refine⟨g,o,e,fun j hj q v hq => ?_,hg⟩
    have hq2:(pwC ((ys.map pwO)[j]'(by simp;omega)))[q]? = some v:=by
      have e:=hxs j hj
      simp only[e] at hq
      rw[List.getElem_map]
      exact hq
    have:=hr (j*2+q) v (pwsC_get _ j (by simp;omega) q v hq2)
    rw[show o+j*2+q=o+(j*2+q) by omega]
    exact this
  · obtain⟨q1,q2,_⟩:=hby k hk
    simp only[hxs k hk,hpw k hk]
    exact⟨by show ((L[k].1:Nat):Int)=(((ys[k]'(by omega)).1:Nat):Int);rw[h1 k hk],q1,q2⟩
  · simp only[hxs k hk]
    exact(hby k hk).2.2
theorem pwC_one (x:Int×Option Addr×Nat):∀v∈pwC x,v.oneCell'=true:=by
  intro v hv
  simp[pwC] at hv
  rcases hv with rfl|rfl<;>rfl
def cleanIf (x:Int)(c:CaSt):CaSt:=if x=0 then ⟨c.now,c.hh,c.mm,cleanV c.V⟩ else c
def CmRes (fr pg:Int)(P:Nat)(room:Int)(s:DS)(S:LgS)(c:CaSt)(z:Int)(sz:Nat)(x:Int)(s':DS)(S':LgS)(c':CaSt):Prop :=
  (dirtyL (rowsR c.V) P≠[]/\∃xs,(∀k,k<(dirtyL (rowsR c.V) P).length->(pwL (dirtyL (rowsR c.V) P) k).1=(xs k).1)/\ComOut fr pg P s S (dirtyL (rowsR c.V) P).length xs (pwL (dirtyL (rowsR c.V) P)) z x s' S'/\c'=cleanIf x c) ∨
  (dirtyL (rowsR c.V) P=[]/\z=S.sz/\x=0/\s'=s/\S'=S/\c'=c) ∨
  (dirtyL (rowsR c.V) P=[]/\¬ z=S.sz/\s'=s/\S'=S/\RdP P room c 0 (fileR fr pg s S 0) sz (.inl x) c') ∨
  (dirtyL (rowsR c.V) P=[]/\¬ z=S.sz/\∃y c1 xs,RdP P room c 0 (fileR fr pg s S 0) sz (.inr y) c1/\(xs 0).1=0/\ComOut fr pg P s S 1 xs (pwL [(0,y)]) z x s' S'/\c'=cleanIf x c1)
theorem RdP.mono {P:Nat}{room:Int}{c c':CaSt}{page:Int}{R x:Int ⊕ List UInt8}{n m:Nat}(h:RdP P room c page R n x c')(hm:m<=n):RdP P room c page R m x c':=by
  rcases h with h|h|h|⟨h1,y,V1,b,A1,c1,h2,h3,h4,h5⟩
  · exact .inl h
  · exact .inr (.inl h)
  · exact .inr (.inr (.inl h))
  · exact .inr (.inr (.inr ⟨h1,y,V1,b,A1,c1,h2,h3,Nat.le_trans hm h4,h5⟩))
theorem RdP.err {P:Nat}{room fr pg:Int}{s:DS}{S:LgS}{c c':CaSt}{page er:Int}{n:Nat}(h:RdP P room c page (fileR fr pg s S page) n (.inl er) c')(hG:∀k,(laid s.g s.xs k).length=64)(hy:∀x∈S.fs,x.y.length=512):er≠0:=by
  rcases h with⟨v,_,e,_⟩|⟨_,er',h2,e,_⟩|⟨_,y,_,_,e,_⟩|⟨_,y,V1,b,A1,c1,_,_,_,e,_⟩
  · cases e
  · injection e with e
    subst e
    rcases fileR_cases (fr:=fr) (pg:=pg) page hG hy with⟨e0,he,hR⟩|⟨y,_,_,hR⟩
    · rw[hR] at h2
      injection h2 with h2
      rw[<-h2]
      exact he
    · rw[hR] at h2
      cases h2
  · injection e with e
    rw[e]
    decide
  · cases e
theorem RdP.len {P:Nat}{room fr pg:Int}{s:DS}{S:LgS}{c c':CaSt}{page:Int}{y:List UInt8}{n:Nat}(h:RdP P room c page (fileR fr pg s S page) n (.inr y) c')(hf:∀k v,c.V k=some v->v.y.length=512)(hG:∀k,(laid s.g s.xs k).length=64)(hy:∀x∈S.fs,x.y.length=512):y.length=512:=by
  rcases h with⟨v,h1,e,_⟩|⟨_,er',h2,e,_⟩|⟨_,y',_,_,e,_⟩|⟨_,y',V1,b,A1,c1,h2,_,_,e,_⟩
  · injection e with e
    subst e
    exact hf _ v h1
  · cases e
  · cases e
  · injection e with e
    subst e
    rcases fileR_cases (fr:=fr) (pg:=pg) page hG hy with⟨e0,he,hR⟩|⟨y1,_,h3,hR⟩
    · rw[hR] at h2
      cases h2
    · rw[hR] at h2
      injection h2 with h2
      rw[<-h2]
      exact h3
theorem cleanIf_names {a r n:Nat}{x:Int}{c c1:CaSt}(h:∀k,caMu a r c1.V k->caMu a r c.V k∨n<=k):∀k,caMu a r (cleanIf x c1).V k->caMu a r c.V k∨n<=k:=fun k hk=>by
  unfold cleanIf at hk
  split at hk
  · exact h k (caMu_clean k hk)
  · exact h k hk
theorem CmRes.names {fr pg:Int}{P:Nat}{room:Int}{s s':DS}{S S':LgS}{c c':CaSt}{z x:Int}{n a r:Nat}(h:CmRes fr pg P room s S c z n x s' S' c'):∀k,caMu a r c'.V k->caMu a r c.V k∨n<=k:=by
  rcases h with⟨_,xs,_,_,rfl⟩|⟨_,_,_,_,_,rfl⟩|⟨_,_,_,_,h⟩|⟨_,_,y,c1,xs,h,_,_,rfl⟩
  · exact cleanIf_names fun k hk => .inl hk
  · exact fun k hk => .inl hk
  · exact h.names
  · exact cleanIf_names h.names
theorem pwL_one (y:List UInt8):(fun k=>[((0:Int),y)].getD k (0,[]))=pwL [(0,y)]:=by
  funext k
  cases k<;>rfl
theorem cwrites_gives (v:Value)(w:World):Calls Tryz.prog 29 #[v] w fun e w'=>e = .returned v/\w=w':=by
  go_enter Tryz.func29,Tryz.ntmps29
  go_wp2
  go_ret
  exact⟨rfl,rfl⟩
theorem CaIs.belowN {W W':World}{a f r P B:Nat}{room now hh mm:Int}{V:RowsV}(h:CaIs W a f r P room now hh mm V)(hB:Below B W W')(hlt:∀k,caMu a r V k->k<B)(hby:∀k v,V k=some v->∀g o,v.A=some ⟨g,o,none⟩->0<v.y.length->g<B):CaIs W' a f r P room now hh mm V:=by
  obtain⟨es,c,hm,he,hs⟩:=h.mp
  refine⟨h.cb.below hB (hlt _ (.inl rfl)),⟨es,c,hm.below hB (hlt _ (.inr (.inl rfl))),he,hs⟩,fun k v hv => ?_,h.inj,h.iat⟩
  have hr:=h.rows k v hv
  refine⟨hr.blk.below hB (hlt _ (.inr (.inr ⟨k,v,hv,rfl⟩))),hr.key,⟨hr.bys.le,hr.bys.max,hr.bys.nil,fun h0 => ?_⟩,hr.len,hr.at0⟩
  obtain⟨g,o,e,hg,hc⟩:=hr.bys.lies h0
  exact⟨g,o,e,Nat.lt_of_lt_of_le hg hB.size,fun j hj=>(hB.cell (p:=⟨g,o+j,none⟩) (hby k v hv g o e h0)).trans (hc j hj)⟩
theorem cleanTo_of {pd:Int->Bool}{V:RowsV}{k:Int}{v:RowV}(h:cleanTo pd V k=some v):∃u,V k=some u/\v.b=u.b/\v.A=u.A/\v.y=u.y:=by
  unfold cleanTo at h
  cases hv:V k with
  | none=>rw[hv] at h;cases h
  | some u =>
    rw[hv,Option.map_some] at h
    injection h with h
    subst h
    refine⟨u,rfl,?_,?_,?_⟩<;>split<;>rfl
theorem CleanAt.iter {W9 w w4:World}{r clock:Nat}{es:Array MapEntry}{a f P:Nat}{room now hh mm:Int}{V:RowsV}{seen:Array Nat}{pd:Int->Bool}(hc:CleanAt W9 W9.heap.size r clock es a f P room now hh mm V seen pd w)(h9:CaIs W9 a f r P room now hh mm V)(hB:Below W9.heap.size w w4):CaIs w4 a f r P room now hh mm (cleanTo pd V)/\GrowBut (caMu a r V) W9 w4:=by
  refine⟨hc.ca.belowN hB (fun k hk=>h9.lts k ?_) (fun k v hv g o e h0 => ?_),⟨hB.os.trans hc.gb.os,hB.tape.trans hc.gb.tape,hB.output.trans hc.gb.output,Nat.le_trans hc.gb.size hB.size,fun i hi hn=>(hB.block i hi).trans (hc.gb.block i hi hn)⟩⟩
  · rcases hk with e|e|⟨j,v,hv,e⟩
    · exact .inl e
    · exact .inr (.inl e)
    · obtain⟨u,h1,h2,_⟩:=cleanTo_of hv
      exact .inr (.inr ⟨j,u,h1,by rw[e,h2]⟩)
  · obtain⟨u,h1,_,h3,h4⟩:=cleanTo_of hv
    have hb:=(h9.rows k u h1).bys
    rw[h4] at h0
    obtain⟨g',o',e',hg,_⟩:=hb.lies h0
    rw[h3,e'] at e
    injection e with e
    injection e with e1 e2
    omega
section
variable {W0 W W' w:World}{d f l a r many P:Nat}{fr pg room now hh mm:Int}{s:DS}{S:LgS}{V:RowsV}{c:CaSt}
theorem CfIs.notTy (h:CfIs W0 d f l a r many P fr pg room now hh mm s S V W){g:Nat}{T:TypeId}{cs:Array Value}(hb:BlkIs W g T cs)(h1:T≠77)(h2:T≠85)(h3:T≠103)(h4:T≠142)(h5:T≠108):¬ sysMu d l a r V g/\g≠f:=by
  have h6:=h.ca.notTy hb h1 h2
  have h7:=h.fh.ne hb h3 h4
  refine⟨fun hk => ?_,fun e => ?_⟩
  · rcases hk with e|e|e
    · exact h7 (.inl e)
    · exact h7 (.inr e)
    · exact h6 e
  · subst e
    exact BlkIs.ne_type hb h.fh.fb h5 rfl
theorem CfIs.other (h:CfIs W0 d f l a r many P fr pg room now hh mm s S V W){g:Nat}{T:TypeId}{cs:Array Value}(hb:BlkIs W g T cs)(hs:cs.size<=64)(hu:∀n,cs[0]? ≠ some (.int .u64 n))(hg:W0.heap.size<=g)(h1:T≠77)(h2:T≠85)(h3:T≠103)(h4:T≠142)(h5:T≠108)(hG:GrowBut (fun k=>k=g) W W'):CfIs W0 d f l a r many P fr pg room now hh mm s S V W' :=
  h.keep hG (fun k e=>by subst e;exact⟨.inr (.inl ⟨_,_,hb,hs,hu⟩),.inr (.inl ⟨_,_,hb,hs⟩)⟩) (fun k e=>by subst e;exact hg) (fun k e=>by subst e;exact h.notTy hb h1 h2 h3 h4 h5)
def ComCall (W0:World)(d f l many:Nat)(fr pg:Int)(z:Int)(R:Int->DS->LgS->Prop)(v:Value)(W:World):Prop :=
  Calls Tryz.prog 30 #[.pointer (some ⟨f,0,none⟩),.int .i64 z,v] W fun e w'=>∃x s' S',e = .returned (.int .i64 x)/\R x s' S'/\(∃k,¬ s'.g k=zer64)/\(∀x∈S'.fs,x.y.length=512)/\FhIs W0 d f l many fr pg s' S' w'/\GrowBut (fun k=>k=d∨k=l) W w'
theorem com_call (h:FhIs W0 d f l many fr pg s S W)(hO:s.Ok)(hl:s.xs.length<=100000){G:Nat->List UInt8}{i:Nat}(hS:StP fr pg G S i)(hp:PgIn pg S)(hi:i<=900)(hpl:planOk fr pg=true)(hm:(many:Int)=2+9*fr+8*pg)(hmax:many<=100000)(hP:(P:Int)=pg)(hP2:P<=1000)(z:Int)
    (hNx:∀n xs pw x s' S',ComOut fr pg P s S n xs pw z x s' S'->(∀k,k<n->(pw k).1=(xs k).1)->(∀k,k<n->(pw k).2.length=512)->(∃k,¬ s'.g k=zer64)/\∀x∈S'.fs,x.y.length=512)
    {B:Nat} {A1:Option Addr} {n c:Nat} {xs:Nat->Int×Option Addr×Nat} {pw:Nat->Int×List UInt8} (hn:n<=1000) (hA:PwArgs W B A1 n xs pw) (hd:d<B) (hlB:l<B) (R:Int->DS->LgS->Prop) (hR:∀x s' S',ComOut fr pg P s S n xs pw z x s' S'->R x s' S'):ComCall W0 d f l many fr pg z R (.slice A1 n c) W:=by
  refine(fcommit_ac h hO hl hS hp hi hpl hm hmax hP hn hA hd hlB hP2 z).mono ?_
  rintro e w' ⟨x,s',S',rfl,h1,h2,h3⟩
  obtain⟨n1,n2⟩:=hNx n xs pw x s' S' h1 (fun k hk=>(hA.bys k hk).1) (fun k hk=>(hA.bys k hk).2.1)
  exact⟨x,s',S',rfl,hR x s' S' h1,n1,n2,h2,h3⟩
theorem ccommit_in (n:Nat)(hn:10<=n)(h:CsIs W0 d f l a r many P fr pg room s S c w)(hT:FileTold W0 d f l many fr pg s S)(hc:c.Ok 900000)(hroom:2<=room)(hfull:∀k v,c.V k=some v->v.y.length=512)(hO:s.Ok)(hl:s.xs.length<=100000){G:Nat->List UInt8}{i:Nat}(hS:StP fr pg G S i)(hp:PgIn pg S)(hi:i<=900)(hpl:planOk fr pg=true)(hm:(many:Int)=2+9*fr+8*pg)(hmax:many<=100000)(hP:(P:Int)=pg)(hP2:P<=1000)(z:Int)
    (hNx:∀n xs pw x s' S',ComOut fr pg P s S n xs pw z x s' S'->(∀k,k<n->(pw k).1=(xs k).1)->(∀k,k<n->(pw k).2.length=512)->(∃k,¬ s'.g k=zer64)/\∀x∈S'.fs,x.y.length=512) :
    CallsIn Fence.wide n Tryz.prog 11 #[.pointer (some ⟨a,0,none⟩),.int .i64 z] w fun e w'=>∃x s' S' c',e = .returned (.int .i64 x)/\CmRes fr pg P room s S c z w.heap.size x s' S' c'/\CsIs W0 d f l a r many P fr pg room s' S' c' w'/\GrowBut (sysMu d l a r c.V) w w':=by
  have h1:1<=n:=by omega
  have hw0:=h.fh.up.size
  obtain⟨W2,hW2⟩:∃W2,W2=w.alloc (.cells #[.slice none 0 0] 87):=⟨_,rfl⟩
  have hB0:Below w.heap.size w W2:=by rw[hW2];exact(Below.refl _ w).alloc (Nat.le_refl _) _
  have b0:BlkIs W2 w.heap.size 87 #[.slice none 0 0]:=by rw[hW2];exact BlkIs.new w _ _
  have s2:W2.heap.size=w.heap.size+1:=by rw[hW2];simp
  have h2:=h.grow hB0
  have HN:=cnone_gives h.ca.cb
  have HD:=cdirty_gives W2 a f r P room c.now c.hh c.mm c.V h2.ca
  have hKY:∀k y,dirtyY c.V k=some y->0<=k/\k<(P:Int):=fun k y hy=>by
    unfold dirtyY at hy
    cases hv:c.V k with
    | none=>rw[hv] at hy;cases hy
    | some v=>exact(h.ca.rows k v hv).key
  have hPg2:=dirtyPg h2.ca hfull
  have hKB:=hPg2.keys hKY
  have HW2:=Lib.hid hW2.symm
  clear hW2
  refine callsIn_of_wp_marks Tryz.func11 rfl trivial ?_ rfl
  simp only[Tryz.ntmps11,List.size_toArray,List.length_cons,List.length_nil,Nat.reduceAdd,Nat.reduceSub,Array.replicate_succ,Array.replicate_zero,List.push_toArray,List.append_toArray,List.nil_append,List.cons_append]
  gi_wp2_with (first
    | (refine⟨trivial,?_⟩;gi_at_call 21;refine(callsIn_wide.2 HN).mono ?_;rintro e w' ⟨rfl,rfl⟩)
    | (refine⟨trivial,?_⟩;gi_at_call 27;rw[HW2.out];refine(callsIn_wide.2 HD).mono ?_;rintro e W4 ⟨q,s4,eo,co,rfl,hq,hms,heo,hso,hB4,hs4,hq4⟩))
  have hPg4:=hPg2.grow hB4
  have b4:=b0.below hB4 b0.lt
  have hup4:Below w.heap.size w W4:=hB0.trans (hB4.mono hB0.size)
  have hz4:=hB4.size
  clear HN HD h2 hPg2 HW2 b0
  refine wpIn_rangeFunc_U rfl h1 (gf:=53) (lb:=#[.pointer (some ⟨q,0,none⟩)]) rfl trivial (enters_of Tryz.func53 (by kernel_rfl) rfl)
    (dirty1_seq (n - 1) (by omega) q s4 P co eo (dirtyF c.V) (dirtyY c.V) W4 hq hms heo hso hPg4 hKB (by omega)) (Below.refl _ _) (fun _=>rfl) (fun k=>k=w.heap.size)
    ⟨fun e=>by omega,fun e=>by omega,fun k e=>by subst e;exact .inr ⟨_,_,b4,by show 1<=64;decide⟩⟩
    (fun pre U V=>CmtAt w W4.heap.size (dirtyY c.V) pre U V) (fun _ _ _ _=>False) (CmtAt.st _ _ _) (fun _ _ _ _ _ _ h _ _=>h) (fun s U X hs=>hs.lts) ?ownR
    ⟨⟨none,0,b4,World.ownsRow_nil _ _ _ _,fun k=>⟨fun e => .inl e,fun e=>e.elim id (fun e=>by cases e)⟩⟩,(fun x hx=>by cases hx),hup4,by omega,Nat.le_refl _⟩ ?act ?assign ?body ?done ?stop
  case ownR =>
    rintro pre x _ X Y row ⟨e1,e2,y,e3,e4,e5,e6⟩ hgr hr
    exact⟨e1,e2,y,e3,e4,InB.ownFrom (B:=W4.heap.size) _ _ _ () X Y row e5 hgr hr,TyB.ownFrom (B:=W4.heap.size) _ () X Y row e6 hgr hr⟩
  case assign =>
    intro l1 x V K hK
    simp only[pgEnc]
    gi_wp2
    exact hK
  case body =>
    rintro l1 pre ⟨x1,A6,c6⟩ U V hI ⟨e1,_,y,e3,e4,e5,e6⟩
    have hpl:pre.length<=1000:=by
      have h3:=(List.getElem?_eq_some_iff.1 e1).1
      have h4:=keysV_len (dirtyF c.V) P
      omega
    obtain⟨Aw,cw,hb,own,hU⟩:=hI.has
    have k1:=hb.boxed
    have kf:=hb.free 0
    have hBa:Below V.heap.size V (V.alloc (.cells #[.int .i64 (x1:Int),.slice A6 512 c6] 92)):=(Below.refl _ V).alloc (Nat.le_refl _) _
    have owna:=ownG_grow own hBa
    have hin8:InG (V.alloc (.cells #[.int .i64 (x1:Int),.slice A6 512 c6] 92)) (V.alloc (.cells #[.int .i64 (x1:Int),.slice A6 512 c6] 92)).heap.size 2 (some ⟨V.heap.size,0,none⟩) 1 1 (pwC (pwO (x1,A6,c6))) :=
      ⟨Nat.le_refl _,by omega,(fun e=>by cases e),rfl,(by intro v hv;simp[pwC,pwO] at hv;rcases hv with rfl|rfl<;>rfl),fun _=>⟨V.heap.size,0,rfl,by simp,fun j v hj=>by
        rw[(BlkIs.new V 92 #[.int .i64 (x1:Int),.slice A6 512 c6]).cell,Nat.zero_add]
        simpa[pwC,pwO] using hj⟩⟩
    have hb4:=hI.b4
    have hba:W4.heap.size<=(V.alloc (.cells #[.int .i64 (x1:Int),.slice A6 512 c6] 92)).heap.size:=by have:=hBa.size;omega
    have hge:=ownG_ge owna
    have hNX:=fun (v5:Value) (w5:World) o5 g5 e5'=>hI.next (x:=(x1,A6,c6)) hb own hU ⟨y,e3,e4,e5,e6⟩ hBa (v5:=v5) (w5:=w5) o5 g5 e5'
    have bVa:=hb.below hBa hb.lt
    clear e1 e3 e4 e5 e6
    gi_wp2_with (gi_at_builtin;refine wpIn_appG2 rfl elPW (.tmp 19) (.tmp 23) rfl W4.heap.size (.slice Aw pre.length cw) pre.length (pwsC (pre.map pwO)) rfl owna _ _ 1 1 (pwC (pwO (x1,A6,c6))) rfl hin8 (by omega) (by unfold maxLen;omega) (by omega) hba ?_;intro v5 w5 own5 hg5 hv5;obtain⟨A5,k5,rfl,_⟩:=ownG_in own5 (fun v hv=>(List.mem_append.1 hv).elim (pwsC_one _ v) (pwC_one _ v));have b5:=bVa.grown hg5 (fun e=>by have:=hge _ e.symm;omega);have c5:=b5.boxed;have f5:=b5.free 0)
    exact hNX _ _ own5 hg5 hv5
  case done =>
    rintro D ys U V hD hYS hI hK
    obtain⟨L,hL⟩:∃L,L=dirtyL (rowsR c.V) P:=⟨_,rfl⟩
    have hLk:ys.map (·.1)=L.map (·.1):=by rw[hYS,hL,dirtyL_keys]
    have hLY:∀x∈L,dirtyY c.V (x.1:Int)=some x.2:=fun x hx=>by
      rw[hL] at hx
      exact rowsR_dirty.1 (dirtyL_mem.1 hx).2
    have hLl:L.length<=P:=by rw[hL];exact dirtyL_len _ _
    have hLp:∀k,k<L.length->(pwL L k).2.length=512:=fun k hk=>by
      unfold pwL
      rw[List.getElem?_eq_getElem hk]
      have h3:=hLY _ (List.getElem_mem hk)
      unfold dirtyY at h3
      cases hv:c.V (L[k].1:Int) with
      | none=>rw[hv] at h3;cases h3
      | some v =>
        rw[hv] at h3
        cases hd:v.d with
        | false=>simp[hd] at h3
        | true =>
          simp[hd] at h3
          rw[<-h3]
          exact hfull _ v hv
    obtain⟨Aw,cw,hbx,HA⟩:=hI.args L hLk hLY
    have hup:=hI.up
    have hV:CsIs W0 d f l a r many P fr pg room s S c V:=CfIs.grow h hup
    have hDl:=(Array.getElem?_eq_some_iff.1 hK).1
    have hGV:GrowBut (fun k=>sysMu d l a r c.V k∨w.heap.size<=k) w V:=GrowBut.below hup
    have HRS:=Lib.hid (show ∀x s' S',ComOut fr pg P s S L.length (fun k=>(ys.map pwO).getD k (0,none,0)) (pwL L) z x s' S'->L≠[]->CmRes fr pg P room s S c z w.heap.size x s' S' (cleanIf x c) from fun x s' S' hC hne=>by
      rw[hL] at hC hne
      exact .inl ⟨hne,_,fun k hk=>by have:=(HA.bys k (by rw[hL];exact hk)).1;rw[hL] at this;exact this,hC,rfl⟩)
    have HNL:=Lib.hid (show L=[]->dirtyL (rowsR c.V) P=[] from fun e=>by rw[<-hL];exact e)
    have hdl:=h.fh.lts
    have hw0V:=hup.size
    clear hYS hI hLk hLY hL hPg4 hKB hKY hq hms heo hso b4 hup4
    by_cases hne:L=[]
    case' pos =>
      have HNE:=HNL.out hne
      have HNE':=Lib.hid HNE
      subst hne
      clear HNE HRS HA hLp hLl
      have k1:=hbx.boxed
      have k0:V.cell? ⟨a,0,none⟩=some (.pointer (some ⟨f,0,none⟩)):=(hV.ca.cb.cell _).trans rfl
      have HSZ:=fsize_gives hV.fh.fb hV.fh.lg
      by_cases hz:z=S.sz
      · have hzb:(z == S.sz)=true:=by rw[hz];simp
        have HZ:=Lib.hid hz
        clear hz
        gi_wp2_with (first
          | (refine⟨trivial,?_⟩;gi_at_call 28;refine(callsIn_wide.2 HSZ).mono ?_;rintro e w' ⟨rfl,rfl⟩))
        refine⟨by simp,.inl ⟨D,_,rfl,run_takeDeferred hK,?_⟩⟩
        obtain⟨t1,t2⟩:=hV.taken hK (by omega) (.deferred none)
        exact⟨_,results_tmp rfl _ _ _,0,s,S,c,rfl,.inr (.inl ⟨HNE'.out,HZ.out,rfl,rfl,rfl,rfl⟩),t1,(hGV.trans (t2.more (fun k e _ => .inr (by omega)))).more (fun k e hk=>e.elim id (fun e=>by omega))⟩
      have hzb:(z == S.sz)=false:=by simpa using hz
      have HZ:=Lib.hid hz
      have HR:=sread_gives hV hT hc hroom hP2 hP 0
      clear hz
      gi_wp2_with (first
        | (refine⟨trivial,?_⟩;gi_at_call 28;refine(callsIn_wide.2 HSZ).mono ?_;rintro e w' ⟨rfl,rfl⟩))
      refine⟨trivial,?_⟩
      gi_at_call 7
      refine(callsIn_wide.2 HR).mono ?_
      rintro e V7 ⟨x7,c7,hR7,hE7,h7,hG7⟩
      have hGd:=laid_long hV.fh.dk
      have hK7:V7.heap[D]? = some (.deferred (some [])):=(hG7.block D hDl (fun e=>(CfIs.notDf hV hK).1 (.inr (.inr e)))).trans hK
      have bx7:=hG7.blk hbx (hV.ca.notTy hbx (by decide) (by decide))
      have hG7w:GrowBut (fun k=>sysMu d l a r c.V k∨w.heap.size<=k) w V7:=hGV.trans (hG7.more (fun k e _ => .inl (.inr (.inr e))))
      have hR7w:=hR7.mono hw0V
      have hV7:=hG7.size
      rcases x7 with er|y
      · have her:=hR7.err hGd hV.y5
        have heb:(er == 0)=false:=by simpa using her
        unfold RdE at hE7
        dsimp only at hE7
        subst hE7
        have HR7:=Lib.hid hR7w
        clear hR7 hR7w her
        gi_wp2
        refine⟨by simp,.inl ⟨D,_,rfl,run_takeDeferred hK7,?_⟩⟩
        obtain⟨t1,t2⟩:=CfIs.taken h7 hK7 (by omega) (.deferred none)
        exact⟨_,results_tmp rfl _ _ _,er,s,S,c7,rfl,.inr (.inr (.inl ⟨HNE'.out,HZ.out,rfl,rfl,HR7.out⟩)),t1,(hG7w.trans (t2.more (fun k e _ => .inr (by omega)))).more (fun k e hk=>e.elim id (fun e=>by omega))⟩
      have hy7:=hR7.len hfull hGd hV.y5
      obtain⟨A7,k7,rfl,hin7,hty7⟩:=hE7
      rw[hy7]
      have HR7:=Lib.hid hR7w
      have hnm7:=hR7w.names (a:=a) (r:=r)
      have HY7:=Lib.hid hy7
      have HCW:=fun v W=>cwrites_gives v W
      have k17:=bx7.boxed
      have f17:=bx7.free 0
      clear hR7 hR7w hy7
      obtain⟨V8,hV8⟩:∃V8,V8=V7.alloc (.cells #[.int .i64 0,.slice A7 512 k7] 92):=⟨_,rfl⟩
      have hB8:Below V7.heap.size V7 V8:=by rw[hV8];exact(Below.refl _ _).alloc (Nat.le_refl _) _
      have b8:BlkIs V8 V7.heap.size 92 (pwsC [((0:Int),A7,k7)]).toArray:=by rw[hV8];exact BlkIs.new V7 _ _
      have bx8:=bx7.below hB8 bx7.lt
      have k18:=bx8.boxed
      have f18:=bx8.free 0
      have h8:=CfIs.grow h7 hB8
      have hK8:V8.heap[D]? = some (.deferred (some [])):=(hB8.block D (by omega)).trans hK7
      have in8:=(hin7.below hB8).more hB8.size
      have ty8:=hty7.grow hB8
      have hG8w:=hG7w.trans (GrowBut.below hB8)
      have hs8:=hB8.size
      have HV8:=Lib.hid hV8.symm
      clear hV8 k17 f17
      gi_wp2_with (first
        | (refine⟨trivial,?_⟩;gi_at_call 29;rw[HV8.out];refine(callsIn_wide.2 (HCW _ _)).mono ?_;rintro e w' ⟨rfl,rfl⟩))
      have hGx:GrowBut (fun k=>k=w.heap.size) V8 (V8.setCell ⟨w.heap.size,0,none⟩ (.slice (some ⟨V7.heap.size,0,none⟩) 1 1)):=GrowBut.setCell _ _ _ rfl
      have bx9:=bx8.set 0 (.slice (some ⟨V7.heap.size,0,none⟩) 1 1)
      have h9:=CfIs.other h8 bx8 (by show 1<=64;decide) (fun n e=>by cases e) hw0 (by decide) (by decide) (by decide) (by decide) (by decide) hGx
      have hK9:(V8.setCell ⟨w.heap.size,0,none⟩ (.slice (some ⟨V7.heap.size,0,none⟩) 1 1)).heap[D]? = some (.deferred (some [])):=(hGx.block D (by omega) (by omega)).trans hK8
      have hG9w:=hG8w.trans (hGx.more (fun k e _ => .inr (by omega)))
      have b9:=hGx.blk b8 (by omega)
      obtain⟨in9,ty9⟩:=keepB hGx in8 ty8 (fun g cs hgb e=>by subst e;exact BlkIs.ne_type bx8 hgb (by decide) rfl)
      have a9:PwArgs (V8.setCell ⟨w.heap.size,0,none⟩ (.slice (some ⟨V7.heap.size,0,none⟩) 1 1)) V7.heap.size (some ⟨V7.heap.size,0,none⟩) 1 (fun k=>[((0:Int),A7,k7)].getD k (0,none,0)) (fun k=>[((0:Int),y)].getD k (0,[])) :=
        args_of [(0,A7,k7)] [(0,y)] b9 (Nat.le_refl _) (fun k hk=>by
          obtain rfl:k=0:=by simp at hk;omega
          exact⟨rfl,HY7.out,in9,ty9⟩)
      have hgs9:=hGx.size
      generalize V8.setCell ⟨w.heap.size,0,none⟩ (.slice (some ⟨V7.heap.size,0,none⟩) 1 1)=W8 at *
      rw[pwL_one] at a9
      have HCALL:∃v8,BlkIs W8 w.heap.size 87 #[v8]/\ComCall W0 d f l many fr pg z (fun x s' S'=>CmRes fr pg P room s S c z w.heap.size x s' S' (cleanIf x c7)) v8 W8.drew :=
        ⟨_,bx9,com_call (FhIs.grow h9.fh (Below.refl _ _).drew) hO hl hS hp hi hpl hm hmax hP hP2 z hNx (by decide) (a9.grow (Below.refl _ _).drew) (by omega) (by omega) _ (fun x s' S' hC => .inr (.inr (.inr ⟨HNE'.out,HZ.out,y,c7,_,HR7.out,rfl,hC,rfl⟩)))⟩
      have H8:=h9
      have HK8:=hK9
      have HG8:=hG9w
      have HNM:=hnm7
      clear a9 in9 ty9 in8 ty8 hin7 hty7 b8 b9 bx7 bx8 bx9 h7 h8 h9 hB8 hG7 hG8w hGx hK7 hK8 hK9 HR7 HY7 HV8 HSZ HCW hG7w hG9w k18 f18 k1 k0 hzb hbx hGV hV HNE' HZ hGd hK
    case' neg =>
      have hlb:((L.length:Int) == 0)=false:=by
        have:L.length≠0:=fun e=>hne (List.eq_nil_of_length_eq_zero e)
        simp
        omega
      have k1:=hbx.boxed
      obtain⟨c7,hc7⟩:∃c7,c7=c:=⟨_,rfl⟩
      have HCALL:∃v8,BlkIs V w.heap.size 87 #[v8]/\ComCall W0 d f l many fr pg z (fun x s' S'=>CmRes fr pg P room s S c z w.heap.size x s' S' (cleanIf x c7)) v8 V.drew :=
        ⟨_,hbx,com_call (FhIs.grow hV.fh (Below.refl _ _).drew) hO hl hS hp hi hpl hm hmax hP hP2 z hNx (by omega) (HA.grow (Below.refl _ _).drew) (by omega) (by omega) _ (fun x s' S' hC=>by rw[hc7];exact HRS.out x s' S' hC hne)⟩
      have H8:CsIs W0 d f l a r many P fr pg room s S c7 V:=by rw[hc7];exact hV
      have HNM:∀k,caMu a r c7.V k->caMu a r c.V k∨w.heap.size<=k:=fun k hk=>by rw[hc7] at hk;exact .inl hk
      have HK8:=hK
      have HG8:=hGV
      clear hc7 hne HRS HNL HA hLp
      gi_wp2_with fail
    all_goals
      obtain⟨v8,BX8,HC8⟩:=HCALL
      unfold ComCall at HC8
      have kb8:=BX8.boxed
      have k08:_=some (Value.pointer (some ⟨f,0,none⟩)):=(H8.ca.cb.cell 0).trans rfl
      have h8d:=CfIs.grow H8 (Below.refl _ _).drew
      have bx8d:=BX8.below (Below.refl _ _).drew BX8.lt
      have hsz8:=HG8.size
      have hnD8:=CfIs.notDf h8d HK8
      refine wpIn_wide.2 ?_
      refine wp_region_noPanic ?_
      refine RegF.start (fun W:World=>W.cell? ⟨a,0,none⟩=some (.pointer (some ⟨f,0,none⟩))/\W.cell? ⟨w.heap.size,0,none⟩=some v8) 99 (by kernel_rfl) ?_
      refine RegF.take0 0 (.pointer (some ⟨a,0,none⟩)) rfl (by kernel_rfl) (by kernel_rfl) (by kernel_rfl) rfl (fun _ _ _ h=>h) ⟨k08,kb8⟩ (RegF.yld rfl (fun W hW=>by obtain⟨e0,e1⟩:=hW;go_simp)) ?_
      simp only[List.getElem_toArray,List.getElem_cons_zero,Act.put,List.setIfInBounds_toArray,List.set_cons_zero,List.set_cons_succ]
      refine RegF.take0 1 (.pointer (some ⟨a,0,none⟩)) rfl (by kernel_rfl) (by kernel_rfl) (by kernel_rfl) rfl (fun _ _ _ h=>h) ⟨k08,kb8⟩ (RegF.yld rfl (fun W hW=>by obtain⟨e0,e1⟩:=hW;go_simp)) ?_
      simp only[List.getElem_toArray,List.getElem_cons_succ,List.getElem_cons_zero,Act.put,List.setIfInBounds_toArray,List.set_cons_zero,List.set_cons_succ]
      refine RegF.take0 2 (.pointer (some ⟨a,0,none⟩)) rfl (by kernel_rfl) (by kernel_rfl) (by kernel_rfl) rfl (fun _ _ _ h=>h) ⟨k08,kb8⟩ (RegF.yld rfl (fun W hW=>by obtain⟨e0,e1⟩:=hW;go_simp)) ?_
      simp only[List.getElem_toArray,List.getElem_cons_succ,List.getElem_cons_zero,Act.put,List.setIfInBounds_toArray,List.set_cons_zero,List.set_cons_succ]
      refine RegF.take0 3 (.pointer (some ⟨f,0,none⟩)) rfl (by kernel_rfl) (by kernel_rfl) (by kernel_rfl) rfl (fun _ _ _ h=>h) ⟨k08,kb8⟩ (RegF.yld rfl (fun W hW=>by obtain⟨e0,e1⟩:=hW;go_simp)) ?_
      simp only[List.getElem_toArray,List.getElem_cons_succ,List.getElem_cons_zero,Act.put,List.setIfInBounds_toArray,List.set_cons_zero,List.set_cons_succ]
      refine RegF.take0 4 (.int .i64 z) rfl (by kernel_rfl) (by kernel_rfl) (by kernel_rfl) rfl (fun _ _ _ h=>h) ⟨k08,kb8⟩ (RegF.yld rfl (fun W hW=>by obtain⟨e0,e1⟩:=hW;go_simp)) ?_
      simp only[List.getElem_toArray,List.getElem_cons_succ,List.getElem_cons_zero,Act.put,List.setIfInBounds_toArray,List.set_cons_zero,List.set_cons_succ]
      refine RegF.take0 5 (v8) rfl (by kernel_rfl) (by kernel_rfl) (by kernel_rfl) rfl (fun _ _ _ h=>h) ⟨k08,kb8⟩ (RegF.yld rfl (fun W hW=>by obtain⟨e0,e1⟩:=hW;go_simp)) ?_
      simp only[List.getElem_toArray,List.getElem_cons_succ,List.getElem_cons_zero,Act.put,List.setIfInBounds_toArray,List.set_cons_zero,List.set_cons_succ]
      refine RegF.one 6 (by kernel_rfl) ?_
      refine RegF.opC 30 #[.tmp 50,.tmp 51,.tmp 52] #[61,3,87] rfl rfl rfl (enters_of Tryz.func30 (by kernel_rfl) rfl) #[.pointer (some ⟨f,0,none⟩),.int .i64 z,v8] (by simp only[List.map_toArray,List.map_cons,List.map_nil];rfl) (HC8.mono ?_)
      rintro e w9 ⟨x,s9,S9,rfl,HRES,nz9,y59,hF9,hG9⟩
      have h9:=CfIs.turnF h8d hG9 hF9 nz9 y59
      have bx9:=hG9.blk bx8d (h8d.fh.ne bx8d (by decide) (by decide))
      have kb9:=bx9.boxed
      have k09:_=some (Value.pointer (some ⟨f,0,none⟩)):=(h9.ca.cb.cell 0).trans rfl
      have hDl8:=(Array.getElem?_eq_some_iff.1 HK8).1
      have hK9:=(hG9.block D hDl8 (fun e=>hnD8.1 (e.elim .inl (fun e => .inr (.inl e))))).trans HK8
      have hG9w:=(HG8.trans (GrowBut.below (Below.refl _ _).drew)).trans (hG9.more (Nu:=fun k=>sysMu d l a r c.V k∨w.heap.size<=k) (fun k e _ => .inl (e.elim .inl (fun e => .inr (.inl e)))))
      clear H8 h8d BX8 bx8d kb8 HC8 HK8 HG8 hnD8 hF9 nz9 y59 hG9 bx9 k08 hDl8
      refine⟨_,rfl,fun _=>⟨k09,kb9⟩,?_⟩
      simp only[List.getElem_toArray,List.getElem_cons_succ,List.getElem_cons_zero,Act.put,List.setIfInBounds_toArray,List.set_cons_zero,List.set_cons_succ]
      refine RegF.one 7 (by kernel_rfl) (RegF.opV (w':=w9) (.int .i64 x) rfl rfl (by go_simp) ⟨fun _=>⟨k09,kb9⟩,RegF.done (by kernel_rfl) ?_⟩)
      simp only[List.getElem_toArray,List.getElem_cons_succ,List.getElem_cons_zero,Act.put,List.setIfInBounds_toArray,List.set_cons_zero,List.set_cons_succ]
      simp only[NoPanic]
      have hs9:=hG9w.size
      have hDl9:=(Array.getElem?_eq_some_iff.1 hK9).1
      by_cases hx:x=0
      · have hxb:(x == 0)=true:=by rw[hx];rfl
        have HX:=Lib.hid hx
        clear hx
        obtain⟨es,clock,hmi,he,hst⟩:=h9.ca.mp
        have k39:w9.cell? ⟨a,3,none⟩=some (.map (some r)):=(h9.ca.cb.cell 3).trans rfl
        have hcl:∀x∈es.toList,x.born<clock:=((MapKept.stamped_iff es clock).1 hst).1
        have hrl:=hmi.lt
        obtain⟨W10,hW10⟩:∃W10,W10=w9.alloc (.mapIter (some r) clock #[] clock):=⟨_,rfl⟩
        have hB10:Below w9.heap.size w9 W10:=by rw[hW10];exact(Below.refl _ _).alloc (Nat.le_refl _) _
        have at0:CleanAt w9 w9.heap.size r clock es a f P room c7.now c7.hh c7.mm c7.V #[] (fun _=>false) W10:=⟨⟨clock,by rw[hW10];exact heap_alloc_new w9 _,Nat.le_refl _⟩,SeenIs.start es,by rw[cleanTo_start];exact h9.ca.below hB10,hmi.below hB10 hrl,GrowBut.below hB10,by rw[hW10];simp⟩
        have HW10:=Lib.hid hW10.symm
        clear hW10 hB10 k09 kb9
        gi_wp2_with (refine wpV_exec rfl (x_range hmi Tryz.underlying70 rfl rfl) ?_;rw[HW10.out])
        simp only[Act.put,List.setIfInBounds_toArray,List.set_cons_zero,List.set_cons_succ]
        gi_loopw [61] (fun _ wr=>∃seen pd,CleanAt w9 w9.heap.size r clock es a f P room c7.now c7.hh c7.mm c7.V seen pd wr) (fun _ wr=>wr.rangeLeft r w9.heap.size)
        case atStart=>exact⟨_,_,at0⟩
        case round =>
          obtain⟨seen,pd,hA⟩:=hrel
          rcases iterV 0 hA.it hA.mp he hst hcl (Nat.le_refl _) hrl hA.sz hA.sn with⟨hall,hrun⟩|⟨k,xv,b,w4,hk,hpk,hrun,hit4,hB4',hdec,hent,hsn4⟩
          · have hcm:=cleanTo_fin hall
            have hca:=hA.ca
            rw[hcm] at hca
            have hgb:=hA.gb
            have hKr:wr.heap[D]? = some (.deferred (some [])):=(hgb.block D hDl9 (fun e=>(CfIs.notDf h9 hK9).1 (.inr (.inr e)))).trans hK9
            have hfin:=CfIs.turn h9 hgb hca (fun k hk => .inl (caMu_clean k hk))
            clear hcm hall
            gi_wp2_with (refine wpV_exec rfl (x_next hrun rfl) ?_)
            refine⟨by simp,.inl ⟨D,_,rfl,run_takeDeferred hKr,?_⟩⟩
            obtain⟨t1,t2⟩:=CfIs.taken hfin hKr (by omega) (.deferred none)
            have hgall:=(hG9w.trans (hgb.more (Nu:=fun k=>sysMu d l a r c.V k∨w.heap.size<=k) (fun k e _=>(HNM k e).elim (fun e => .inl (.inr (.inr e))) .inr))).trans (t2.more (fun k e _ => .inr (by omega)))
            have hce:cleanIf x c7=⟨c7.now,c7.hh,c7.mm,cleanV c7.V⟩:=by unfold cleanIf;rw[if_pos HX.out]
            exact⟨_,results_tmp rfl _ _ _,x,s9,S9,cleanIf x c7,rfl,HRES,by rw[hce];exact t1,hgall.more (fun k e hk=>e.elim id (fun e=>by omega))⟩
          · obtain⟨v,hv,rfl⟩:=ptrV_ptr hk
            have hvb:=(h9.ca.rows k v hv).blk.lt
            obtain⟨hca4,hgb4⟩:=hA.iter h9.ca hB4'
            obtain⟨hA5,hrl5⟩:=hA.next hv hpk hvb hrl hit4 hB4' (.inr trivial) hsn4 hca4 hgb4
            have hr4:=hca4.rows k v (cleanTo_not hv hpk)
            have k24:w4.cell? ⟨v.b,2,none⟩=some (.bool v.d):=(hr4.blk.cell 2).trans rfl
            have f24:=hr4.blk.free 2
            have hd5:(w4.setCell ⟨v.b,2,none⟩ (.bool false)).rangeLeft r w9.heap.size<wr.rangeLeft r w9.heap.size:=by rw[hrl5];exact hdec
            have HA5:Hid (∃seen pd,CleanAt w9 w9.heap.size r clock es a f P room c7.now c7.hh c7.mm c7.V seen pd (w4.setCell ⟨v.b,2,none⟩ (.bool false))):=Lib.hid ⟨_,_,hA5⟩
            clear hca4 hgb4 hA5 hrl5 hr4 hA
            gi_wp2_with (first
              | (refine wpV_exec rfl (x_next hrun rfl) ?_)
              | (refine wpV_exec rfl (x_entry hent rfl) ?_))
            go_roundw
            case rel=>exact HA5.out
            case measure=>exact hd5
      · have hxb:(x == 0)=false:=by simpa using hx
        have hce:cleanIf x c7=c7:=by unfold cleanIf;rw[if_neg hx]
        have HCE:=Lib.hid hce
        clear hce hx
        gi_wp2
        refine⟨by simp,.inl ⟨D,_,rfl,run_takeDeferred hK9,?_⟩⟩
        obtain⟨t1,t2⟩:=CfIs.taken h9 hK9 (by omega) (.deferred none)
        exact⟨_,results_tmp rfl _ _ _,x,s9,S9,cleanIf x c7,rfl,HRES,by rw[HCE.out];exact t1,(hG9w.trans (t2.more (fun k e _ => .inr (by omega)))).more (fun k e hk=>e.elim id (fun e=>by omega))⟩
  case stop =>
    rintro D c pre U V _ _ h _
    exact h.elim
end
end Go.Proofs.YtmllnpjldmdaeaaGreat
namespace Go.Proofs.YtmllnpjldmdaeaaGreat
open Go Go.RowKit Lou
def dropTo (pd:Int->Bool)(V:RowsV):RowsV:=fun k=>match V k with|some v=>if pd k && v.d then none else some v|none=>none
def dropV (V:RowsV):RowsV:=fun k=>match V k with|some v=>if v.d then none else some v|none=>none
theorem dropTo_start (V:RowsV):dropTo (fun _=>false) V=V:=by
  funext k
  unfold dropTo
  cases V k<;>rfl
theorem dropTo_of {pd:Int->Bool}{V:RowsV}{k:Int}{v:RowV}(h:dropTo pd V k=some v):V k=some v/\(pd k=true->v.d=false):=by
  unfold dropTo at h
  cases hv:V k with
  | none=>rw[hv] at h;cases h
  | some u =>
    rw[hv] at h
    simp only at h
    split at h
    · cases h
    · rename_i hn
      injection h with h
      subst h
      refine⟨rfl,fun hp => ?_⟩
      cases hd:u.d with
      | false=>rfl
      | true=>exact absurd (by simp[hp,hd]) hn
theorem dropTo_keep {pd:Int->Bool}{V:RowsV}{k:Int}{v:RowV}(h:V k=some v)(hd:v.d=false):dropTo (pdPush pd k) V=dropTo pd V:=by
  funext j
  unfold dropTo
  by_cases e:j=k
  · subst e
    rw[h]
    simp[hd]
  · rw[pdPush_ne e]
theorem dropTo_del {pd:Int->Bool}{V:RowsV}{k:Int}{v:RowV}(h:V k=some v)(hd:v.d=true):dropTo (pdPush pd k) V=updV (dropTo pd V) k none:=by
  funext j
  unfold dropTo updV
  by_cases e:j=k
  · subst e
    rw[if_pos rfl,h,pdPush_self]
    simp[hd]
  · rw[if_neg e,pdPush_ne e]
theorem dropTo_fin {pd:Int->Bool}{V:RowsV}(h:∀k x,ptrV (dropTo pd V) k=some x->pd k=true):dropTo pd V=dropV V:=by
  funext k
  cases hv:V k with
  | none=>unfold dropTo dropV;rw[hv]
  | some v =>
    cases hd:v.d with
    | false=>unfold dropTo dropV;rw[hv];simp[hd]
    | true =>
      cases hp:pd k with
      | true=>unfold dropTo dropV;rw[hv];simp[hd,hp]
      | false =>
        have h1:dropTo pd V k=some v:=by unfold dropTo;rw[hv];simp[hp]
        have:=h k _ (ptrV_some h1)
        rw[hp] at this
        cases this
theorem dropV_of {V:RowsV}{k:Int}{v:RowV}(h:dropV V k=some v):V k=some v/\v.d=false:=by
  unfold dropV at h
  cases hv:V k with
  | none=>rw[hv] at h;cases h
  | some u =>
    rw[hv] at h
    simp only at h
    split at h
    · cases h
    · rename_i hn
      injection h with h
      subst h
      exact⟨rfl,by simpa using hn⟩
theorem caMu_sub {a r:Nat}{V V':RowsV}(h:∀k v,V' k=some v->V k=some v):∀k,caMu a r V' k->caMu a r V k:=fun k hk=>by
  rcases hk with hk|hk|⟨j,u,hu,e⟩
  · exact .inl hk
  · exact .inr (.inl hk)
  · exact .inr (.inr ⟨j,u,h j u hu,e⟩)
structure DropAt (W9:World)(h r clock:Nat)(a f P:Nat)(room now hh mm:Int)(V:RowsV)(es:Array MapEntry)(seen:Array Nat)(pd:Int->Bool)(W:World):Prop where
  it:IterAt W h r clock seen
  sn:SeenIs es seen pd
  mp:MapIs W r es clock
  ev:EnV es (ptrV (dropTo pd V))
  st:MapKept.Stamped es clock
  ca:CaIs W a f r P room now hh mm (dropTo pd V)
  gb:GrowBut (caMu a r V) W9 W
  sz:h<W.heap.size
theorem DropAt.iter {W9 w w4:World}{r clock:Nat}{es:Array MapEntry}{a f P:Nat}{room now hh mm:Int}{V:RowsV}{seen:Array Nat}{pd:Int->Bool}(hc:DropAt W9 W9.heap.size r clock a f P room now hh mm V es seen pd w)(h9:CaIs W9 a f r P room now hh mm V)(hB:Below W9.heap.size w w4):CaIs w4 a f r P room now hh mm (dropTo pd V)/\GrowBut (caMu a r V) W9 w4:=by
  refine⟨hc.ca.belowN hB (fun k hk=>h9.lts k (caMu_sub (fun k v h=>(dropTo_of h).1) k hk)) (fun k v hv g o e h0 => ?_),⟨hB.os.trans hc.gb.os,hB.tape.trans hc.gb.tape,hB.output.trans hc.gb.output,Nat.le_trans hc.gb.size hB.size,fun i hi hn=>(hB.block i hi).trans (hc.gb.block i hi hn)⟩⟩
  have hb:=(h9.rows k v (dropTo_of hv).1).bys
  obtain⟨g',o',e',hg,_⟩:=hb.lies h0
  rw[e'] at e
  injection e with e
  injection e with e1 e2
  omega
theorem leftSize {w:World}{m r clock since:Nat}{es:Array MapEntry}{seen:Array Nat}(hm:MapIs w m es clock)(hi:IterAt w r m since seen):w.rangeLeft m r=(leftOf es seen).size:=by
  obtain⟨c0,h1,_⟩:=hi
  have h2:w.heap[m]? = some (.map es clock):=hm
  unfold World.rangeLeft
  rw[h2,h1]
theorem dirtyQ_gives {W:World}{v:RowV}(k:Int)(hb:BlkIs W v.b 85 (rowC v)):Calls Tryz.prog 32 #[.int .i64 k,.pointer (some ⟨v.b,0,none⟩)] W fun e w'=>e = .returned (.bool v.d)/\W=w':=by
  have k2:W.cell? ⟨v.b,2,none⟩=some (.bool v.d):=by rw[hb.cell];rfl
  go_enter Tryz.func32,Tryz.ntmps32
  go_wp2
  go_ret
  exact⟨rfl,rfl⟩
section
variable {w:World}{a f r P:Nat}{room now hh mm:Int}{V:RowsV}
theorem opDel2 {ops:Array Oper}{Q:Exit->Act->World->Prop}{ac:Act}{w:World}{r clock:Nat}{k:Int}{es:Array MapEntry}{f:Int->Option Value}{x y:Operand}{o:Oper}{rest:List Oper}(hg:o.guard=none)(hop:o.op = .call { callee:=.builtin .delete,args:=#[x,y],argTypes:=#[70,3] })(h1:ac.eval x = .map (some r))(h2:ac.eval y = .int .i64 k)(he:EnV es f)(hst:MapKept.Stamped es clock)(hm:MapIs w r es clock)
    (h:∀es',EnV es' (fsetV f k none)->MapKept.Stamped es' clock->es'.toList.Sublist es.toList->wpList Tryz.prog ops Q rest (ac.put o.dst (.tuple #[])) (setMap w r es' clock)):wpList Tryz.prog ops Q (o::rest) ac w:=by
  obtain⟨es',hr,he',hs',hsub⟩:=x_delT2 (ρ:=ac.eval) (o:=o) Tryz.underlying70 he hst hm hop h1 h2
  exact wp_exec hg hr (h es' he' hs' hsub)
theorem delFunc_gives (h:CaIs w a f r P room now hh mm V) :
    Calls Tryz.prog 31 #[.map (some r),.func (.func 32) #[] #[]] w fun e w'=>(∃v,e = .returned v)/\CaIs w' a f r P room now hh mm (dropV V)/\GrowBut (caMu a r V) w w':=by
  obtain⟨es,clock,hmi,he,hst⟩:=h.mp
  have hrl:=hmi.lt
  obtain⟨W1,hW1⟩:∃W1,W1=w.alloc (.mapIter (some r) clock #[] clock):=⟨_,rfl⟩
  have hB1:Below w.heap.size w W1:=by rw[hW1];exact(Below.refl _ _).alloc (Nat.le_refl _) _
  have at0:DropAt w w.heap.size r clock a f P room now hh mm V es #[] (fun _=>false) W1:=⟨⟨clock,by rw[hW1];exact heap_alloc_new w _,Nat.le_refl _⟩,SeenIs.start es,hmi.below hB1 hrl,by rw[dropTo_start];exact he,hst,by rw[dropTo_start];exact h.below hB1,GrowBut.below hB1,by rw[hW1];simp⟩
  have HW1:=Lib.hid hW1.symm
  clear hW1 hB1
  go_enter Tryz.func31,Tryz.ntmps31
  go_wp2_with (refine wp_exec rfl (x_range hmi Tryz.underlying70 rfl rfl) ?_;rw[HW1.out])
  simp only[Act.put,List.setIfInBounds_toArray,List.set_cons_zero,List.set_cons_succ]
  go_loopw [8] (fun _ wr=>∃es seen pd,DropAt w w.heap.size r clock a f P room now hh mm V es seen pd wr) (fun _ wr=>wr.rangeLeft r w.heap.size)
  case atStart=>exact⟨_,_,_,at0⟩
  case round =>
    clear hmi he hst at0 es
    obtain⟨es,seen,pd,hA⟩:=hrel
    have hcl:∀x∈es.toList,x.born<clock:=((MapKept.stamped_iff es clock).1 hA.st).1
    rcases iterV 0 hA.it hA.mp hA.ev hA.st hcl (Nat.le_refl _) hrl hA.sz hA.sn with⟨hall,hrun⟩|⟨k,xv,b,w4,hk,hpk,hrun,hit4,hB4,hdec,hent,hsn4⟩
    · have hca:=hA.ca
      rw[dropTo_fin hall] at hca
      have hgb:=hA.gb
      clear hall
      go_wp2_with (refine wp_exec rfl (x_next hrun rfl) ?_)
      go_end0
      exact⟨⟨_,rfl⟩,hca,hgb⟩
    · obtain⟨v,hv,rfl⟩:=ptrV_ptr hk
      obtain⟨hv0,_⟩:=dropTo_of hv
      obtain⟨hca4,hgb4⟩:=hA.iter h hB4
      have hm4:=hA.mp.below hB4 hrl
      have hev:=hA.ev
      have hsz:=hA.sz
      have hst:=hA.st
      have hQ:=dirtyQ_gives k (hca4.rows k v hv).blk
      have hl4:=leftSize hm4 hit4
      cases hd:v.d with
      | false =>
        rw[hd] at hQ
        have hkp:=dropTo_keep (pd:=pd) hv0 hd
        have at4:DropAt w w.heap.size r clock a f P room now hh mm V es (seen.push b) (pdPush pd k) w4:=⟨hit4,hsn4,hm4,by rw[hkp];exact hev,hst,by rw[hkp];exact hca4,hgb4,Nat.lt_of_lt_of_le hsz hB4.size⟩
        clear hkp hd hA hev hst hca4 hgb4 hm4 hl4
        go_wp2_with (first
          | (refine wp_exec rfl (x_next hrun rfl) ?_)
          | (refine wp_exec rfl (x_entry hent rfl) ?_)
          | (refine hQ.mono ?_;rintro e w' ⟨rfl,rfl⟩))
        exact⟨⟨_,_,_,at4⟩,hdec⟩
      | true =>
        rw[hd] at hQ
        have hdl:=dropTo_del (pd:=pd) hv0 hd
        have HDL:=Lib.hid hdl
        have HHD:=Lib.hid hd
        have hs4:w.heap.size<w4.heap.size:=Nat.lt_of_lt_of_le hsz hB4.size
        have hfin:∀es',EnV es' (fsetV (ptrV (dropTo pd V)) k none)->MapKept.Stamped es' clock->es'.toList.Sublist es.toList->(∃es seen pd,DropAt w w.heap.size r clock a f P room now hh mm V es seen pd (setMap w4 r es' clock))/\(setMap w4 r es' clock).rangeLeft r w.heap.size<wr.rangeLeft r w.heap.size:=fun es' he' hs' hsub=>by
          obtain⟨hc5,hg5⟩:=hca4.del k hm4 es' clock he' hs'
          have hm5:=hm4.set es' clock
          have e1:=hg5.block w.heap.size hs4 (by omega)
          have hi5:=hit4.keep e1
          have hsn5:=hsn4.sub (fun x hx=>hsub.subset hx)
          refine⟨⟨es',seen.push b,pdPush pd k,hi5,hsn5,hm5,by rw[HDL.out,ptrV_upd];exact he',hs',by rw[HDL.out];exact hc5,hgb4.trans (hg5.more (fun j e _ => .inr (.inl e))),Nat.lt_of_lt_of_le hs4 hg5.size⟩,?_⟩
          rw[leftSize hm5 hi5]
          have:=leftOf_sub (seen.push b) hsub
          omega
        clear hdl hd hA hca4 hgb4 hl4
        go_wp2_with (first
          | (refine wp_exec rfl (x_next hrun rfl) ?_)
          | (refine wp_exec rfl (x_entry hent rfl) ?_)
          | (refine opDel2 rfl rfl rfl rfl hev hst hm4 ?_;intro es' he' hs' hsub;have HF:=Lib.hid (hfin es' he' hs' hsub);simp only[Act.put])
          | (refine hQ.mono ?_;rintro e w' ⟨rfl,rfl⟩))
        exact HF.out
theorem cdrop_gives (h:CaIs w a f r P room now hh mm V):Calls Tryz.prog 12 #[.pointer (some ⟨a,0,none⟩)] w fun e w'=>e = .returned (.int .i64 0)/\CaIs w' a f r P room now hh mm (dropV V)/\GrowBut (caMu a r V) w w':=by
  have HN:=cnone_gives h.cb
  have HD:=delFunc_gives h
  have k3:w.cell? ⟨a,3,none⟩=some (.map (some r)):=(h.cb.cell _).trans rfl
  go_enter Tryz.func12,Tryz.ntmps12
  go_wp2_with (first
    | (go_at_call 21;refine HN.mono ?_;rintro e w' ⟨rfl,rfl⟩)
    | (go_at_call 31;refine HD.mono ?_;rintro e w2 ⟨⟨v,rfl⟩,hC,hG⟩))
  go_ret
  exact⟨rfl,hC,hG⟩
theorem chas_gives (h:CaIs w a f r P room now hh mm V)(page:Int):Calls Tryz.prog 14 #[.pointer (some ⟨a,0,none⟩),.int .i64 page] w fun e w'=>e = .returned (.bool (V page).isSome)/\w=w':=by
  have HN:=cnone_gives h.cb
  have k3:w.cell? ⟨a,3,none⟩=some (.map (some r)):=(h.cb.cell _).trans rfl
  obtain⟨es,clock,hmi,he,hst⟩:=h.mp
  cases hv:V page with
  | none =>
    have hl:=ptrV_none hv
    go_enter Tryz.func14,Tryz.ntmps14
    go_wp2_with (first
      | (go_at_call 21;refine HN.mono ?_;rintro e w' ⟨rfl,rfl⟩)
      | (refine wp_execG (by first|rfl|simp[Region.wanted,yielded]) (look0R he hmi hl rfl rfl rfl) ?_))
    go_ret
    exact⟨rfl,rfl⟩
  | some v =>
    have hl:=ptrV_some hv
    go_enter Tryz.func14,Tryz.ntmps14
    go_wp2_with (first
      | (go_at_call 21;refine HN.mono ?_;rintro e w' ⟨rfl,rfl⟩)
      | (refine wp_execG (by first|rfl|simp[Region.wanted,yielded]) (lookR he hmi hl rfl rfl rfl) ?_))
    go_ret
    exact⟨rfl,rfl⟩
end
theorem rowsR_upd (V:RowsV)(k:Int)(v:RowV):rowsR (updV V k (some v))=rowsPut (rowsR V) k (v.y,v.d):=by
  funext j
  unfold rowsR updV rowsPut
  split<;>rfl
theorem rowsR_none {V:RowsV}{k:Int}(h:V k=none):rowsR V k=none:=by unfold rowsR;rw[h];rfl
theorem rowsR_some {V:RowsV}{k:Int}{v:RowV}(h:V k=some v):rowsR V k=some (v.y,v.d):=by unfold rowsR;rw[h];rfl
theorem MadeRoom.cut {P:Nat}{room:Int}{V V1:RowsV}(h:MadeRoom P room V V1):RowsCut (rowsR V) (rowsR V1):=by
  rcases h with⟨_,rfl⟩|⟨_,k0,v0,h1,h2,_,rfl⟩
  · exact .inl rfl
  · refine .inr ⟨k0,v0.y,by rw[rowsR_some h1,h2],?_⟩
    funext j
    unfold rowsR updV
    split<;>rfl
theorem RowsCut.none {R R':RowsC}(hc:RowsCut R R'){p:Int}(h:R p=none):R' p=none:=by
  rcases hc with rfl|⟨k,c,_,rfl⟩
  · exact h
  · simp only
    split
    · rfl
    · exact h
def FullV (V:RowsV):Prop:=∀k v,V k=some v->v.y.length=512
theorem RowsOk.full {P:Nat}{Y:Nat->List UInt8}{V:RowsV}(h:RowsOk P Y (rowsR V)):FullV V:=fun k v hv=>(h k v.y v.d (rowsR_some hv)).2.1
theorem DirtySame.symm {R1 R2:RowsC}(h:DirtySame R1 R2):DirtySame R2 R1:=fun p b=>(h p b).symm
theorem DirtySame.trans {R1 R2 R3:RowsC}(h:DirtySame R1 R2)(k:DirtySame R2 R3):DirtySame R1 R3:=fun p b=>(h p b).trans (k p b)
section
variable {fr pg room:Int}{P:Nat}{G:Nat->List UInt8}{S:LgS}{c c':CaSt}{i:Nat}
theorem RdP.plain {p:Int}{sz:Nat}{x:Int ⊕ List UInt8}(hY:∀q,(fileY G fr S q).length=512)(hP:(P:Int)=pg)(hR:RowsOk P (fileY G fr S) (rowsR c.V))(h:RdP P room c p (fileR fr pg ⟨G,[],0,false⟩ S p) sz x c') :
    RowsOk P (fileY G fr S) (rowsR c'.V)/\DirtySame (rowsR c'.V) (rowsR c.V)/\∀y,x = .inr y->(0<=p/\p<(P:Int))/\y=viewC (fileY G fr S) (rowsR c.V) p.toNat:=by
  rcases h with⟨v,h1,rfl,rfl⟩|⟨h1,er,h2,rfl,rfl⟩|⟨h1,y,h2,h3,rfl,rfl⟩|⟨h1,y,V1,b,A1,c1,h2,h3,h4,rfl,rfl⟩
  · have hs:rowsR (updV c.V p (some { v with at_:=c.now+1 }))=rowsR c.V:=by
      rw[rowsR_upd]
      funext j
      unfold rowsPut
      split
      · rename_i e
        rw[e,rowsR_some h1]
      · rfl
    simp only[hs]
    have hk:=hR p v.y v.d (rowsR_some h1)
    refine⟨hR,fun _ _=>Iff.rfl,fun y e=>⟨hk.1,?_⟩⟩
    injection e with e
    subst e
    have e1:((p.toNat:Nat):Int)=p:=by omega
    have:=hR.view (p:=p.toNat) (b:=v.y) (d:=v.d) (by rw[e1];exact rowsR_some h1)
    exact this.symm
  · exact⟨hR,fun _ _=>Iff.rfl,fun y e=>by cases e⟩
  · exact⟨hR,fun _ _=>Iff.rfl,fun y e=>by cases e⟩
  · have hcut:=h3.cut
    have hn:=hcut.none (rowsR_none h1)
    have hin:(0<=p/\p<pg)/\y=fileY G fr S p.toNat:=by
      by_cases hp:p<0∨pg<=p
      · rw[fileR_out hp] at h2;cases h2
      · rw[fileR_in rfl (by omega)] at h2
        injection h2 with h2
        exact⟨by omega,h2.symm⟩
    have hpP:0<=p/\p<(P:Int):=by omega
    simp only[rowsR_upd]
    refine⟨(hcut.ok hR).put hpP (by rw[hin.2];exact hY _) (fun _=>hin.2),fun q b => ?_,fun z e=>⟨hpP,?_⟩⟩
    · exact(put_clean (fun b e=>by rw[hn] at e;cases e) q b).trans (hcut.dirty q b)
    · injection e with e
      subst e
      rw[hin.2]
      unfold viewC
      have e1:((p.toNat:Nat):Int)=p:=by omega
      rw[e1,rowsR_none h1]
def WrP (P:Nat)(room pg:Int)(c:CaSt)(page:Int)(y:List UInt8)(sz:Nat)(x:Int)(c':CaSt):Prop :=
  ((page<0∨pg<=page)/\x=4/\c'=c)∨((0<=page/\page<pg)/\c.V page=none/\NoRoom P room c.V/\x=160/\c'=c) ∨
  ((0<=page/\page<pg)/\∃V1 b A1 c1,Took P room c.V V1 page b sz/\x=0/\c'=⟨c.now+1,c.hh,c.mm,updV V1 page (some ⟨b,c.now+1,A1,c1,y,true⟩)⟩)
theorem Took.cut {P:Nat}{room:Int}{V V1:RowsV}{page:Int}{b sz:Nat}(h:Took P room V V1 page b sz):RowsCut (rowsR V) (rowsR V1):=by
  rcases h with⟨v,_,_,rfl⟩|⟨_,h,_⟩
  · exact .inl rfl
  · exact h.cut
theorem WrP.plain {p:Int}{y:List UInt8}{sz:Nat}{x:Int}(hy:y.length=512)(hP:(P:Int)=pg)(hR:RowsOk P (fileY G fr S) (rowsR c.V))(h:WrP P room pg c p y sz x c') :
    RowsOk P (fileY G fr S) (rowsR c'.V)/\((x=0/\DirtySame (rowsR c'.V) (rowsPut (rowsR c.V) p (y,true)))∨(¬ x=0/\c'=c)):=by
  rcases h with⟨_,rfl,rfl⟩|⟨_,_,_,rfl,rfl⟩|⟨hp,V1,b,A1,c1,h1,rfl,rfl⟩
  · exact⟨hR,.inr ⟨by decide,rfl⟩⟩
  · exact⟨hR,.inr ⟨by decide,rfl⟩⟩
  · have hcut:=h1.cut
    simp only[rowsR_upd]
    refine⟨(hcut.ok hR).put (by omega) hy (fun e=>by cases e),.inl ⟨trivial,fun q b => ?_⟩⟩
    unfold rowsPut
    split
    · exact Iff.rfl
    · exact hcut.dirty q b
theorem WrP.ok {p:Int}{y:List UInt8}{sz N:Nat}{x:Int}(h:WrP P room pg c p y sz x c')(hc:c.Ok N):c'.Ok (N+1):=by
  obtain⟨h1,h2,h3⟩:=hc
  rcases h with⟨_,rfl,rfl⟩|⟨_,_,_,rfl,rfl⟩|⟨hp,V1,b,A1,c1,_,rfl,rfl⟩
  all_goals exact⟨by first|omega|(simp only;omega),by first|omega|(simp only;omega),by first|omega|(simp only;omega)⟩
theorem WrP.names {p:Int}{y:List UInt8}{n:Nat}{x:Int}{a r:Nat}(h:WrP P room pg c p y n x c'):∀k,caMu a r c'.V k->caMu a r c.V k∨n<=k:=by
  rcases h with⟨_,rfl,rfl⟩|⟨_,_,_,rfl,rfl⟩|⟨hp,V1,b,A1,c1,h1,rfl,rfl⟩
  · exact fun k hk => .inl hk
  · exact fun k hk => .inl hk
  · rcases h1 with⟨v,h2,h3,rfl⟩|⟨h2,h3,h4⟩
    · exact caMu_upd (fun k u h=>h) rfl (.inl ⟨v,h2,h3⟩)
    · exact caMu_upd (fun k u h=>h3.sub h) rfl (.inr h4)
theorem dropV_plain (hR:RowsOk P (fileY G fr S) (rowsR c.V)):RowsOk P (fileY G fr S) (rowsR (dropV c.V))/\∀p b,¬ rowsR (dropV c.V) p=some (b,true):=by
  have key:∀p b d,rowsR (dropV c.V) p=some (b,d)->rowsR c.V p=some (b,d)/\d=false:=fun p b d h=>by
    unfold rowsR at h
    cases hv:dropV c.V p with
    | none=>rw[hv] at h;cases h
    | some v =>
      obtain⟨h1,h2⟩:=dropV_of hv
      rw[hv,Option.map_some] at h
      injection h with h
      injection h with h3 h4
      rw[rowsR_some h1,h3,h4]
      exact⟨rfl,by rw[<-h4,h2]⟩
  exact⟨fun p b d h=>hR p b d (key p b d h).1,fun p b h=>by have:=(key p b true h).2;cases this⟩
theorem lowB_inj {a b:Int}(h:lowB a=lowB b)(ha:0<=a/\a<=255)(hb:0<=b/\b<=255):a=b:=by
  have h1:=lowB_wrap a
  have h2:=lowB_wrap b
  rw[h,<-h2] at h1
  have e:∀z:Int,0<=z/\z<=255->IntKind.u8.wrap z=z:=fun z hz=>by
    show z % 256=z
    omega
  rw[e a ha,e b hb] at h1
  exact h1
theorem rowsR_clean (V:RowsV)(p:Int):rowsR (cleanV V) p=(rowsR V p).map fun x=>(x.1,false):=by
  unfold rowsR cleanV
  cases V p<;>rfl
theorem com_told {n:Nat}{xs:Nat->Int×Option Addr×Nat}{pw:Nat->Int×List UInt8}{z x:Int}{s':DS}{S':LgS}(hS:StP fr pg G S i)(hp:PgIn pg S)(hi:i<=900)(hpl:planOk fr pg=true)(hpg:pg<=200)(hx:∀k,k<n->(pw k).1=(xs k).1)(hy:∀k,k<n->(pw k).2.length=512)(hC:ComOut fr pg P ⟨G,[],0,false⟩ S n xs pw z x s' S') :
    ∃G',s'=⟨G',[],0,false⟩/\StP fr pg G' S' (i+2)/\PgIn pg S'/\comX fr pg z n pw x/\((x=0/\S'.sz=z/\∀p,p<P->fileY G' fr S' p=(lastPw pw (p:Int) n).getD (fileY G fr S p))∨(¬ x=0/\S'.sz=S.sz/\∀p,p<P->fileY G' fr S' p=fileY G fr S p)):=by
  obtain⟨G',rfl,hS',hp',hq⟩:=com_plain hS hp hi hpl hx hy hC
  obtain⟨hz1,hL1⟩:=hS.li
  obtain⟨hz2,hL2⟩:=hS'.li
  have hsz:=hS'.sz
  have hsz0:=hS.sz
  refine⟨G',rfl,hS',hp',comX_of hC hpl hx (by rcases hq with⟨a,b,_⟩|⟨a,b,_⟩;exact .inl ⟨a,b⟩;exact .inr ⟨a,b⟩),?_⟩
  rcases hq with⟨h1,h2,h3⟩|⟨h1,h2,h3⟩
  · have h4:=tell_pages hL1.len hS.y hL2.len hS'.y hy h3
    exact .inl ⟨h1,lowB_inj h4.1 ⟨hsz.1,by omega⟩ ⟨h2.1.2.1,by have:=h2.1.2.2.1;omega⟩,h4.2⟩
  · have h4:=toldF_inj (fun k=>fpY_len hL2.len hS'.y _ _) (fun k=>fpY_len hL1.len hS.y _ _) P h3
    exact .inr ⟨h1,lowB_inj h4.1 ⟨hsz.1,by omega⟩ ⟨hsz0.1,by omega⟩,h4.2⟩
def CmT (fr pg:Int)(P:Nat)(z:Int)(G:Nat->List UInt8)(S:LgS)(R:RowsC)(x:Int)(G':Nat->List UInt8)(S':LgS)(R':RowsC):Prop :=
  RowsOk P (fileY G' fr S') R' /\
  ((x=0/\S'.sz=z/\(∀p,p<P->fileY G' fr S' p=viewC (fileY G fr S) R p)/\∀p b,¬ R' p=some (b,true))∨(¬ x=0/\S'.sz=S.sz/\(∀p,p<P->fileY G' fr S' p=fileY G fr S p)/\DirtySame R' R)) /\
  ((dirtyL R P≠[]/\comX fr pg z (dirtyL R P).length (pwL (dirtyL R P)) x)∨(dirtyL R P=[]/\z=S.sz/\x=0)∨(dirtyL R P=[]/\¬ z=S.sz/\(x=160∨comX fr pg z 1 (pwL [(0,fileY G fr S 0)]) x)))
theorem clean_ok {Y Y':Nat->List UInt8}{V:RowsV}(hR:RowsOk P Y (rowsR V))(hY:∀p,p<P->Y' p=viewC Y (rowsR V) p):RowsOk P Y' (rowsR (cleanV V))/\∀p b,¬ rowsR (cleanV V) p=some (b,true):=by
  refine⟨fun p b d h => ?_,fun p b h => ?_⟩
  · rw[rowsR_clean] at h
    cases hv:rowsR V p with
    | none=>rw[hv] at h;cases h
    | some u =>
      obtain⟨u1,u2⟩:=u
      rw[hv,Option.map_some] at h
      injection h with h
      injection h with h1 h2
      subst h1
      have hk:=hR p u1 u2 hv
      have e1:((p.toNat:Nat):Int)=p:=by omega
      refine⟨hk.1,hk.2.1,fun _ => ?_⟩
      rw[hY p.toNat (by omega)]
      exact(hR.view (p:=p.toNat) (b:=u1) (d:=u2) (by rw[e1];exact hv)).symm
  · rw[rowsR_clean] at h
    cases hv:rowsR V p with
    | none=>rw[hv] at h;cases h
    | some u =>
      rw[hv,Option.map_some] at h
      injection h with h
      injection h with _ h2
      cases h2
theorem dirtyL_nil {R:RowsC}(h:dirtyL R P=[])(hR:∀p b,R p=some (b,true)->0<=p/\p<(P:Int)):∀p b,¬ R p=some (b,true):=fun p b e=>by
  have hp:=hR p b e
  have e1:((p.toNat:Nat):Int)=p:=by omega
  have:(p.toNat,b)∈dirtyL R P:=dirtyL_mem.2 ⟨by show p.toNat<P;omega,by show R ((p.toNat:Nat):Int)=_;rw[e1];exact e⟩
  rw[h] at this
  cases this
theorem viewC_none {Y:Nat->List UInt8}{R:RowsC}(h:∀p b,¬ R p=some (b,true))(p:Nat):viewC Y R p=Y p:=by
  unfold viewC
  split
  · next b e=>exact absurd e (h _ b)
  · rfl
theorem RowsOk.congr {Y Y':Nat->List UInt8}{R:RowsC}(h:RowsOk P Y R)(hY:∀p,p<P->Y' p=Y p):RowsOk P Y' R:=fun p b d e=>by
  obtain⟨h1,h2,h3⟩:=h p b d e
  exact⟨h1,h2,fun hd=>by rw[hY p.toNat (by omega)];exact h3 hd⟩
theorem CmRes.plain {z x:Int}{sz N:Nat}{s':DS}{S':LgS}(hS:StP fr pg G S i)(hp:PgIn pg S)(hi:i<=900)(hpl:planOk fr pg=true)(hpg:pg<=200)(hP:(P:Int)=pg)(hR:RowsOk P (fileY G fr S) (rowsR c.V))(hc:c.Ok N)(h:CmRes fr pg P room ⟨G,[],0,false⟩ S c z sz x s' S' c') :
    ∃G',s'=⟨G',[],0,false⟩/\StP fr pg G' S' (i+2)/\PgIn pg S'/\c'.Ok (N+1)/\CmT fr pg P z G S (rowsR c.V) x G' S' (rowsR c'.V):=by
  obtain⟨hz1,hL1⟩:=hS.li
  have hYl:∀q,(fileY G fr S q).length=512:=fun q=>fpY_len hL1.len hS.y _ _
  have hpr:=(planOk_iff fr pg).1 hpl
  have hdk:∀p b,rowsR c.V p=some (b,true)->0<=p/\p<(P:Int):=fun p b e=>(hR p b true e).1
  have okIf:∀{c1:CaSt},c1.Ok (N+1)->(cleanIf x c1).Ok (N+1):=fun {c1} h=>by
    unfold cleanIf
    split
    · exact⟨h.now,h.hh,h.mm⟩
    · exact h
  rcases h with⟨hne,xs,hx,hC,rfl⟩|⟨hL,hz,rfl,rfl,rfl,rfl⟩|⟨hL,hz,rfl,rfl,hRd⟩|⟨hL,hz,y,c1,xs,hRd,hx0,hC,rfl⟩
  · have hy:∀k,k<(dirtyL (rowsR c.V) P).length->(pwL (dirtyL (rowsR c.V) P) k).2.length=512:=fun k hk=>by
      unfold pwL
      rw[List.getElem?_eq_getElem hk]
      exact(hR _ _ _ (dirtyL_mem.1 (List.getElem_mem hk)).2).2.1
    obtain⟨G',rfl,hS',hp',hX,hq⟩:=com_told hS hp hi hpl hpg hx hy hC
    refine⟨G',rfl,hS',hp',okIf (hc.more (by omega)),?_⟩
    rcases hq with⟨rfl,h1,h2⟩|⟨h0,h1,h2⟩
    · have hv:∀p,p<P->fileY G' fr S' p=viewC (fileY G fr S) (rowsR c.V) p:=fun p hpP=>by
        rw[h2 p hpP,lastPw_dirty,if_pos hpP]
        unfold viewC
        cases rowsR c.V (p:Int) with
        | none=>rfl
        | some u =>
          obtain⟨b,d⟩:=u
          cases d<;>rfl
      have hcl:=clean_ok hR hv
      have e:(cleanIf 0 c).V=cleanV c.V:=rfl
      rw[e]
      exact⟨hcl.1,.inl ⟨rfl,h1,hv,hcl.2⟩,.inl ⟨hne,hX⟩⟩
    · have e:cleanIf x c=c:=if_neg h0
      rw[e]
      exact⟨hR.congr h2,.inr ⟨h0,h1,h2,fun _ _=>Iff.rfl⟩,.inl ⟨hne,hX⟩⟩
  · refine⟨G,rfl,⟨hS.li,by have:=hS.sr;omega,by have:=hS.ep;omega,hS.fs,hS.sz⟩,hp,hc.more (by omega),hR,.inl ⟨rfl,hz.symm,fun p _=>(viewC_none (dirtyL_nil hL hdk) p).symm,dirtyL_nil hL hdk⟩,.inr (.inl ⟨hL,hz,rfl⟩)⟩
  · have hpl2:=hRd.plain hYl hP hR
    have hx160:x=160:=by
      rcases hRd with⟨v,_,e,_⟩|⟨_,er,h2,_,_⟩|⟨_,y,_,_,e,_⟩|⟨_,y,V1,b,A1,c1,_,_,_,e,_⟩
      · cases e
      · rw[fileR_in rfl (by omega)] at h2;cases h2
      · injection e
      · cases e
    subst hx160
    exact⟨G,rfl,⟨hS.li,by have:=hS.sr;omega,by have:=hS.ep;omega,hS.fs,hS.sz⟩,hp,hRd.ok hc,hpl2.1,.inr ⟨by decide,rfl,fun _ _=>rfl,hpl2.2.1⟩,.inr (.inr ⟨hL,hz,.inl rfl⟩)⟩
  · have hpl2:=hRd.plain hYl hP hR
    have hnd:=dirtyL_nil hL hdk
    have hnd1:∀p b,¬ rowsR c1.V p=some (b,true):=fun p b e=>hnd p b ((hpl2.2.1 p b).1 e)
    have hy0:=(hpl2.2.2 y rfl).2
    rw[viewC_none hnd] at hy0
    replace hy0:y=fileY G fr S 0:=hy0
    subst hy0
    have hx:∀k,k<1->(pwL [(0,fileY G fr S 0)] k).1=(xs k).1:=fun k hk=>by
      obtain rfl:k=0:=by omega
      rw[hx0]
      rfl
    have hy:∀k,k<1->(pwL [(0,fileY G fr S 0)] k).2.length=512:=fun k hk=>by
      obtain rfl:k=0:=by omega
      exact hYl 0
    obtain⟨G',rfl,hS',hp',hX,hq⟩:=com_told hS hp hi hpl hpg hx hy hC
    refine⟨G',rfl,hS',hp',okIf (hRd.ok hc),?_⟩
    have hlast:∀p:Nat,(lastPw (pwL [(0,fileY G fr S 0)]) (p:Int) 1).getD (fileY G fr S p)=fileY G fr S p:=fun p=>by
      show ((if (((0:Nat):Int))=(p:Int) then some (fileY G fr S 0) else none).getD (fileY G fr S p))=_
      split
      · rename_i e
        have:p=0:=by omega
        subst this
        rfl
      · rfl
    rcases hq with⟨rfl,h1,h2⟩|⟨h0,h1,h2⟩
    · have hv:∀p,p<P->fileY G' fr S' p=viewC (fileY G fr S) (rowsR c1.V) p:=fun p hpP=>by rw[h2 p hpP,hlast,viewC_none hnd1]
      have hcl:=clean_ok hpl2.1 hv
      have e:(cleanIf 0 c1).V=cleanV c1.V:=rfl
      rw[e]
      exact⟨hcl.1,.inl ⟨rfl,h1,fun p hpP=>by rw[h2 p hpP,hlast,viewC_none hnd],hcl.2⟩,.inr (.inr ⟨hL,hz,.inr hX⟩)⟩
    · have e:cleanIf x c1=c1:=if_neg h0
      rw[e]
      exact⟨hpl2.1.congr h2,.inr ⟨h0,h1,h2,hpl2.2.1⟩,.inr (.inr ⟨hL,hz,.inr hX⟩)⟩
end
structure PairOk (P:Nat)(fr:Int)(G1:Nat->List UInt8)(S1:LgS)(R1:RowsC)(G2:Nat->List UInt8)(S2:LgS)(R2:RowsC):Prop where
  t:TellSame P fr G1 S1 G2 S2
  o1:RowsOk P (fileY G1 fr S1) R1
  o2:RowsOk P (fileY G2 fr S2) R2
  d:DirtySame R1 R2
section
variable {fr pg:Int}{P:Nat}{G1 G2 G1' G2':Nat->List UInt8}{S1 S2 S1' S2':LgS}{R1 R2 R1' R2':RowsC}
theorem PairOk.commit (h:PairOk P fr G1 S1 R1 G2 S2 R2)(hP0:0<P){z x1 x2:Int}(h1:CmT fr pg P z G1 S1 R1 x1 G1' S1' R1')(h2:CmT fr pg P z G2 S2 R2 x2 G2' S2' R2') :
    (x1=x2/\PairOk P fr G1' S1' R1' G2' S2' R2')∨(x1=160∨x2=160):=by
  obtain⟨a1,b1,c1⟩:=h1
  obtain⟨a2,b2,c2⟩:=h2
  have hL:=dirtyL_same h.d P
  have hx:x1=x2∨(x1=160∨x2=160):=by
    rw[hL] at c1
    rw[h.t.1] at c1
    rw[h.t.2 0 hP0] at c1
    rcases c1 with⟨n1,e1⟩|⟨n1,z1,e1⟩|⟨n1,z1,e1⟩<;>rcases c2 with⟨n2,e2⟩|⟨n2,z2,e2⟩|⟨n2,z2,e2⟩
    · exact .inl (comX_same e1 e2)
    · exact absurd n2 n1
    · exact absurd n2 n1
    · exact absurd n1 n2
    · exact .inl (e1.trans e2.symm)
    · exact absurd z1 z2
    · exact absurd n1 n2
    · exact absurd z2 z1
    · rcases e1 with e1|e1
      · exact .inr (.inl e1)
      · rcases e2 with e2|e2
        · exact .inr (.inr e2)
        · exact .inl (comX_same e1 e2)
  rcases hx with hx|hx
  · refine .inl ⟨hx,?_⟩
    subst hx
    rcases b1 with⟨u1,u2,u3,u4⟩|⟨u1,u2,u3,u4⟩<;>rcases b2 with⟨v1,v2,v3,v4⟩|⟨v1,v2,v3,v4⟩
    · refine⟨⟨by rw[u2,v2],fun p hp=>by rw[u3 p hp,v3 p hp,viewC_same h.t.2 h.d hp]⟩,a1,a2,fun p b=>⟨fun e=>absurd e (u4 p b),fun e=>absurd e (v4 p b)⟩⟩
    · exact absurd u1 v1
    · exact absurd v1 u1
    · exact⟨⟨by rw[u2,v2,h.t.1],fun p hp=>by rw[u3 p hp,v3 p hp,h.t.2 p hp]⟩,a1,a2,(u4.trans h.d).trans v4.symm⟩
  · exact .inr hx
end
theorem ccounts_gives {w:World}{a f r P:Nat}{room now hh mm:Int}{V:RowsV}(h:CaIs w a f r P room now hh mm V):Calls Tryz.prog 13 #[.pointer (some ⟨a,0,none⟩)] w fun e w'=>e = .returned (.tuple #[.int .i64 hh,.int .i64 mm])/\Below w.heap.size w w':=by
  have HN:=cnone_gives h.cb
  have hS0:w.drew.cell? ⟨a,4,none⟩=some (.int .i64 hh)/\w.drew.cell? ⟨a,5,none⟩=some (.int .i64 mm):=⟨(h.cb.cell 4).trans rfl,(h.cb.cell 5).trans rfl⟩
  go_enter Tryz.func13,Tryz.ntmps13
  go_wp2_with (go_at_call 21;refine HN.mono ?_;rintro e w' ⟨rfl,rfl⟩)
  refine RegF.start (fun W:World=>W.cell? ⟨a,4,none⟩=some (.int .i64 hh)/\W.cell? ⟨a,5,none⟩=some (.int .i64 mm)) 99 (by kernel_rfl) ?_
  refine RegF.take0 0 (.pointer (some ⟨a,0,none⟩)) rfl (by kernel_rfl) (by kernel_rfl) (by kernel_rfl) rfl (fun _ _ _ h=>h) hS0 (RegF.yld rfl (fun W hW=>by obtain⟨e0,e1⟩:=hW;go_simp)) ?_
  simp only[List.getElem_toArray,List.getElem_cons_zero,Act.put,List.setIfInBounds_toArray,List.set_cons_zero,List.set_cons_succ]
  refine RegF.take0 1 (.pointer (some ⟨a,0,none⟩)) rfl (by kernel_rfl) (by kernel_rfl) (by kernel_rfl) rfl (fun _ _ _ h=>h) hS0 (RegF.yld rfl (fun W hW=>by obtain⟨e0,e1⟩:=hW;go_simp)) ?_
  simp only[List.getElem_toArray,List.getElem_cons_succ,List.getElem_cons_zero,Act.put,List.setIfInBounds_toArray,List.set_cons_zero,List.set_cons_succ]
  refine RegF.take0 2 (.pointer (some ⟨a,4,none⟩)) rfl (by kernel_rfl) (by kernel_rfl) (by kernel_rfl) rfl (fun _ _ _ h=>h) hS0 (RegF.yld rfl (fun W hW=>by obtain⟨e0,e1⟩:=hW;go_simp)) ?_
  simp only[List.getElem_toArray,List.getElem_cons_succ,List.getElem_cons_zero,Act.put,List.setIfInBounds_toArray,List.set_cons_zero,List.set_cons_succ]
  refine RegF.take0 4 (.pointer (some ⟨a,0,none⟩)) rfl (by kernel_rfl) (by kernel_rfl) (by kernel_rfl) rfl (fun _ _ _ h=>h) hS0 (RegF.yld rfl (fun W hW=>by obtain⟨e0,e1⟩:=hW;go_simp)) ?_
  simp only[List.getElem_toArray,List.getElem_cons_succ,List.getElem_cons_zero,Act.put,List.setIfInBounds_toArray,List.set_cons_zero,List.set_cons_succ]
  refine RegF.take0 5 (.pointer (some ⟨a,0,none⟩)) rfl (by kernel_rfl) (by kernel_rfl) (by kernel_rfl) rfl (fun _ _ _ h=>h) hS0 (RegF.yld rfl (fun W hW=>by obtain⟨e0,e1⟩:=hW;go_simp)) ?_
  simp only[List.getElem_toArray,List.getElem_cons_succ,List.getElem_cons_zero,Act.put,List.setIfInBounds_toArray,List.set_cons_zero,List.set_cons_succ]
  refine RegF.take0 6 (.pointer (some ⟨a,5,none⟩)) rfl (by kernel_rfl) (by kernel_rfl) (by kernel_rfl) rfl (fun _ _ _ h=>h) hS0 (RegF.yld rfl (fun W hW=>by obtain⟨e0,e1⟩:=hW;go_simp)) ?_
  simp only[List.getElem_toArray,List.getElem_cons_succ,List.getElem_cons_zero,Act.put,List.setIfInBounds_toArray,List.set_cons_zero,List.set_cons_succ]
  refine RegF.one 3 (by kernel_rfl) ?_
  refine RegF.opC 33 #[.tmp 8] #[75] rfl rfl rfl (enters_of Tryz.func33 (by kernel_rfl) rfl) #[.pointer (some ⟨a,4,none⟩)] (by simp only[List.map_toArray,List.map_cons,List.map_nil];rfl) ((load1_gives hS0.1).mono ?_)
  rintro e w2 ⟨rfl,rfl⟩
  refine⟨_,rfl,fun _=>hS0,?_⟩
  simp only[List.getElem_toArray,List.getElem_cons_succ,List.getElem_cons_zero,Act.put,List.setIfInBounds_toArray,List.set_cons_zero,List.set_cons_succ]
  refine RegF.one 7 (by kernel_rfl) ?_
  refine RegF.opC 33 #[.tmp 12] #[75] rfl rfl rfl (enters_of Tryz.func33 (by kernel_rfl) rfl) #[.pointer (some ⟨a,5,none⟩)] (by simp only[List.map_toArray,List.map_cons,List.map_nil];rfl) ((load1_gives hS0.2).mono ?_)
  rintro e w2 ⟨rfl,rfl⟩
  refine⟨_,rfl,fun _=>hS0,?_⟩
  simp only[List.getElem_toArray,List.getElem_cons_succ,List.getElem_cons_zero,Act.put,List.setIfInBounds_toArray,List.set_cons_zero,List.set_cons_succ]
  refine RegF.one 8 (by kernel_rfl) (RegF.opV (w':=w.drew) (.int .i64 hh) rfl rfl (by go_simp) ⟨fun _=>hS0,?_⟩)
  simp only[List.getElem_toArray,List.getElem_cons_succ,List.getElem_cons_zero,Act.put,List.setIfInBounds_toArray,List.set_cons_zero,List.set_cons_succ]
  refine RegF.one 9 (by kernel_rfl) (RegF.opV (w':=w.drew) (.int .i64 mm) rfl rfl (by go_simp) ⟨fun _=>hS0,RegF.done (by kernel_rfl) ?_⟩)
  simp only[List.getElem_toArray,List.getElem_cons_succ,List.getElem_cons_zero,Act.put,List.setIfInBounds_toArray,List.set_cons_zero,List.set_cons_succ]
  clear hS0
  go_wp2
  exact bodyPost_ret (results_tmp2 rfl _ _ _) rfl ⟨rfl,(Below.refl _ _).drew⟩
end Go.Proofs.YtmllnpjldmdaeaaGreat
