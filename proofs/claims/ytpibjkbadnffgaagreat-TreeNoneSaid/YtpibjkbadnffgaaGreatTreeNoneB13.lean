/- Texts that the proof of TreeNone leans on, part 13. -/
import Derived.Shelf.Spec.SlicesInsert
import Derived.Lib.MinMax
import Derived.Test.YtpibjkbadnffgaaGreatTreeNoneB12
open List renaming map_toArray → zK, map_cons → zL, map_nil → zN, length_take → qG, length_drop → qQ, size_toArray → zT, getElem_toArray → zE, getElem_cons_zero → zB, setIfInBounds_toArray → zA, set_cons_zero → zG, set_cons_succ → zF, getElem_cons_succ → zD, take_of_length_le → qI, length_append → zJ, length_cons → zP
open Nat renaming le_refl → zH, zero_add → qC, le_trans → zU, lt_of_lt_of_le → zO
open Array renaming length_toList → qL
set_option linter.unusedVariables false
set_option maxRecDepth 100000
set_option maxHeartbeats 8000000

namespace Go.Proofs.YtpibjkbadnffgaaGreat
open Go Go.RowKit Lou
theorem elInsC:ElT 39 49 4 48 (.agg #[.string ByteArray.empty,.string ByteArray.empty,.int .i64 0,.int .i64 0]):=⟨Tryz.underlying39,by kernel_rfl,by kernel_rfl,by decide⟩
def InsOutC (w:World)(g n i:Nat)(cs cx:List Value)(e:Ending)(w':World):Prop:=∃h c',e = .returned (.slice (some ⟨h,0,none⟩) (n+1) c')/\(h=g∨w.heap.size<=h)/\n+1<=c'/\c'<=maxLen/\(∃cur',BlkIs w' h 49 cur'/\cur'.size=c'*4/\cur'.toList.take ((n+1)*4)=cs.take (i*4)++cx++cs.drop (i*4))/\w.grownBy w' (some g)
theorem x_copyRC {ρ:Operand->Value}{w w':World}{o:Oper}{x y:Operand}{u v r:Value}(d:o.op = .call { callee:=.builtin .copy,args:=#[x,y],argTypes:=#[39,39] })(h1:ρ x=u)(h2:ρ y=v)(a:(Builtin.copy_ #[39,39] o.type #[u,v]).run Tryz.prog w = .ok r w'):(execOp ρ o).run Tryz.prog w = .ok (.value r) w':=by
 unfold execOp
 simp only[d,resolve,invoke,builtin,Sem.run_bind,Sem.run_pure,Result.andThen_ok,zK,zL,zN,h1,h2,a]
theorem x_appRC {ρ:Operand->Value}{w w':World}{o:Oper}{x y:Operand}{u v r:Value}(d:o.op = .call { callee:=.builtin .append,args:=#[x,y],argTypes:=#[39,3] })(h1:ρ x=u)(h2:ρ y=v)(a:(Builtin.append_ #[39,3] o.type #[u,v]).run Tryz.prog w = .ok r w'):(execOp ρ o).run Tryz.prog w = .ok (.value r) w':=by
 unfold execOp
 simp only[d,resolve,invoke,builtin,Sem.run_bind,Sem.run_pure,Result.andThen_ok,zK,zL,zN,h1,h2,a]
section
variable {w:World}{g c n i g2:Nat}{cur:Array Value}{cs cx:List Value}
theorem insC_room (I:BlkIs w g 49 cur)(s:cur.size=c*4)(A:cs=cur.toList.take (n*4))(hi:i<n)(aA:n+1<=c)(P:c<=maxLen)(hn:n<=100000)
  (B:BlkIs w g2 49 cx.toArray) (aD:cx.length=4) (Q:∀u∈cx,u.oneCell'=true) (O:∀u∈cs,u.oneCell'=true) (aK:g2≠g) :
  Calls Tryz.prog 154 #[.slice (some ⟨g,0,none⟩) n c,.int .i64 (i:Int),.slice (some ⟨g2,0,none⟩) 1 1] w (InsOutC w g n i cs cx):=by
 have aN:c<=9223372036854775807:=by unfold maxLen at P;omega
 have aF:cs.length=n*4:=by rw[A,qG,qL,s];omega
 have aB:(cs.drop (i*4)).length=(n - i)*4:=by rw[qQ,aF];omega
 have E:BlkIs w.drew g 49 cur:=I
 have Z:∀f h N,(Builtin.copy_ #[39,39] f #[.slice (some ⟨g,(i+1)*4,none⟩) (n+1 - (i+1)) h,.slice (some ⟨g,i*4,none⟩) (n+1 - i) N]).run Tryz.prog w.drew = .ok (goInt ((n - i:Nat):Int)) (w.drew.setRow g (cur.toList.take ((i+1)*4)++cs.drop (i*4)++cur.toList.drop ((i+1)*4+(cs.drop (i*4)).length)).toArray):=λf h N =>
  run_copyG elInsC w.drew f g ((i+1)*4) (n+1 - (i+1)) h ⟨g,i*4,none⟩ (n+1 - i) N (n - i) cur 49 (cs.drop (i*4)) E (by simp only[Nat.min_def];split<;>omega) aB (λj u r=>by
   rw[Addr.add_lit,E.cell]
   rw[List.getElem?_drop,A,List.getElem?_take] at r
   split at r
   ·simpa using r
   ·cases r) (by rw[aB,s];omega) (λu hu=>O u (List.mem_of_mem_drop hu))
 have aG:∀lb cb,(callFunc 221 #[.slice (some ⟨g2,0,none⟩) 1 1,.slice (some ⟨g,(i+1)*4,none⟩) lb cb]).run Tryz.prog w = .ok (.value (.bool false)) w:=λlb cb=>by
  rw[run_callFunc_extern Tryz.func221 (by kernel_rfl) (by kernel_rfl) (by kernel_rfl) (e:=Extern.SlicesOverlaps.overlaps #[39,39] #[4]) (by kernel_rfl),
   Lib.run_overlaps_apart w 39 4 49 elInsC.und 4 (λw=>elT_size elInsC w) ⟨g2,0,none⟩ ⟨g,(i+1)*4,none⟩ 1 1 lb cb aK 49 49 cx.toArray.size cur.size (by simp[World.shape?,show w.heap[g2]? = _ from B]) (by simp[World.shape?,show w.heap[g]? = _ from I]) (by rw[s];omega) (by simp[World.frozen?,show w.heap[g2]? = _ from B]) (by simp[World.frozen?,show w.heap[g2]? = _ from B])]
  rfl
 obtain⟨V,M,U⟩:=shifted (L:=cur.toList) (X:=cs.take (i*4)) (Y:=cs.drop (i*4)) (C:=cx) (sz:=4) (i:=i) (n:=n) aD (by rw[A,List.take_take];congr 1;omega) (by rw[A]) (by omega) (by rw[qL,s];omega)
 have F:BlkIs (w.drew.setRow g (cur.toList.take ((i+1)*4)++cs.drop (i*4)++cur.toList.drop ((i+1)*4+(cs.drop (i*4)).length)).toArray) g 49 (cur.toList.take ((i+1)*4)++cs.drop (i*4)++cur.toList.drop ((i+1)*4+(cs.drop (i*4)).length)).toArray:=E.setRow _
 have G:BlkIs (w.drew.setRow g (cur.toList.take ((i+1)*4)++cs.drop (i*4)++cur.toList.drop ((i+1)*4+(cs.drop (i*4)).length)).toArray) g2 49 cx.toArray:=BlkIs.setRow_ne (show BlkIs w.drew g2 49 cx.toArray from B) (by omega) _
 generalize aH:cur.toList.take ((i+1)*4)++cs.drop (i*4)++cur.toList.drop ((i+1)*4+(cs.drop (i*4)).length)=a at *
 have H:w.grownBy (w.drew.setRow g a.toArray) (some g):=grownBy_trans (grownBy_drew w _) (setRow_grownBy _ _ _)
 obtain⟨m,aC⟩:∃m,m=w.drew.setRow g a.toArray:=⟨_,rfl⟩
 rw[<-aC] at Z F G H
 have aI:∀f h,(Builtin.copy_ #[39,39] f #[.slice (some ⟨g,i*4,none⟩) (n+1 - i) h,.slice (some ⟨g2,0,none⟩) 1 1]).run Tryz.prog m = .ok (goInt 1) (m.setRow g (a.take (i*4)++cx++a.drop (i*4+cx.length)).toArray):=λf h =>
  run_copyG elInsC m f g (i*4) (n+1 - i) h ⟨g2,0,none⟩ 1 1 1 a.toArray 49 cx F (by simp only[Nat.min_def];split<;>omega) (by omega) (λj u r=>by
   rw[Addr.add_lit,G.cell]
   simpa using r) (by have:=M;simp only[zT,qL] at this ⊢;omega) Q
 have aL:w.grownBy (m.setRow g (a.take (i*4)++cx++a.drop (i*4+cx.length)).toArray) (some g):=grownBy_trans H (setRow_grownBy _ _ _)
 have aE:=F.setRow (a.take (i*4)++cx++a.drop (i*4+cx.length)).toArray
 generalize aJ:a.take (i*4)++cx++a.drop (i*4+cx.length)=L2 at *
 have E3:=Lib.hid (And.intro M U)
 have E1:=Lib.hid V
 clear V M U aH aJ aC A I E B F G H Q O
 have d:True:=trivial
 have aQ:¬ ((i:Int)=(n:Int)):=by omega
 have aO:¬ ((c:Int)<(n:Int)+1):=by omega
 have aP:IntKind.i64.wrap ((n:Int)+1)=(n:Int)+1:=wrap_i64_fr _ (by omega) (by omega)
 have aM:IntKind.i64.wrap ((i:Int)+1)=(i:Int)+1:=wrap_i64_fr _ (by omega) (by omega)
 go_enter Tryz.func154,Tryz.ntmps154
 go_wp2_with (first
  | (refine wp_exec rfl (x_cutHi (k:=n+1) elInsC rfl rfl (by first|rfl|exact(by push_cast;rfl)) aA) ?_)
  | (refine wp_exec rfl (x_cutLo (i:=i+1) elInsC rfl rfl rfl (by omega) (by omega)) ?_)
  | (refine wp_exec rfl (x_cutLo (i:=i) elInsC rfl rfl rfl (by omega) (by omega)) ?_)
  | (simp only))
 refine RegF.start (λ_=>True) 99 (by kernel_rfl) ?_
 refine RegF.t0 0 (.slice (some ⟨g,0,none⟩) (n+1) c) rfl d (λW q=>by go_simp) ?_
 simp only[zE,zB,Act.put,zA,zG,zF]
 refine RegF.t0 1 (.int .i64 (i:Int)) rfl d (λW q=>by go_simp) ?_
 simp only[zE,zD,zB,Act.put,zA,zG,zF]
 refine RegF.t0 2 (.int .i64 1) rfl d (λW q=>by go_simp) ?_
 simp only[zE,zD,zB,Act.put,zA,zG,zF]
 refine RegF.t0 3 (.int .i64 ((i:Int)+1)) rfl d (λW q=>by go_simp) ?_
 simp only[zE,zD,zB,Act.put,zA,zG,zF]
 refine RegF.t0 4 (.slice (some ⟨g,(i+1)*4,none⟩) (n+1 - (i+1)) (c - (i+1))) rfl d (λW q=>by exact x_cutLo (i:=i+1) elInsC rfl rfl rfl (by omega) (by omega)) ?_
 simp only[zE,zD,zB,Act.put,zA,zG,zF]
 refine RegF.t0 5 (.slice (some ⟨g,0,none⟩) (n+1) c) rfl d (λW q=>by go_simp) ?_
 simp only[zE,zD,zB,Act.put,zA,zG,zF]
 refine RegF.t0 6 (.int .i64 (i:Int)) rfl d (λW q=>by go_simp) ?_
 simp only[zE,zD,zB,Act.put,zA,zG,zF]
 refine RegF.t0 7 (.slice (some ⟨g,i*4,none⟩) (n+1 - i) (c - i)) rfl d (λW q=>by exact x_cutLo (i:=i) elInsC rfl rfl rfl (by omega) (by omega)) ?_
 simp only[zE,zD,zB,Act.put,zA,zG,zF]
 refine RegF.one 8 (by kernel_rfl) (RegF.opV (w':=m) (goInt ((n - i:Nat):Int)) rfl rfl (by exact x_copyRC rfl rfl rfl (Z _ _ _)) ⟨λ_=>d,RegF.done (by kernel_rfl) ?_⟩)
 simp only[zE,zD,zB,Act.put,zA,zG,zF]
 go_wp2_with (first
  | (refine wp_exec rfl (x_cutLo (i:=i) elInsC rfl rfl rfl (by omega) (by omega)) ?_)
  | (at_builtin;refine wpList_copy_runI _ rfl _ _ 39 39 rfl _ _ rfl rfl (aI _ _) ?_))
 go_ret
 exact⟨g,c,rfl,.inl rfl,aA,P,⟨_,aE,by rw[zT,E3.out.2,qL,s],by rw[E1.out]⟩,aL⟩
theorem insC_grow (B:BlkIs w g 49 cur)(E:cur.size=c*4)(A:cs=cur.toList.take (n*4))(hi:i<n)(a1:n<=c)(aZ:¬ n+1<=c)(hn:n<=100000)
  (O:BlkIs w g2 49 cx.toArray) (aB:cx.length=4) (aF:∀u∈cx,u.oneCell'=true) (Z:∀u∈cs,u.oneCell'=true) :
  Calls Tryz.prog 154 #[.slice (some ⟨g,0,none⟩) n c,.int .i64 (i:Int),.slice (some ⟨g2,0,none⟩) 1 1] w (InsOutC w g n i cs cx):=by
 have F:cs.length=n*4:=by rw[A,qG,qL,E];omega
 have aK:(cs.drop (i*4)).length=(n - i)*4:=by rw[qQ,F];omega
 have aM:(cs.take (i*4)).length=i*4:=by rw[qG,F];omega
 obtain⟨G,cur',P,aL,aP,H,aD⟩:=run_zeroesG elInsC w g i c (n+1 - i) cur B (by rw[E];omega) (by omega) (by omega) (by omega) (by decide)
 rw[show i+(n+1 - i)=n+1 by omega] at P aL
 have hX:cur'.toList.take (i*4)=cs.take (i*4):=by rw[aD,A,List.take_take];congr 1;omega
 have aT:=B.lt
 have aN:=O.lt
 obtain⟨h,hh⟩:∃h,h=w.heap.size:=⟨_,rfl⟩
 obtain⟨d,s⟩:∃d,d=w.drew.alloc (.cells cur' 49):=⟨_,rfl⟩
 have M:BlkIs d h 49 cur':=by rw[s,hh];exact BlkIs.new w.drew 49 cur'
 have aA:BlkIs d g 49 cur:=by rw[s];exact BlkIs.alloc (show BlkIs w.drew g 49 cur from B) _
 have aG:BlkIs d g2 49 cx.toArray:=by rw[s];exact BlkIs.alloc (show BlkIs w.drew g2 49 cx.toArray from O) _
 have aC:w.grownBy d (some g):=by rw[s];exact grownBy_alloc (grownBy_drew w _) _
 rw[<-s,<-hh] at P
 obtain⟨e1,Q,e3⟩:=put_in (L:=cur'.toList) (X:=cs.take (i*4)) (Y:=cs.drop (i*4)) (C:=cx) (sz:=4) (i:=i) (n:=n) aB hX aM (by omega) (by omega) (by rw[qL,H];omega)
 have aI:∀m,(Builtin.copy_ #[39,39] m #[.slice (some ⟨h,i*4,none⟩) (n+1 - i) (G - i),.slice (some ⟨g2,0,none⟩) 1 1]).run Tryz.prog d = .ok (goInt ((1:Nat):Int)) (d.setRow h (cur'.toList.take (i*4)++cx++cur'.toList.drop (i*4+cx.length)).toArray):=λm =>
  run_copyG elInsC d m h (i*4) (n+1 - i) (G - i) ⟨g2,0,none⟩ 1 1 1 cur' 49 cx M (by simp only[Nat.min_def];split<;>omega) (by omega) (λj u r=>by
   rw[Addr.add_lit,aG.cell]
   simpa using r) (by omega) aF
 have V:=M.setRow (cur'.toList.take (i*4)++cx++cur'.toList.drop (i*4+cx.length)).toArray
 have N:=aA.setRow_ne (k:=h) (by omega) (cur'.toList.take (i*4)++cx++cur'.toList.drop (i*4+cx.length)).toArray
 have I:=grownBy_setNew aC (b:=h) (by omega) (cur'.toList.take (i*4)++cx++cur'.toList.drop (i*4+cx.length)).toArray
 generalize aQ:cur'.toList.take (i*4)++cx++cur'.toList.drop (i*4+cx.length)=a at *
 obtain⟨e,aJ⟩:∃e,e=d.setRow h a.toArray:=⟨_,rfl⟩
 rw[<-aJ] at aI V N I
 have U:BlkIs e.drew h 49 a.toArray:=V
 have aE:BlkIs e.drew g 49 cur:=N
 have aH:w.grownBy e.drew (some g):=grownBy_trans I (grownBy_drew _ _)
 have aS:∀m,(Builtin.copy_ #[39,39] m #[.slice (some ⟨h,(i+1)*4,none⟩) (n+1 - (i+1)) (G - (i+1)),.slice (some ⟨g,i*4,none⟩) (n - i) (c - i)]).run Tryz.prog e.drew = .ok (goInt ((n - i:Nat):Int)) (e.drew.setRow h (a.take ((i+1)*4)++cs.drop (i*4)++a.drop ((i+1)*4+(cs.drop (i*4)).length)).toArray):=λm =>
  run_copyG elInsC e.drew m h ((i+1)*4) (n+1 - (i+1)) (G - (i+1)) ⟨g,i*4,none⟩ (n - i) (c - i) (n - i) a.toArray 49 (cs.drop (i*4)) U (by simp only[Nat.min_def];split<;>omega) aK (λj u r=>by
   rw[Addr.add_lit,aE.cell]
   rw[List.getElem?_drop,A,List.getElem?_take] at r
   split at r
   ·simpa using r
   ·cases r) (by have:=Q;simp only[zT,qL] at this ⊢;omega) (λu hu=>Z u (List.mem_of_mem_drop hu))
 have aO:=U.setRow (a.take ((i+1)*4)++cs.drop (i*4)++a.drop ((i+1)*4+(cs.drop (i*4)).length)).toArray
 have aR:=grownBy_setNew aH (b:=h) (by omega) (a.take ((i+1)*4)++cs.drop (i*4)++a.drop ((i+1)*4+(cs.drop (i*4)).length)).toArray
 generalize aU:a.take ((i+1)*4)++cs.drop (i*4)++a.drop ((i+1)*4+(cs.drop (i*4)).length)=L2 at *
 have E3:=Lib.hid (And.intro Q e3)
 have E1:=Lib.hid e1
 have HS:=Lib.hid H
 have HH:=Lib.hid hh
 clear e1 Q e3 aQ aU s aJ A B O aA aG aC M V N I U aE aH aF Z hX aD H aT aN aK aM F E aB hh
 have f:True:=trivial
 have aY:¬ ((i:Int)=(n:Int)):=by omega
 have aW:(c:Int)<(n:Int)+1:=by omega
 have aX:IntKind.i64.wrap ((n:Int)+1)=(n:Int)+1:=wrap_i64_fr _ (by omega) (by omega)
 have aV:IntKind.i64.wrap ((i:Int)+1)=(i:Int)+1:=wrap_i64_fr _ (by omega) (by omega)
 have a0:IntKind.i64.wrap ((n:Int)+1 - (i:Int))=((n+1 - i:Nat):Int):=by rw[wrap_i64_fr _ (by omega) (by omega)];omega
 go_enter Tryz.func154,Tryz.ntmps154
 go_wp2_with (first
  | (refine wp_exec rfl (x_cutHi (k:=i) elInsC rfl rfl rfl (by omega)) ?_)
  | (refine wp_exec rfl (x_cutLo (i:=i) elInsC rfl rfl rfl (by omega) (by omega)) ?_)
  | (refine wp_exec rfl (x_appRC rfl rfl rfl (P _)) ?_)
  | (at_builtin;refine wpList_copy_runI _ rfl _ _ 39 39 rfl _ _ rfl rfl (aI _) ?_))
 refine RegF.start (λ_=>True) 99 (by kernel_rfl) ?_
 refine RegF.t0 0 (.slice (some ⟨h,0,none⟩) (n+1) G) rfl f (λW q=>by go_simp) ?_
 simp only[zE,zB,Act.put,zA,zG,zF]
 refine RegF.t0 1 (.int .i64 (i:Int)) rfl f (λW q=>by go_simp) ?_
 simp only[zE,zD,zB,Act.put,zA,zG,zF]
 refine RegF.t0 2 (.int .i64 1) rfl f (λW q=>by go_simp) ?_
 simp only[zE,zD,zB,Act.put,zA,zG,zF]
 refine RegF.t0 3 (.int .i64 ((i:Int)+1)) rfl f (λW q=>by go_simp) ?_
 simp only[zE,zD,zB,Act.put,zA,zG,zF]
 refine RegF.t0 4 (.slice (some ⟨h,(i+1)*4,none⟩) (n+1 - (i+1)) (G - (i+1))) rfl f (λW q=>by exact x_cutLo (i:=i+1) elInsC rfl rfl rfl (by omega) (by omega)) ?_
 simp only[zE,zD,zB,Act.put,zA,zG,zF]
 refine RegF.t0 5 (.slice (some ⟨g,0,none⟩) n c) rfl f (λW q=>by go_simp) ?_
 simp only[zE,zD,zB,Act.put,zA,zG,zF]
 refine RegF.t0 6 (.int .i64 (i:Int)) rfl f (λW q=>by go_simp) ?_
 simp only[zE,zD,zB,Act.put,zA,zG,zF]
 refine RegF.t0 7 (.slice (some ⟨g,i*4,none⟩) (n - i) (c - i)) rfl f (λW q=>by exact x_cutLo (i:=i) elInsC rfl rfl rfl (by omega) (by omega)) ?_
 simp only[zE,zD,zB,Act.put,zA,zG,zF]
 refine RegF.one 8 (by kernel_rfl) (RegF.opV (w':=e.drew.setRow h L2.toArray) (goInt ((n - i:Nat):Int)) rfl rfl (by exact x_copyRC rfl rfl rfl (aS _)) ⟨λ_=>f,RegF.done (by kernel_rfl) ?_⟩)
 simp only[zE,zD,zB,Act.put,zA,zG,zF]
 go_wp2
 go_ret
 exact⟨h,G,rfl,.inr (by rw[HH.out];exact zH _),aL,aP,⟨_,aO,by have:=E3.out;simp only[zT,qL,HS.out] at this ⊢;omega,by rw[E1.out]⟩,aR⟩
theorem insC_end {base:Nat}{v:Value}(a:w.ownsRow base 49 4 v n cs)(q:base<=w.heap.size)(hn:n<=100000)(m:BlkIs w g2 49 cx.toArray)(A:cx.length=4)(s:∀u∈cx,u.oneCell'=true) :
  Calls Tryz.prog 154 #[v,.int .i64 (n:Int),.slice (some ⟨g2,0,none⟩) 1 1] w λe w'=>∃v',e = .returned v'/\w'.ownsRow base 49 4 v' (n+1) (cs++cx)/\w.grownBy w' v.ownBlock:=by
 have h:InG w w.heap.size 4 (some ⟨g2,0,none⟩) 1 1 cx:=⟨zH _,by decide,(λe=>by cases e),by omega,s,λ_=>⟨g2,0,rfl,m.lt,λj u r=>by
  rw[qC,m.cell]
  simpa using r⟩⟩
 have B:(n:Int)<=(n:Int):=Int.le_refl _
 rcases a.2 with⟨rfl,rfl⟩|⟨g,cap,cur,rfl,hb,hg,hle2,hm,hs,ht⟩
 ·go_enter Tryz.func154,Tryz.ntmps154
  go_wp2_with (at_builtin;refine wp_appG rfl elInsC _ _ rfl base _ 0 cs rfl a _ _ 1 1 cx rfl h (by decide) (by decide) q ?_;intro v5 w5 d f)
  go_ret
  exact⟨v5,rfl,d,f⟩
 ·go_enter Tryz.func154,Tryz.ntmps154
  go_wp2_with (at_builtin;refine wp_appG rfl elInsC _ _ rfl base _ n cs rfl a _ _ 1 1 cx rfl h (by unfold maxLen;omega) (by omega) q ?_;intro v5 w5 d f)
  all_goals (go_ret;exact⟨_,rfl,d,f⟩)
theorem insC_gives {base:Nat}{v:Value}(d:w.ownsRow base 49 4 v n cs)(H:base<=w.heap.size)(I:i<=n)(hn:n<=100000)(j:BlkIs w g2 49 cx.toArray)(a:cx.length=4)(f:∀u∈cx,u.oneCell'=true)(m:∀u∈cs,u.oneCell'=true)(F:v.ownBlock≠some g2) :
  Calls Tryz.prog 154 #[v,.int .i64 (i:Int),.slice (some ⟨g2,0,none⟩) 1 1] w λe w'=>∃v',e = .returned v'/\w'.ownsRow base 49 4 v' (n+1) (cs.take (i*4)++cx++cs.drop (i*4))/\w.grownBy w' v.ownBlock:=by
 have r:=d.1
 by_cases B:i=n
 ·subst B
  rw[qI (by omega),List.drop_of_length_le (by omega),List.append_nil]
  exact insC_end d H hn j a f
 ·rcases d.2 with⟨rfl,rfl⟩|⟨g,cap,cur,rfl,hb,hg,hle2,hm,hs,ht⟩
  ·omega
  ·have key:Calls Tryz.prog 154 #[.slice (some ⟨g,0,none⟩) n cap,.int .i64 (i:Int),.slice (some ⟨g2,0,none⟩) 1 1] w (InsOutC w g n i cs cx):=by
    by_cases q:n+1<=cap
    ·exact insC_room hg hs ht.symm (by omega) q hm hn j a f m (λe=>F (by rw[e];rfl))
    ·exact insC_grow hg hs ht.symm (by omega) hle2 q hn j a f m
   refine key.mono ?_
   rintro e w' ⟨h,c',rfl,hh,h1,h2,⟨G,A,s,C⟩,E⟩
   exact⟨_,rfl,⟨by rw[zJ,zJ,qG,qQ,r,a];omega,.inr ⟨h,c',G,rfl,by omega,A,h1,h2,s,C⟩⟩,E⟩
end
theorem clC_takeW:∀(l:List Cel) (i:Nat),(clC l).take (i*4)=clC (l.take i)
 | [],i=>by simp[clC]
 | c::l,0=>by simp[clC]
 | c::l,i+1=>by
  have e:clC (c::l)=celC c++clC l:=rfl
  have a:(celC c).length=4:=rfl
  rw[e,List.take_append,a,show (i+1)*4 - 4=i*4 by omega,clC_takeW l i,qI (by rw[a];omega)]
  rfl
theorem clC_dropW:∀(l:List Cel) (i:Nat),(clC l).drop (i*4)=clC (l.drop i)
 | [],i=>by simp[clC]
 | c::l,0=>by simp[clC]
 | c::l,i+1=>by
  have e:clC (c::l)=celC c++clC l:=rfl
  have a:(celC c).length=4:=rfl
  rw[e,List.drop_append,a,show (i+1)*4 - 4=i*4 by omega,clC_dropW l i,List.drop_of_length_le (by rw[a];omega)]
  rfl
theorem clC_app (l m:List Cel):clC (l++m)=clC l++clC m:=by unfold clC;rw[List.map_append,List.flatten_append]
def putIn (l:List Cel)(i:Nat)(c:Cel):List Cel:=l.take i++c::l.drop i
theorem putIn_length (l:List Cel)(i:Nat)(c:Cel)(a:i<=l.length):(putIn l i c).length=l.length+1:=by
 unfold putIn
 rw[zJ,zP,qG,qQ]
 omega
theorem clC_putIn (l:List Cel)(i:Nat)(c:Cel):clC (putIn l i c)=(clC l).take (i*4)++celC c++(clC l).drop (i*4):=by
 rw[clC_takeW,clC_dropW]
 unfold putIn
 rw[clC_app,List.append_assoc]
 rfl
theorem twith_gives (w:World)(A:Option Addr)(c:Nat)(l:List Cel)(h:InG w w.heap.size 4 A l.length c (clC l))(hl:l.length<=100000)(i:Nat)(B:i<=l.length)(g2:Nat)(x:Cel)(m:BlkIs w g2 49 (celC x).toArray) :
  Calls Tryz.prog 97 #[.slice A l.length c,.int .i64 (i:Int),.slice (some ⟨g2,0,none⟩) 1 1] w λe w'=>∃r c',e = .returned (.slice r (l.length+1) c')/\w'.ownsRow w.heap.size 49 4 (.slice r (l.length+1) c') (l.length+1) (clC (putIn l i x))/\Below w.heap.size w w':=by
 have f:=cclone_gives w A c l h (by omega)
 unfold OwnCels at f
 have F:=m.lt
 have M:=Lib.hid (rfl:l=l)
 go_enter Tryz.func97,Tryz.ntmps97
 go_wp2_with fail
 refine f.mono ?_
 rintro e L ⟨G,c2,rfl,own2,a⟩
 have s:=m.below a F
 have H:(Value.slice G l.length c2).ownBlock≠some g2:=λe=>by
  have:=ownG_ge own2 g2 e
  omega
 have d:=insC_gives (i:=i) own2 a.size B hl s rfl (by
  intro u hu
  simp[celC] at hu
  rcases hu with rfl|rfl|rfl|rfl<;>rfl) (clC_one l) H
 rw[<-clC_putIn] at d
 have I:=ownG_ge own2
 clear f h m s own2
 go_wp2_with fail
 refine d.mono ?_
 rintro e w3 ⟨v3,rfl,q,E⟩
 have C:Below w.heap.size w w3:=a.grown E a.size I
 obtain⟨j,c3,rfl⟩:∃j c3,v3 = .slice j (l.length+1) c3:=by
  rcases q.2 with⟨rfl,e⟩|⟨g,cap,cur,e,_⟩
  ·omega
  ·exact⟨_,_,e⟩
 clear d
 go_wp2
 go_ret
 exact⟨j,c3,rfl,q,C⟩
theorem x_sliceCelT {ρ:Operand->Value}{w:World}{o:Oper}{x:Operand}(m:Cel)(a:o.op = .buildSlice 39 1 #[(0,x)])(h1:ρ x = .agg (celC m).toArray):(execOp ρ o).run Tryz.prog w = .ok (.value (.slice (some ⟨w.heap.size,0,none⟩) 1 1)) (w.alloc (.cells (celC m).toArray 49)):=by
 unfold celC at *
 simp[execOp,a,h1,go_sem,Result.andThen]
section
variable {W0 W W':World}{K:PgK}{p t:Nat}{k:Int}{v v':PgV}{st last st' last':PgSt}{mk mk':Value}{ms:List MkT}
theorem tput_leaf (h:TrAt W0 K p t k v st last true mk ms W)(hK:K.Ok)(hN:v.N<=800000)(n:Int)(hn:1<=n/\n<st.size)(hP:n<(K.P:Int))(hT:¬ Tight K v.D)(x:Nod)(hx:PgNod K v n x)(Z:x.leaf=true)(c:Cel)(i:Nat)(bH:findAt true (nkeys x) c.key=i)(bN:findIs true (nkeys x) c.key=false)(hi:i<=x.cells.length)(bR:x.cells.length<=1000) :
  Calls Tryz.prog 51 #[.agg #[.pointer (some ⟨t,0,none⟩)],.int .i64 n,.agg (celC c).toArray] W λe w'=>∃v' B cc r A f ci,e = .returned (.agg (nodC ⟨true,putIn x.cells i c,[],[]⟩ B cc r A f ci))/\NIs w' w'.heap.size ⟨true,putIn x.cells i c,[],[]⟩ B cc r A f ci/\TrAt W0 K p t k v' st last true mk ms w'/\KeptP K v v'/\Names K W v v'/\GrowBut (pgMu K p v) W w':=by
 have b0:=h.up
 obtain⟨aN,aR,_⟩:=hx.fits.1.leaf Z
 obtain⟨W1,q⟩:∃W1,W1=((W.alloc (.cells #[.pointer (some ⟨t,0,none⟩)] 74)).alloc (.cells (celC c).toArray 49)).alloc (.cells #[.bool false,.slice none 0 0,.slice none 0 0,.slice none 0 0] 43):=⟨_,rfl⟩
 have aI:Below W.heap.size W W1:=by rw[q];exact below3 _ _ _ _
 have b3:BlkIs W1 W.heap.size 74 #[.pointer (some ⟨t,0,none⟩)]:=by rw[q];exact((BlkIs.new W _ _).alloc _).alloc _
 have b5:BlkIs W1 (W.heap.size+1) 49 (celC c).toArray:=by
  have:=(BlkIs.new (W.alloc (.cells #[.pointer (some ⟨t,0,none⟩)] 74)) 49 (celC c).toArray).alloc (.cells #[.bool false,.slice none 0 0,.slice none 0 0,.slice none 0 0] 43)
  rw[World.size_alloc] at this
  rw[q]
  exact this
 have b6:BlkIs W1 (W.heap.size+1+1) 43 #[.bool false,.slice none 0 0,.slice none 0 0,.slice none 0 0]:=by
  have:=BlkIs.new ((W.alloc (.cells #[.pointer (some ⟨t,0,none⟩)] 74)).alloc (.cells (celC c).toArray 49)) 43 #[.bool false,.slice none 0 0,.slice none 0 0,.slice none 0 0]
  rw[World.size_alloc,World.size_alloc] at this
  rw[q]
  exact this
 have b1:W1.heap.size=W.heap.size+1+1+1:=by rw[q,World.size_alloc,World.size_alloc,World.size_alloc]
 have h1:=h.grow aI
 have aY:=tnode_gives h1 hK hN n hn hP hT x hx
 have aZ:=b3.boxed
 rw[q] at aZ
 have a9:=Lib.hid q.symm
 have a6:=h1.notB b5 (by unfold Boxy;decide)
 have bF:=h1.notB b6 (by unfold Boxy;decide)
 clear q h
 go_enter Tryz.func51,Tryz.ntmps51
 go_wp2_with fail
 rw[a9.out]
 refine aY.mono ?_
 rintro e a ⟨v',B,cc,r,A,f,ci,rfl,n2,h2,a8,a2,M⟩
 obtain⟨N,L⟩:∃N,N=nodC x B cc r A f ci:=⟨_,rfl⟩
 have aM:N.size=4:=by rw[L];rfl
 have bE:∀u∈N.toList,u.oneCell'=true:=by rw[L];exact four_oneC rfl rfl rfl rfl
 rw[<-L]
 have aP:=M.blk b5 a6
 have aH:=M.blk b6 bF
 have bV:W.heap.size+3<=a.heap.size:=by have:=M.size;omega
 obtain⟨W3,aF⟩:∃W3,W3=a.alloc (.cells #[.bool false,.slice none 0 0,.slice none 0 0,.slice none 0 0] 43):=⟨_,rfl⟩
 have aW:BlkIs W3 a.heap.size 43 #[.bool false,.slice none 0 0,.slice none 0 0,.slice none 0 0]:=by rw[aF];exact BlkIs.new a _ _
 have a0:Below a.heap.size a W3:=by rw[aF];exact below1 _ _
 have C:Below a.heap.size a (W3.setRow a.heap.size N):=below_setRow a0 (zH _) _
 have aD:=aW.setRow N
 generalize aU:W3.setRow a.heap.size N=W4 at *
 have h4:=h2.grow C
 have n4:=n2.grow C
 have aB:=aP.below C aP.lt
 have aL:=aH.below C aH.lt
 have bW:=C.size
 have O:=find_gives W4 x B cc r A f ci n4 (by omega) (by rw[aN];decide) c.key
 unfold FindOut at O
 rw[Z,bH,bN] at O
 have bL:W4.cell? ⟨W.heap.size+1,0,none⟩=some (.string c.key):=by rw[aB.cell];rfl
 rw[<-L] at O
 have Q:=Lib.hid L
 have bI:=Lib.hid aF.symm
 have bA:=Lib.hid aU
 clear L aF aU h1 h2 n2 b3 b5 b6 aZ aP aH hn aY a0
 go_wp2_with (first
  | (rw[bI.out];refine wp_storeW rfl 43 (.tmp 7) (.tmp 12) rfl a.heap.size rfl rfl rowNod aW rfl aM bE ?_;rw[bA.out])
  | (refine wp_loadW rfl 43 (.tmp 7) rfl a.heap.size rfl rowNod aD aM ?_))
 refine O.mono ?_
 rintro e w5 ⟨rfl,s⟩
 have h5:=h4.grow s
 have G:=n4.grow s
 have a1:=aB.below s aB.lt
 have aG:=aL.below s aL.lt
 have H:=aD.below s aD.lt
 have bP:=s.size
 have d0:w5.cell? ⟨a.heap.size,0,none⟩=some (.bool true):=by rw[H.cell,Q.out];simp[nodC,Z]
 have d1:w5.cell? ⟨a.heap.size,1,none⟩=some (.slice B x.cells.length cc):=by rw[H.cell,Q.out];rfl
 obtain⟨W6,aE⟩:∃W6,W6=w5.alloc (.cells (celC c).toArray 49):=⟨_,rfl⟩
 have aQ:BlkIs W6 w5.heap.size 49 (celC c).toArray:=by rw[aE];exact BlkIs.new w5 _ _
 have V:Below w5.heap.size w5 W6:=by rw[aE];exact below1 _ _
 have aS:=twith_gives W6 B cc x.cells ((G.grow V).c) (by omega) i hi w5.heap.size c aQ
 have a5:=Lib.hid aE.symm
 clear aE O bL
 go_wp2_with (first
  | (refine wp_loadW rfl 49 (.tmp 5) rfl (W.heap.size+1) rfl rowCel a1 rfl ?_)
  | (refine wp_exec rfl (x_sliceCelT c rfl rfl) ?_))
 rw[a5.out]
 refine aS.mono ?_
 rintro e w7 ⟨F,c3,rfl,X,aJ⟩
 obtain⟨bQ,bY,e3,aV⟩:=ownG_in X (clC_one _)
 injection e3 with e31 _ e33
 subst e31 e33
 have I:Below w5.heap.size w5 w7:=V.trans (aJ.mono V.size)
 have h7:=h5.grow I
 have a3:=aG.below I aG.lt
 have aC:=H.below I H.lt
 have bS:=V.size
 have bU:=H.lt
 have bT:=aJ.size
 have a4:=ownG_ge X
 have bX:w7.cell? ⟨a.heap.size,1,none⟩=some (.slice B x.cells.length cc):=by rw[aC.cell,Q.out];rfl
 have bZ:=aC.free 1
 obtain⟨W8,aA⟩:∃W8,W8=w7.setCell ⟨a.heap.size,1,none⟩ (.slice F (x.cells.length+1) c3):=⟨_,rfl⟩
 obtain⟨N8,U⟩:∃N8,N8=nodC ⟨true,putIn x.cells i c,[],[]⟩ F c3 r A f ci:=⟨_,rfl⟩
 have aX:N.setIfInBounds 1 (.slice F (x.cells.length+1) c3)=N8:=by
  rw[U,Q.out]
  unfold nodC
  simp[Z,aN,aR,putIn_length _ _ _ hi]
 have bO:BlkIs W8 a.heap.size 43 N8:=by rw[aA,<-aX];exact aC.set 1 _
 have d:GrowBut (λj=>j=a.heap.size) w7 W8:=by rw[aA];exact GrowBut.setCell _ _ _ rfl
 have aO:=d.blk a3 (by omega)
 have h8:=h7.keepB d aC (by rw[aM];decide) (λm e=>by rw[Q.out] at e;cases e) (by omega) (by unfold Boxy;decide)
 have bG:=d.size
 have h9:=h8.keepB (growB_setRow W8 (W.heap.size+1+1) N8) aO (by decide) (λm e=>by cases e) (by omega) (by unfold Boxy;decide)
 have a7:=aO.setRow N8
 have aK:N8.size=4:=by rw[U];rfl
 have bK:∀u∈N8.toList,u.oneCell'=true:=by rw[U];exact four_oneC rfl rfl rfl rfl
 have G:=G.grow I
 have aT:=putIn_length x.cells i c hi
 have n9:NIs (W8.setRow (W.heap.size+1+1) N8) (W8.setRow (W.heap.size+1+1) N8).heap.size ⟨true,putIn x.cells i c,[],[]⟩ F c3 r A f ci:=by
  have bD:w7.heap.size<=(W8.setRow (W.heap.size+1+1) N8).heap.size:=by simp[World.setRow];exact bG
  refine⟨?_,?_,?_⟩
  ·show InG _ _ 4 F (putIn x.cells i c).length c3 (clC (putIn x.cells i c))
   rw[aT]
   refine aV.keepAt bD (λg o e => ?_)
   have hg:=a4 g (by rw[e];rfl)
   exact(setRow_other W8 _ g N8 (by omega)).trans (d.block g (by have:=ownG_lt X g (by rw[e];rfl);exact this) (by omega))
  ·have:=G.k
   rw[aN] at this
   exact⟨this.le,this.max,this.nil,rfl,(λu hu=>by cases hu),λh0=>absurd h0 (Nat.lt_irrefl 0)⟩
  ·have:=G.i
   rw[aR] at this
   exact⟨this.le,this.max,this.nil,rfl,(λu hu=>by cases hu),λh0=>absurd h0 (Nat.lt_irrefl 0)⟩
 have bB:GrowBut (pgMu K p v) W (W8.setRow (W.heap.size+1+1) N8):=by
  have E:GrowBut (pgMu K p v) W w7:=((((GrowBut.below aI).trans M).trans (GrowBut.below C)).trans (GrowBut.below s)).trans (GrowBut.below I)
  exact⟨d.os.trans E.os,d.tape.trans E.tape,d.output.trans E.output,by simp[World.setRow];exact zU E.size d.size,λj hj hm=>((setRow_other _ _ j _ (by omega)).trans (d.block j (by have:=E.size;omega) (by omega))).trans (E.block j hj hm)⟩
 have bM:Names K W v v':=a2.mono aI.size
 have bC:=Lib.hid U
 have bJ:=Lib.hid aA.symm
 clear U aA aX d h7 h8 h5 h4 n4 G aV X a4 a3 aG aL aB a1 H aD d0 d1 aQ aS I aJ V s C M a2 a5 aT
 go_wp2_with (first
  | (rw[bJ.out];refine wp_loadW rfl 43 (.tmp 7) rfl a.heap.size rfl rowNod bO aK ?_)
  | (refine wp_storeW rfl 43 (.tmp 6) (.tmp 56) rfl (W.heap.size+1+1) rfl rfl rowNod aO rfl aK bK ?_))
 exact bodyPost_ret_by (results_one rfl (rval_row (g:=W.heap.size+1+1) 6 rfl rowNod a7 aK)) rfl ⟨v',F,c3,r,A,f,ci,by rw[bC.out],n9,h9,a8,bM,bB⟩
end
section
variable {W0 W W':World}{K:PgK}{p t:Nat}{k:Int}{v v':PgV}{st last st' last':PgSt}{mk mk':Value}{ms:List MkT}
theorem tcell_gives (w:World)(s:Value)(d u:ByteArray)(hu:u.size<=60) :
  Calls Tryz.prog 49 #[.agg #[s],.string d,.string u] w λe w'=>e = .returned (.agg #[.string d,.string u,.int .i64 0,.int .i64 0])/\Below w.heap.size w w':=by
 have r:(u.size:Int)<=60:=by omega
 obtain⟨W1,a⟩:∃W1,W1=(w.alloc (.cells #[s] 74)).alloc (.cells #[.string ⟨#[]⟩,.string ⟨#[]⟩,.int .i64 0,.int .i64 0] 49):=⟨_,rfl⟩
 have m:Below w.heap.size w W1:=by rw[a];exact below2 _ _ _
 have f:BlkIs W1 (w.heap.size+1) 49 #[.string ⟨#[]⟩,.string ⟨#[]⟩,.int .i64 0,.int .i64 0]:=by
  have:=BlkIs.new (w.alloc (.cells #[s] 74)) 49 #[.string ⟨#[]⟩,.string ⟨#[]⟩,.int .i64 0,.int .i64 0]
  rw[World.size_alloc] at this
  rw[a]
  exact this
 have j:=f.setRow #[.string d,.string u,.int .i64 0,.int .i64 0]
 have q:=below_setRow m (Nat.le_succ w.heap.size) #[.string d,.string u,.int .i64 0,.int .i64 0]
 have h:=Lib.hid a.symm
 clear a hu
 go_enter Tryz.func49,Tryz.ntmps49
 go_wp2_with (rw[h.out];refine wp_storeW rfl 49 (.tmp 6) (.tmp 17) rfl (w.heap.size+1) rfl rfl rowCel f rfl rfl (four_oneC rfl rfl rfl rfl) ?_)
 exact bodyPost_ret_by (results_one rfl (rval_row (g:=w.heap.size+1) 6 rfl rowCel j rfl)) rfl ⟨rfl,q⟩
end
def leaf1 (ky u:ByteArray):Nod:=⟨true,[⟨ky,u,0,0⟩],[],[]⟩
section
variable {W0 W W':World}{K:PgK}{p t:Nat}{v v' v'':PgV}{st last st' last':PgSt}{mk mk':Value}{ms:List MkT}
theorem GrowBut.fresh {w d w2:World}(h2:GrowBut (pgMu K p v') d w2)(h1:GrowBut (pgMu K p v) w d)(hn:Names K w v v')(hs:w.heap.size<=d.heap.size):GrowBut (pgMu K p v) w w2 :=
 ⟨h2.os.trans h1.os,h2.tape.trans h1.tape,h2.output.trans h1.output,zU h1.size h2.size,λk f a=>(h2.block k (zO f hs) (λe=>by
  rcases e with e|e
  ·exact a (.inl e)
  ·rcases hn k e with e|e
   ·exact a (.inr e)
   ·omega)).trans (h1.block k f a)⟩
theorem Names.trans {w a:World}(h1:Names K w v v')(h2:Names K a v' v'')(hs:w.heap.size<=a.heap.size):Names K w v v'':=λk d=>by
 rcases h2 k d with e|e
 ·exact h1 k e
 ·exact .inr (by omega)
theorem put1_new (h:TrAt W0 K p t 0 v st last true mk ms W)(hK:K.Ok)(hN:v.N<=600000)(a9:1<=st.size/\st.size<K.pg)(hf:st.first=0)(hm:0<=st.many/\st.many<=1000)(hT:¬ Tight K v.D)(aV:¬ Tight K λj=>if j=st.size then some zeroB else v.D j)(h0:st.roots[0]? = some 0)
  (a u:ByteArray) (hu:u.size<=60) (hR:RightP (leaf1 a u)) (aU:(laidB (leaf1 a u)).length<=512) {q1 q2:Nat} (b1:BlkIs W q1 9 #[.string a]) (b2:BlkIs W q2 9 #[.string u]) :
  Calls Tryz.prog 48 #[.agg #[.pointer (some ⟨t,0,none⟩)],.pointer (some ⟨q1,0,none⟩),.pointer (some ⟨q2,0,none⟩)] W λe w'=>∃v',(∃z,e = .returned z)/\TrAt W0 K p t 0 v' { st with size:=st.size+1,roots:=st.roots.set 0 st.size } last true mk ms w'/\(v'.N<=v.N+4/\v'.i=v.i/\v'.Y K=v.Y K/\v'.S.sz=v.S.sz/\v'.D=λj=>if j=st.size then some (pageN (leaf1 a u)) else v.D j)/\Names K W v v'/\GrowBut (pgMu K p v) W w':=by
 have bK:=hK.hP
 obtain⟨W1,M⟩:∃W1,W1=W.alloc (.cells #[.pointer (some ⟨t,0,none⟩)] 74):=⟨_,rfl⟩
 have B:Below W.heap.size W W1:=by rw[M];exact below1 _ _
 have b3:BlkIs W1 W.heap.size 74 #[.pointer (some ⟨t,0,none⟩)]:=by rw[M];exact BlkIs.new W _ _
 have h1:=h.grow B
 have HR:=troot_gives h1 (i:=0) rfl h0
 have bM:=h.up
 have aO:=b1.below B b1.lt
 have aS:=b2.below B b2.lt
 have bH:=B.size
 have a5:=Lib.hid M.symm
 clear M h h0 b1 b2
 go_enter Tryz.func48,Tryz.ntmps48
 go_wp2_with fail
 rw[a5.out]
 refine HR.mono ?_
 rintro e w2 ⟨rfl,A⟩
 have L:=b3.below A b3.lt
 have aW:=aO.below A aO.lt
 have aZ:=aS.below A aS.lt
 have h2:=h1.grow A
 have c3:=L.boxed
 have c1:=aW.boxed
 have c2:=aZ.boxed
 have bJ:=A.size
 clear HR h1 b3 aO aS
 go_wp2_with fail
 refine(tcell_gives w2 _ a u hu).mono ?_
 rintro e f ⟨rfl,G⟩
 have h3:=h2.grow G
 have aH:=L.below G L.lt
 have bL:=G.size
 obtain⟨W4,P⟩:∃W4,W4=f.alloc (.cells #[.string ⟨#[]⟩,.string ⟨#[]⟩,.int .i64 0,.int .i64 0] 49):=⟨_,rfl⟩
 have aK:BlkIs W4 f.heap.size 49 #[.string ⟨#[]⟩,.string ⟨#[]⟩,.int .i64 0,.int .i64 0]:=by rw[P];exact BlkIs.new f _ _
 have aY:Below f.heap.size f W4:=by rw[P];exact below1 _ _
 have F:Below f.heap.size f (W4.setRow f.heap.size #[.string a,.string u,.int .i64 0,.int .i64 0]):=below_setRow aY (zH _) _
 have aM:=aK.setRow #[.string a,.string u,.int .i64 0,.int .i64 0]
 generalize a0:W4.setRow f.heap.size #[.string a,.string u,.int .i64 0,.int .i64 0]=w5 at *
 have Z:=h3.grow F
 have O:=aH.below F aH.lt
 have bD:=O.boxed
 have bF:=F.size
 have aB:Below W.heap.size W w5:=((B.trans (A.mono (by omega))).trans (G.mono (by omega))).trans (F.mono (by omega))
 have HM:=tmade_new Z hK (by omega) a9 hf hm hT
 have a7:=Lib.hid P.symm
 have bC:=Lib.hid a0
 clear P a0 h2 h3 L aH aW aZ c1 c2 c3 B A G aY F
 go_wp2_with (first
  | (rw[a7.out];refine wp_storeW rfl 49 (.tmp 5) (.tmp 12) rfl f.heap.size rfl rfl rowCel aK rfl rfl (four_oneC rfl rfl rfl rfl) ?_;rw[bC.out]))
 refine HM.mono ?_
 rintro e w6 ⟨v6,rfl,h6,H,aF,C⟩
 have aD:=C.blk O (Z.notB O (by unfold Boxy;decide))
 have a1:=C.blk aM (Z.notB aM (by unfold Boxy;decide))
 have a4:=aD.boxed
 have bG:=C.size
 obtain⟨W7,V⟩:∃W7,W7=w6.alloc (.cells #[.string a,.string u,.int .i64 0,.int .i64 0] 49):=⟨_,rfl⟩
 have Q:Below w6.heap.size w6 W7:=by rw[V];exact below1 _ _
 have aL:BlkIs W7 w6.heap.size 49 #[.string a,.string u,.int .i64 0,.int .i64 0]:=by rw[V];exact BlkIs.new w6 _ _
 have bA:=Q.size
 have nx:NIs W7 W7.heap.size (leaf1 a u) (some ⟨w6.heap.size,0,none⟩) 1 none 0 none 0:=⟨⟨zH _,by decide,(λe=>by cases e),rfl,four_oneC rfl rfl rfl rfl,λ_=>⟨w6.heap.size,0,rfl,aL.lt,λj x I=>by rw[qC,aL.cell];simpa[leaf1,clC,celC] using I⟩⟩,InG.mt _ _ _,InG.mt _ _ _⟩
 have h7:=h6.grow Q
 have aN:=aD.below Q aD.lt
 have aJ:=H.dd
 have aP:=twrite_gives h7 hK (by have:=H.nn;omega) st.size ⟨by omega,by show st.size<st.size+1;omega⟩ (by omega) (by rw[aJ];exact aV) (leaf1 a u) _ _ _ _ _ _ nx (by show 1<=1000;decide) (by show 0<=1000;decide) (by show 0<=1001;decide) hR aU
 unfold leaf1 at aP
 have a8:=Lib.hid V.symm
 clear V nx aL HM
 go_wp2_with (first
  | (refine wp_loadW rfl 49 (.tmp 5) rfl f.heap.size rfl rowCel a1 rfl ?_))
 rw[a8.out]
 refine aP.mono ?_
 rintro e s ⟨v8,⟨u8,rfl⟩,h8,aR,aT,aC⟩
 have aQ:=aC.blk aN (h7.notB aN (by unfold Boxy;decide))
 have bI:=aC.size
 have aE:Below s.heap.size s s.drew:=(Below.refl _ _).drew
 have E:=h8.grow aE
 have a6:=psetroot_gives E.pa st.size ⟨by omega,by show st.size<st.size+1;omega⟩
 have aA:=aQ.below aE aQ.lt
 have d:s.drew.cell? ⟨W.heap.size,0,none⟩=some (.pointer (some ⟨t,0,none⟩))/\s.drew.cell? ⟨t,0,none⟩=some (.pointer (some ⟨p,0,none⟩))/\s.drew.cell? ⟨t,1,none⟩=some (.int .i64 0):=⟨aA.boxed,E.tp,E.tk⟩
 have bB:=E.notB aA (by unfold Boxy;decide)
 have hG:GrowBut (pgMu K p v) W s.drew:=by
  have g1:GrowBut (pgMu K p v) W w6:=(GrowBut.below aB).trans C
  have g2:GrowBut (pgMu K p v6) w6 s.drew:=((GrowBut.below Q).trans aC).trans (GrowBut.below aE)
  exact g2.fresh g1 (aF.mono aB.size) g1.size
 have bE:Names K W v v8:=(aF.mono aB.size).trans (aT.mono bA) (by have:=aB.size;omega)
 have HD:=Lib.hid aR.dd
 have a2:=Lib.hid aJ
 have X:=Lib.hid H
 have U:=Lib.hid aR
 clear H aR aJ aP Z h6 h7 h8 O aD aN aQ aM a1 aK C aC aF aT hR aU bD a4 hT aV
 go_wp2_with fail
 refine RegF.start (λW':World=>W'.cell? ⟨W.heap.size,0,none⟩=some (.pointer (some ⟨t,0,none⟩))/\W'.cell? ⟨t,0,none⟩=some (.pointer (some ⟨p,0,none⟩))/\W'.cell? ⟨t,1,none⟩=some (.int .i64 0)) 99 (by kernel_rfl) ?_
 generalize s.drew=wd at *
 refine RegF.t0 0 (.pointer (some ⟨W.heap.size,0,none⟩)) rfl d (λW ⟨m,r,q⟩=>by go_simp) ?_
 simp only[zE,zB,Act.put,zA,zG,zF]
 refine RegF.t0 1 (.pointer (some ⟨t,0,none⟩)) rfl d (λW ⟨m,r,q⟩=>by go_simp) ?_
 simp only[zE,zD,zB,Act.put,zA,zG,zF]
 refine RegF.t0 2 (.pointer (some ⟨t,0,none⟩)) rfl d (λW ⟨m,r,q⟩=>by go_simp) ?_
 simp only[zE,zD,zB,Act.put,zA,zG,zF]
 refine RegF.t0 3 (.pointer (some ⟨t,0,none⟩)) rfl d (λW ⟨m,r,q⟩=>by go_simp) ?_
 simp only[zE,zD,zB,Act.put,zA,zG,zF]
 refine RegF.t0 4 (.pointer (some ⟨p,0,none⟩)) rfl d (λW ⟨m,r,q⟩=>by go_simp) ?_
 simp only[zE,zD,zB,Act.put,zA,zG,zF]
 refine RegF.t0 5 (.pointer (some ⟨W.heap.size,0,none⟩)) rfl d (λW ⟨m,r,q⟩=>by go_simp) ?_
 simp only[zE,zD,zB,Act.put,zA,zG,zF]
 refine RegF.t0 6 (.pointer (some ⟨t,0,none⟩)) rfl d (λW ⟨m,r,q⟩=>by go_simp) ?_
 simp only[zE,zD,zB,Act.put,zA,zG,zF]
 refine RegF.t0 7 (.pointer (some ⟨t,0,none⟩)) rfl d (λW ⟨m,r,q⟩=>by go_simp) ?_
 simp only[zE,zD,zB,Act.put,zA,zG,zF]
 refine RegF.t0 8 (.pointer (some ⟨t,1,none⟩)) rfl d (λW ⟨m,r,q⟩=>by go_simp) ?_
 simp only[zE,zD,zB,Act.put,zA,zG,zF]
 refine RegF.t0 9 (.int .i64 0) rfl d (λW ⟨m,r,q⟩=>by go_simp) ?_
 simp only[zE,zD,zB,Act.put,zA,zG,zF]
 refine RegF.t0 10 (.int .i64 (st.size)) rfl d (λW ⟨m,r,q⟩=>by go_simp) ?_
 simp only[zE,zD,zB,Act.put,zA,zG,zF]
 refine RegF.one 11 (by kernel_rfl) ?_
 refine RegF.opC 36 #[.tmp 34,.tmp 39,.tmp 40] #[23,3,3] rfl rfl rfl (enters_of Tryz.func36 (by kernel_rfl) rfl) #[.pointer (some ⟨p,0,none⟩),.int .i64 0,.int .i64 (st.size)] (by simp only[zK,zL,zN];rfl) (a6.mono ?_)
 rintro e w9 ⟨rfl,a3,aI⟩
 have h9:=E.turn a3 (growP aI) (λk hk => .inl hk)
 have aX:=aI.blk aA (λe=>bB (.inl e))
 have aG:w9.cell? ⟨W.heap.size,0,none⟩=some (.pointer (some ⟨t,0,none⟩))/\w9.cell? ⟨t,0,none⟩=some (.pointer (some ⟨p,0,none⟩))/\w9.cell? ⟨t,1,none⟩=some (.int .i64 0):=⟨aX.boxed,h9.tp,h9.tk⟩
 refine⟨_,rfl,λ_=>aG,?_⟩
 simp only[zE,zD,zB,Act.put,zA,zG,zF]
 refine RegF.one 12 (by kernel_rfl) ?_
 refine RegF.opC 34 #[.tmp 41] #[27] rfl rfl rfl (enters_of Tryz.func34 (by kernel_rfl) rfl) #[.int .i64 0] (by simp only[zK,zL,zN];rfl) ((tmust_ok _).mono ?_)
 rintro e wm ⟨⟨um,rfl⟩,rfl⟩
 refine⟨_,rfl,λ_=>aG,RegF.done (by kernel_rfl) ?_⟩
 simp only[zE,zD,zB,Act.put,zA,zG,zF]
 clear aG d aX aA
 go_wp2
 go_end0
 refine⟨v8,⟨_,rfl⟩,h9,⟨?_,U.out.ii.trans X.out.ii,U.out.yy.trans X.out.yy,U.out.sz.trans X.out.sz,?_⟩,bE,hG.trans (aI.more λk hk _ => .inl hk)⟩
 ·have:=U.out.nn
  have:=X.out.nn
  omega
 ·rw[HD.out,a2.out]
  funext j
  by_cases I:j=st.size
  ·simp[I]
   rfl
  ·simp[I]
end
section
variable {W0 W W':World}{K:PgK}{p t:Nat}{v v':PgV}{st last st' last':PgSt}{mk mk':Value}{ms:List MkT}
def PutP (K:PgK)(v:PgV)(n:Int)(x:Nod)(c:Nat)(v':PgV):Prop:=v'.N<=v.N+c/\v'.i=v.i/\v'.Y K=v.Y K/\v'.S.sz=v.S.sz/\v'.D=λj=>if j=n then some (pageN x) else v.D j
theorem tput_new (h:TrAt W0 K p t 0 v st last true mk ms W)(s:K.Ok)(aA:ms.length<=800)(hN:v.N<=600000)(q:1<=st.size/\st.size<K.pg)(hf:st.first=0)(F:0<=st.many/\st.many<=1000)(A:¬ Tight K v.D)(G:¬ Tight K λj=>if j=st.size then some zeroB else v.D j)(I:st.roots[0]? = some 0)
  (a u:ByteArray) (aD:a.size<=81) (hu:u.size<=60) (H:RightP (leaf1 a u)) (C:(laidB (leaf1 a u)).length<=512) :
  Calls Tryz.prog 14 #[.pointer (some ⟨t,0,none⟩),.string a,.string u] W λe w'=>e = .returned (.int .i64 0)/\∃v' mk',TrAt W0 K p t 0 v' { st with size:=st.size+1,roots:=st.roots.set 0 st.size } last true mk' ms w'/\PutP K v st.size (leaf1 a u) 4 v':=by
 obtain⟨W1,d⟩:∃W1,W1=(W.alloc (.cells #[.string a] 9)).alloc (.cells #[.string u] 9):=⟨_,rfl⟩
 have O:Below W.heap.size W W1:=by rw[d];exact below2 _ _ _
 have b4:BlkIs W1 W.heap.size 9 #[.string a]:=by rw[d];exact(BlkIs.new W _ _).alloc _
 have f:BlkIs W1 (W.heap.size+1) 9 #[.string u]:=by
  have:=BlkIs.new (W.alloc (.cells #[.string a] 9)) 9 #[.string u]
  rw[World.size_alloc] at this
  rw[d]
  exact this
 have h1:=h.grow O
 have E:=h1.none
 have aB:(a.size:Int)<=81:=by omega
 have aF:(u.size:Int)<=4000:=by omega
 have aE:¬ (81:Int)<(a.size:Int):=by omega
 have aC:¬ (4000:Int)<(u.size:Int):=by omega
 have B:=tdone2_gives h1 s aA 48 (.pointer (some ⟨W.heap.size,0,none⟩)) (.pointer (some ⟨W.heap.size+1,0,none⟩)) (enters_of Tryz.func48 (by kernel_rfl) rfl) (λ_=>False) (λ_ e=>e.elim)
  (λv' st' _=>st' = { st with size:=st.size+1,roots:=st.roots.set 0 st.size }/\PutP K v st.size (leaf1 a u) 4 v') (λW' mk' M m hs ht=>by
   refine(put1_new ht s hN q hf F A G I a u hu H C (m _ _ _ b4 (by unfold Boxy;decide)) (m _ _ _ f (by unfold Boxy;decide))).mono ?_
   rintro e w' ⟨v',V,P,hP,Z,U⟩
   exact⟨v',_,V,P,⟨rfl,hP⟩,Z,U.more λj L _ => .inl L⟩)
 have c4:=b4.boxed
 have c5:=f.boxed
 have X:=Lib.hid d.symm
 clear d h h1 A G I H C hf F q b4 f
 go_enter Tryz.func14,Tryz.ntmps14
 go_wp2_with (first
  | (go_at_call 26;rw[X.out];refine E.mono ?_;rintro e w2 ⟨rfl,rfl⟩))
 refine B.mono ?_
 rintro e w3 ⟨v',st',w1,rfl,⟨rfl,hP⟩,r⟩
 obtain⟨mk',Q⟩:=r.at_
 clear B E r
 go_wp2
 go_ret
 exact⟨rfl,v',mk',Q,hP⟩
end
section
variable {W0 W W':World}{K:PgK}{p t:Nat}{k:Int}{v v':PgV}{st last st' last':PgSt}{mk mk':Value}{ms:List MkT}
theorem tcrown_fits (h:TrAt W0 K p t k v st last true mk ms W)(hK:K.Ok)(hN:v.N<=800000)(n:Int)(hn:1<=n/\n<st.size)(hP:n<(K.P:Int))(hT:¬ Tight K v.D)(x:Nod)(j:Option Addr)(cc:Nat)(d:Option Addr)(f:Nat)(a:Option Addr)(ci:Nat)(O:NIs W W.heap.size x j cc d f a ci)(hl:x.cells.length<=1000)(V:x.keys.length<=1000)(Z:x.kids.length<=1001)(X:RightP x)(I:(laidB x).length<=512) :
  Calls Tryz.prog 50 #[.agg #[.pointer (some ⟨t,0,none⟩)],.int .i64 n,.agg (nodC x j cc d f a ci)] W λe w'=>∃v',(∃u,e = .returned u)/\TrAt W0 K p t k v' st last true mk ms w'/\WrK K v v' n (pageN x)/\Names K W v v'/\GrowBut (pgMu K p v) W w':=by
 obtain⟨W1,q⟩:∃W1,W1=(W.alloc (.cells #[.pointer (some ⟨t,0,none⟩)] 74)).alloc (.cells (nodC x j cc d f a ci) 43):=⟨_,rfl⟩
 have s:Below W.heap.size W W1:=by rw[q];exact below2 _ _ _
 have G:BlkIs W1 W.heap.size 74 #[.pointer (some ⟨t,0,none⟩)]:=by rw[q];exact(BlkIs.new W _ _).alloc _
 have r:BlkIs W1 (W.heap.size+1) 43 (nodC x j cc d f a ci):=by
  have:=BlkIs.new (W.alloc (.cells #[.pointer (some ⟨t,0,none⟩)] 74)) 43 (nodC x j cc d f a ci)
  rw[World.size_alloc] at this
  rw[q]
  exact this
 have h1:=h.grow s
 have C:=O.grow s
 have F:=fits_ok W1 x j cc d f a ci C hl V Z X I
 have B:∀A,Below W1.heap.size W1 A->_:=λA m=>twrite_gives (h1.grow m) hK hN n hn hP hT x j cc d f a ci (C.grow m) hl V Z X I
 obtain⟨N,E⟩:∃N,N=nodC x j cc d f a ci:=⟨_,rfl⟩
 have M:N.size=4:=by rw[E];rfl
 simp only[<-E] at F B r q ⊢
 have aD:=Lib.hid q.symm
 clear q O C E h h1
 go_enter Tryz.func50,Tryz.ntmps50
 go_wp2_with (first
  | (rw[aD.out];refine wp_loadW rfl 43 (.tmp 5) rfl (W.heap.size+1) rfl rowNod r M ?_))
 refine F.mono ?_
 rintro e A ⟨rfl,m⟩
 have L:=B A m
 have aA:=r.below m r.lt
 have aB:=(G.below m G.lt).boxed
 have U:=s.trans (m.mono s.size)
 clear F B G r
 go_wp2_with (first
  | (refine wp_loadW rfl 43 (.tmp 5) rfl (W.heap.size+1) rfl rowNod aA M ?_))
 refine L.mono ?_
 rintro e w3 ⟨v',⟨z,rfl⟩,h3,aC,H,Q⟩
 have hG:GrowBut (pgMu K p v) W w3:=(GrowBut.below U).trans Q
 have aE:Names K W v v':=H.mono U.size
 clear L aA aB Q H
 go_wp2
 refine bodyPost_ret (results_none rfl _ _ _) rfl ?_
 exact⟨v',⟨_,rfl⟩,h3,aC,aE,hG⟩
end
section
variable {W0 W W':World}{K:PgK}{p t:Nat}{v v':PgV}{st last st' last':PgSt}{mk mk':Value}{ms:List MkT}
theorem put1_leaf (h:TrAt W0 K p t 0 v st last true mk ms W)(hK:K.Ok)(hN:v.N<=600000)(n:Int)(hn:1<=n/\n<st.size)(hP:n<(K.P:Int))(hT:¬ Tight K v.D)(h0:st.roots[0]? = some n)(x:Nod)(hx:PgNod K v n x)(aU:x.leaf=true)
  (a u:ByteArray) (hu:u.size<=60) (i:Nat) (aK:findAt true (nkeys x) a=i) (aP:findIs true (nkeys x) a=false) (hi:i<=x.cells.length) (a1:x.cells.length<=900) (hR:RightP ⟨true,putIn x.cells i ⟨a,u,0,0⟩,[],[]⟩) (aG:(laidB ⟨true,putIn x.cells i ⟨a,u,0,0⟩,[],[]⟩).length<=512) {q1 q2:Nat} (b1:BlkIs W q1 9 #[.string a]) (X:BlkIs W q2 9 #[.string u]) :
  Calls Tryz.prog 48 #[.agg #[.pointer (some ⟨t,0,none⟩)],.pointer (some ⟨q1,0,none⟩),.pointer (some ⟨q2,0,none⟩)] W λe w'=>∃v',(∃z,e = .returned z)/\TrAt W0 K p t 0 v' st last true mk ms w'/\PutP K v n ⟨true,putIn x.cells i ⟨a,u,0,0⟩,[],[]⟩ 6 v'/\Names K W v v'/\GrowBut (pgMu K p v) W w':=by
 have a6:¬ n=0:=by omega
 obtain⟨W1,M⟩:∃W1,W1=W.alloc (.cells #[.pointer (some ⟨t,0,none⟩)] 74):=⟨_,rfl⟩
 have A:Below W.heap.size W W1:=by rw[M];exact below1 _ _
 have b3:BlkIs W1 W.heap.size 74 #[.pointer (some ⟨t,0,none⟩)]:=by rw[M];exact BlkIs.new W _ _
 have h1:=h.grow A
 have HR:=troot_gives h1 (i:=0) rfl h0
 have a7:=h.up
 have aD:=b1.below A b1.lt
 have aE:=X.below A X.lt
 have a3:=A.size
 have aS:=Lib.hid M.symm
 clear M h h0 b1 X
 go_enter Tryz.func48,Tryz.ntmps48
 go_wp2_with fail
 rw[aS.out]
 refine HR.mono ?_
 rintro e w2 ⟨rfl,m⟩
 have L:=b3.below m b3.lt
 have aH:=aD.below m aD.lt
 have aO:=aE.below m aE.lt
 have h2:=h1.grow m
 have c3:=L.boxed
 have c1:=aH.boxed
 have c2:=aO.boxed
 have a4:=m.size
 clear HR h1 b3 aD aE
 go_wp2_with fail
 refine(tcell_gives w2 _ a u hu).mono ?_
 rintro e d ⟨rfl,H⟩
 have h3:=h2.grow H
 have G:=L.below H L.lt
 have a5:=H.size
 obtain⟨W4,O⟩:∃W4,W4=d.alloc (.cells #[.string ⟨#[]⟩,.string ⟨#[]⟩,.int .i64 0,.int .i64 0] 49):=⟨_,rfl⟩
 have aL:BlkIs W4 d.heap.size 49 #[.string ⟨#[]⟩,.string ⟨#[]⟩,.int .i64 0,.int .i64 0]:=by rw[O];exact BlkIs.new d _ _
 have aN:Below d.heap.size d W4:=by rw[O];exact below1 _ _
 have B:Below d.heap.size d (W4.setRow d.heap.size #[.string a,.string u,.int .i64 0,.int .i64 0]):=below_setRow aN (zH _) _
 have aC:=aL.setRow #[.string a,.string u,.int .i64 0,.int .i64 0]
 generalize aQ:W4.setRow d.heap.size #[.string a,.string u,.int .i64 0,.int .i64 0]=w5 at *
 have q:Below w5.heap.size w5 w5.drew:=(Below.refl _ _).drew
 have V:=(h3.grow B).grow q
 have aA:=(G.below B G.lt).below q (G.below B G.lt).lt
 have aB:=aC.below q aC.lt
 have a0:=B.size
 have aZ:=q.size
 have E:Below W.heap.size W w5.drew:=(((A.trans (m.mono (by omega))).trans (H.mono (by omega))).trans (B.mono (by omega))).trans (q.mono (by omega))
 have aI:=tput_leaf V hK (by omega) n hn hP hT x hx aU ⟨a,u,0,0⟩ i aK aP hi (by omega)
 have j:BlkIs w5.drew W.heap.size 74 #[.pointer (some ⟨t,0,none⟩)]/\BlkIs w5.drew d.heap.size 49 #[.string a,.string u,.int .i64 0,.int .i64 0]:=⟨aA,aB⟩
 have aX:=V.notB aA (by unfold Boxy;decide)
 have aR:=V.notB aB (by unfold Boxy;decide)
 have aT:=Lib.hid O.symm
 have aW:=Lib.hid aQ
 clear O aQ h2 h3 L G aH aO c1 c2 c3 A m H aN B hx aK aP q
 go_wp2_with (first
  | (rw[aT.out];refine wp_storeW rfl 49 (.tmp 5) (.tmp 12) rfl d.heap.size rfl rfl rowCel aL rfl rfl (four_oneC rfl rfl rfl rfl) ?_;rw[aW.out]))
 refine RegF.start (λW':World=>BlkIs W' W.heap.size 74 #[.pointer (some ⟨t,0,none⟩)]/\BlkIs W' d.heap.size 49 #[.string a,.string u,.int .i64 0,.int .i64 0]) 99 (by kernel_rfl) ?_
 generalize w5.drew=wd at *
 refine RegF.t0 0 (.agg #[.pointer (some ⟨t,0,none⟩)]) rfl j (λW ⟨r,I⟩=>by exact x_loadQ rowStep r rfl rfl rfl) ?_
 simp only[zE,zB,Act.put,zA,zG,zF]
 refine RegF.t0 1 (.int .i64 n) rfl j (λW ⟨r,I⟩=>by go_simp) ?_
 simp only[zE,zD,zB,Act.put,zA,zG,zF]
 refine RegF.t0 2 (.agg #[.pointer (some ⟨t,0,none⟩)]) rfl j (λW ⟨r,I⟩=>by exact x_loadQ rowStep r rfl rfl rfl) ?_
 simp only[zE,zD,zB,Act.put,zA,zG,zF]
 refine RegF.t0 3 (.int .i64 n) rfl j (λW ⟨r,I⟩=>by go_simp) ?_
 simp only[zE,zD,zB,Act.put,zA,zG,zF]
 refine RegF.t0 4 (.agg #[.string a,.string u,.int .i64 0,.int .i64 0]) rfl j (λW ⟨r,I⟩=>by exact x_loadQ rowCel I rfl rfl rfl) ?_
 simp only[zE,zD,zB,Act.put,zA,zG,zF]
 refine RegF.one 5 (by kernel_rfl) ?_
 refine RegF.opC 51 #[.tmp 17,.tmp 18,.tmp 19] #[74,3,49] rfl rfl rfl (enters_of Tryz.func51 (by kernel_rfl) rfl) #[.agg #[.pointer (some ⟨t,0,none⟩)],.int .i64 n,.agg (celC ⟨a,u,0,0⟩).toArray] (by simp only[zK,zL,zN];rfl) (aI.mono ?_)
 rintro e w6 ⟨v6,Ac,cc,Ak,ck,Ai,ci,rfl,n6,U,f,Z,s⟩
 have C:BlkIs w6 W.heap.size 74 #[.pointer (some ⟨t,0,none⟩)]/\BlkIs w6 d.heap.size 49 #[.string a,.string u,.int .i64 0,.int .i64 0]:=⟨s.blk j.1 aX,s.blk j.2 aR⟩
 have a2:=putIn_length x.cells i ⟨a,u,0,0⟩ hi
 have aJ:=tcrown_fits U hK (by have:=f.nn;omega) n hn hP (by rw[f.dd];exact hT) _ Ac cc Ak ck Ai ci n6 (by show (putIn x.cells i ⟨a,u,0,0⟩).length<=1000;omega) (by show 0<=1000;decide) (by show 0<=1001;decide) hR aG
 refine⟨_,rfl,λ_=>C,?_⟩
 simp only[zE,zD,zB,Act.put,zA,zG,zF]
 refine RegF.one 6 (by kernel_rfl) ?_
 refine RegF.opC 50 #[.tmp 15,.tmp 16,.tmp 20] #[74,3,43] rfl rfl rfl (enters_of Tryz.func50 (by kernel_rfl) rfl) #[.agg #[.pointer (some ⟨t,0,none⟩)],.int .i64 n,.agg (nodC ⟨true,putIn x.cells i ⟨a,u,0,0⟩,[],[]⟩ Ac cc Ak ck Ai ci)] (by simp only[zK,zL,zN];rfl) (aJ.mono ?_)
 rintro e w7 ⟨v7,⟨z,rfl⟩,h7,F,aF,Q⟩
 have aM:BlkIs w7 W.heap.size 74 #[.pointer (some ⟨t,0,none⟩)]/\BlkIs w7 d.heap.size 49 #[.string a,.string u,.int .i64 0,.int .i64 0]:=⟨Q.blk C.1 (U.notB C.1 (by unfold Boxy;decide)),Q.blk C.2 (U.notB C.2 (by unfold Boxy;decide))⟩
 refine⟨_,rfl,λ_=>aM,RegF.done (by kernel_rfl) ?_⟩
 simp only[zE,zD,zB,Act.put,zA,zG,zF]
 have hG:GrowBut (pgMu K p v) W w7:=Q.fresh ((GrowBut.below E).trans s) (Z.mono E.size) (by have:=E.size;have:=s.size;omega)
 have aY:Names K W v v7:=(Z.mono E.size).trans aF (by have:=E.size;have:=s.size;omega)
 have aV:PutP K v n ⟨true,putIn x.cells i ⟨a,u,0,0⟩,[],[]⟩ 6 v7:=⟨by have:=f.nn;have:=F.nn;omega,F.ii.trans f.ii,F.yy.trans f.yy,F.sz.trans f.sz,by rw[F.dd,f.dd]⟩
 clear j C aM aI aJ n6 U f Z s F aF Q hT hR aG E aA aC aB V
 go_wp2
 refine bodyPost_ret (results_none rfl _ _ _) rfl ?_
 exact⟨v7,⟨_,rfl⟩,h7,aV,aY,hG⟩
end
section
variable {W0 W W':World}{K:PgK}{p t:Nat}{v v':PgV}{st last st' last':PgSt}{mk mk':Value}{ms:List MkT}
theorem tput_leaf1 (h:TrAt W0 K p t 0 v st last true mk ms W)(r:K.Ok)(aC:ms.length<=800)(hN:v.N<=600000)(n:Int)(hn:1<=n/\n<st.size)(hP:n<(K.P:Int))(s:¬ Tight K v.D)(I:st.roots[0]? = some n)(x:Nod)(F:PgNod K v n x)(Q:x.leaf=true)
  (a u:ByteArray) (aF:a.size<=81) (hu:u.size<=60) (i:Nat) (B:findAt true (nkeys x) a=i) (E:findIs true (nkeys x) a=false) (Z:i<=x.cells.length) (V:x.cells.length<=900) (H:RightP ⟨true,putIn x.cells i ⟨a,u,0,0⟩,[],[]⟩) (C:(laidB ⟨true,putIn x.cells i ⟨a,u,0,0⟩,[],[]⟩).length<=512) :
  Calls Tryz.prog 14 #[.pointer (some ⟨t,0,none⟩),.string a,.string u] W λe w'=>e = .returned (.int .i64 0)/\∃v' mk',TrAt W0 K p t 0 v' st last true mk' ms w'/\PutP K v n ⟨true,putIn x.cells i ⟨a,u,0,0⟩,[],[]⟩ 6 v':=by
 obtain⟨W1,d⟩:∃W1,W1=(W.alloc (.cells #[.string a] 9)).alloc (.cells #[.string u] 9):=⟨_,rfl⟩
 have O:Below W.heap.size W W1:=by rw[d];exact below2 _ _ _
 have b4:BlkIs W1 W.heap.size 9 #[.string a]:=by rw[d];exact(BlkIs.new W _ _).alloc _
 have f:BlkIs W1 (W.heap.size+1) 9 #[.string u]:=by
  have:=BlkIs.new (W.alloc (.cells #[.string a] 9)) 9 #[.string u]
  rw[World.size_alloc] at this
  rw[d]
  exact this
 have h1:=h.grow O
 have G:=h1.none
 have aD:(a.size:Int)<=81:=by omega
 have aH:(u.size:Int)<=4000:=by omega
 have aG:¬ (81:Int)<(a.size:Int):=by omega
 have aE:¬ (4000:Int)<(u.size:Int):=by omega
 have A:=tdone2_gives h1 r aC 48 (.pointer (some ⟨W.heap.size,0,none⟩)) (.pointer (some ⟨W.heap.size+1,0,none⟩)) (enters_of Tryz.func48 (by kernel_rfl) rfl) (λ_=>False) (λ_ e=>e.elim)
  (λv' st' _=>st'=st/\PutP K v n ⟨true,putIn x.cells i ⟨a,u,0,0⟩,[],[]⟩ 6 v') (λW' mk' M m hs ht=>by
   refine(put1_leaf ht r hN n hn hP s I x F Q a u hu i B E Z V H C (m _ _ _ b4 (by unfold Boxy;decide)) (m _ _ _ f (by unfold Boxy;decide))).mono ?_
   rintro e w' ⟨v',hz,U,hP,aB,hG⟩
   exact⟨v',_,hz,U,⟨rfl,hP⟩,aB,hG.more λj L _ => .inl L⟩)
 have c4:=b4.boxed
 have c5:=f.boxed
 have aA:=Lib.hid d.symm
 clear d h h1 s I H C F B E hn b4 f
 go_enter Tryz.func14,Tryz.ntmps14
 go_wp2_with (first
  | (go_at_call 26;rw[aA.out];refine G.mono ?_;rintro e w2 ⟨rfl,rfl⟩))
 refine A.mono ?_
 rintro e w3 ⟨v',st',w1,rfl,⟨rfl,hP⟩,q⟩
 obtain⟨mk',X⟩:=q.at_
 clear A G q
 go_wp2
 go_ret
 exact⟨rfl,v',mk',X,hP⟩
end
section
variable {W0 W W':World}{K:PgK}{p t:Nat}{v v':PgV}{st last st' last':PgSt}{under:Bool}{mk mk':Value}{ms:List MkT}
theorem tfind_is (h:TrAt W0 K p t 0 v st last under mk ms W)(hK:K.Ok)(hN:v.N<=800000)(n:Int)(hn:1<=n/\n<st.size)(hP:n<(K.P:Int))(hT:¬ Tight K v.D)(h0:st.roots[0]? = some n)(x:Nod)(M:PgNod K v n x)(U:x.leaf=true)(key:ByteArray)(i:Nat)(aR:findAt true (nkeys x) key=i)(aV:findIs true (nkeys x) key=true)(hi:i<x.cells.length)(a1:x.cells.length<=1000) :
  Calls Tryz.prog 29 #[.agg #[.pointer (some ⟨t,0,none⟩)],.string key] W λe w'=>∃v',e = .returned (.tuple #[.agg (celC x.cells[i]).toArray,.bool true])/\TrAt W0 K p t 0 v' st last under mk ms w'/\KeptP K v v'/\Names K W v v'/\GrowBut (pgMu K p v) W w':=by
 have a8:=h.up
 have a7:¬ n=0:=by omega
 obtain⟨aT,aZ,_⟩:=M.fits.1.leaf U
 obtain⟨W1,d⟩:∃W1,W1=(W.alloc (.cells #[.pointer (some ⟨t,0,none⟩)] 74)).alloc (.cells #[.string ⟨#[]⟩,.string ⟨#[]⟩,.int .i64 0,.int .i64 0] 49):=⟨_,rfl⟩
 have O:Below W.heap.size W W1:=by rw[d];exact below2 _ _ _
 have C:BlkIs W1 W.heap.size 74 #[.pointer (some ⟨t,0,none⟩)]:=by rw[d];exact(BlkIs.new W _ _).alloc _
 have b4:BlkIs W1 (W.heap.size+1) 49 #[.string ⟨#[]⟩,.string ⟨#[]⟩,.int .i64 0,.int .i64 0]:=by
  have:=BlkIs.new (W.alloc (.cells #[.pointer (some ⟨t,0,none⟩)] 74)) 49 #[.string ⟨#[]⟩,.string ⟨#[]⟩,.int .i64 0,.int .i64 0]
  rw[World.size_alloc] at this
  rw[d]
  exact this
 have a9:W1.heap.size=W.heap.size+1+1:=by rw[d,World.size_alloc,World.size_alloc]
 have h1:=h.grow O
 have HR:=troot_gives h1 (i:=0) rfl h0
 have Z:=C.boxed
 rw[d] at Z
 have aK:=Lib.hid d.symm
 clear d h h0
 go_enter Tryz.func29,Tryz.ntmps29
 go_wp2_with fail
 rw[aK.out]
 refine HR.mono ?_
 rintro e w2 ⟨rfl,q⟩
 have h2:=h1.grow q
 have aH:=C.below q C.lt
 have L:=b4.below q b4.lt
 have aN:=aH.boxed
 have a3:=q.size
 have aB:=tnode_gives h2 hK hN n hn hP hT x M
 have aM:=h2.notB L (by unfold Boxy;decide)
 clear HR h1 C b4 Z hn hP hT M
 go_wp2
 go_loopw [6] (λi wr=>i = .int .i64 n/\wr=w2) (λ_ _=>0)
 case atStart=>exact⟨rfl,rfl⟩
 case round =>
  obtain⟨rfl,rfl⟩:=hrel
  go_wp2_with fail
  refine aB.mono ?_
  rintro e a ⟨v',Ac,cc,Ak,ck,X,ci,rfl,n3,h3,aU,aA,G⟩
  obtain⟨N,s⟩:∃N,N=nodC x Ac cc Ak ck X ci:=⟨_,rfl⟩
  have aE:N.size=4:=by rw[s];rfl
  have aP:∀u∈N.toList,u.oneCell'=true:=by rw[s];exact four_oneC rfl rfl rfl rfl
  rw[<-s]
  have V:=G.blk L aM
  have a6:=G.size
  obtain⟨W4,E⟩:∃W4,W4=a.alloc (.cells #[.bool false,.slice none 0 0,.slice none 0 0,.slice none 0 0] 43):=⟨_,rfl⟩
  have aD:BlkIs W4 a.heap.size 43 #[.bool false,.slice none 0 0,.slice none 0 0,.slice none 0 0]:=by rw[E];exact BlkIs.new a _ _
  have aF:Below a.heap.size a W4:=by rw[E];exact below1 _ _
  have r:Below a.heap.size a (W4.setRow a.heap.size N):=below_setRow aF (zH _) _
  have F:=aD.setRow N
  generalize aI:W4.setRow a.heap.size N=W5 at *
  have h5:=h3.grow r
  have Q:=n3.grow r
  have I:=V.below r V.lt
  have a0:=r.size
  have B:=find_gives W5 x Ac cc Ak ck X ci Q (by omega) (by rw[aT];decide) key
  unfold FindOut at B
  rw[U,aR,aV] at B
  rw[<-s] at B
  have aC:=Lib.hid s
  have aL:=Lib.hid E.symm
  have aS:=Lib.hid aI
  clear s E aI h2 h3 n3 aH aN L V aB aF
  go_wp2_with (first
   | (rw[aL.out];refine wp_storeW rfl 43 (.tmp 7) (.tmp 17) rfl a.heap.size rfl rfl rowNod aD rfl aE aP ?_;rw[aS.out])
   | (refine wp_loadW rfl 43 (.tmp 7) rfl a.heap.size rfl rowNod F aE ?_))
  refine B.mono ?_
  rintro e w6 ⟨rfl,f⟩
  have h6:=h5.grow f
  have n6:=Q.grow f
  have H:=I.below f I.lt
  have aJ:=F.below f F.lt
  have a2:=f.size
  obtain⟨g,o,rfl,a5,_⟩:=n6.c.lies (by omega)
  have hr:=cel_at n6.c rfl i hi
  have a4:(i:Int)<(x.cells.length:Int):=by omega
  have d0:w6.cell? ⟨a.heap.size,0,none⟩=some (.bool true):=by rw[aJ.cell,aC.out];simp[nodC,U]
  have d1:w6.cell? ⟨a.heap.size,1,none⟩=some (.slice (some ⟨g,o,none⟩) x.cells.length cc):=by rw[aJ.cell,aC.out];rfl
  have h7:=h6.keepB (growB_setRow w6 (W.heap.size+1) (celC x.cells[i]).toArray) H (by decide) (λm e=>by cases e) (by omega) (by unfold Boxy;decide)
  have aW:=H.setRow (celC x.cells[i]).toArray
  have aO:GrowBut (pgMu K p v) W (w6.setRow (W.heap.size+1) (celC x.cells[i]).toArray):=by
   have A:GrowBut (pgMu K p v) W w6:=((((GrowBut.below O).trans (GrowBut.below q)).trans G).trans (GrowBut.below r)).trans (GrowBut.below f)
   exact⟨A.os,A.tape,A.output,by simp[World.setRow];exact A.size,λj hj hm=>(setRow_other _ _ j _ (by omega)).trans (A.block j hj hm)⟩
  have aX:Names K W v v':=aA.mono (by omega)
  have aY:∀u∈(celC x.cells[i]).toArray.toList,u.oneCell'=true:=four_oneC rfl rfl rfl rfl
  generalize aG:x.cells[i]=cx at *
  have aQ:=Lib.hid aG
  clear aG
  clear h5 h6 Q n6 I F B G aA O q r f
  go_wp2_with (first
   | (refine wp_exec rfl (x_loadM rowCel hr rfl rfl rfl) ?_)
   | (refine wp_storeW rfl 49 (.tmp 4) (.tmp 37) rfl (W.heap.size+1) rfl rfl rowCel H rfl rfl aY ?_))
  exact bodyPost_ret_by (results_two rfl (rval_row (g:=W.heap.size+1) 4 rfl rowCel aW rfl) (rval_tmp 5 rfl)) rfl ⟨v',(by rw[aQ.out];rfl),h7,aU,aX,aO⟩
end
theorem tvalue_short (w:World)(s:Value)(d u:ByteArray)(hu:u.size<=1000000) :
  Calls Tryz.prog 30 #[.agg #[s],.agg (celC ⟨d,u,0,0⟩).toArray] w λe w'=>e = .returned (.string u)/\Below w.heap.size w w':=by
 obtain⟨W1,a⟩:∃W1,W1=((w.alloc (.cells #[s] 74)).alloc (.cells #[.string d,.string u,.int .i64 0,.int .i64 0] 49)).alloc (.cells #[.pointer none,.slice none 0 0] 127):=⟨_,rfl⟩
 have I:Below w.heap.size w W1:=by rw[a];exact below3 _ _ _ _
 have r:BlkIs W1 w.heap.size 74 #[s]:=by rw[a];exact((BlkIs.new w _ _).alloc _).alloc _
 have j:BlkIs W1 (w.heap.size+1) 49 #[.string d,.string u,.int .i64 0,.int .i64 0]:=by
  have:=(BlkIs.new (w.alloc (.cells #[s] 74)) 49 #[.string d,.string u,.int .i64 0,.int .i64 0]).alloc (.cells #[.pointer none,.slice none 0 0] 127)
  rw[World.size_alloc] at this
  rw[a]
  exact this
 have E:BlkIs W1 (w.heap.size+1+1) 127 #[.pointer none,.slice none 0 0]:=by
  have:=BlkIs.new ((w.alloc (.cells #[s] 74)).alloc (.cells #[.string d,.string u,.int .i64 0,.int .i64 0] 49)) 127 #[.pointer none,.slice none 0 0]
  rw[World.size_alloc,World.size_alloc] at this
  rw[a]
  exact this
 have aA:W1.heap.size=w.heap.size+1+1+1:=by rw[a,World.size_alloc,World.size_alloc,World.size_alloc]
 have c3:W1.cell? ⟨w.heap.size+1,1,none⟩=some (.string u):=by rw[j.cell];rfl
 have A:=c3
 rw[a] at A
 have C:=bldWrite (w.heap.size+1+1) u W1 E hu
 have P:=Lib.hid a.symm
 clear a c3
 unfold celC
 go_enter Tryz.func30,Tryz.ntmps30
 go_wp2_with fail
 rw[P.out]
 refine C.mono ?_
 rintro e w2 ⟨rfl,B,f⟩
 have F:=r.below f (by omega)
 have H:=j.below f (by omega)
 have X:=f.size
 have L:=F.boxed
 have U:Below w.heap.size w w2:=I.trans (f.mono (by omega))
 clear C A r j E
 have m:=tlinked_none w2 s (.func (.func 72) #[] #[.pointer (some ⟨w.heap.size+1+1,0,none⟩)]) d u
 unfold celC at m
 go_wp2_with (first
  | (refine wp_loadW rfl 49 (.tmp 3) rfl (w.heap.size+1) rfl rowCel H rfl ?_))
 refine m.mono ?_
 rintro e w3 ⟨⟨z,rfl⟩,h⟩
 have G:Lib.BuilderAt 127 5 (w.heap.size+1+1) (w.heap.size+1+1) (.pointer (some ⟨w.heap.size+1+1,0,none⟩)) (Lib.byteCells u.data.toList) w3:=by
  obtain⟨h1,v,h2,N,M⟩:=B
  exact⟨h1,v,(h.block _ (by omega)).trans h2,ownG_grow N h,M⟩
 have V:=h.size
 have q:=bldString _ _ _ w3 (.inr G) (by omega)
 have O:=U.trans (h.mono (by omega))
 clear m B G F H L
 go_wp2_with fail
 refine q.mono ?_
 rintro e Z ⟨rfl,Q⟩
 clear q
 go_wp2
 go_ret
 exact⟨rfl,O.trans (Q.mono (by omega))⟩
section
variable {W0 W W':World}{K:PgK}{p t:Nat}{v v':PgV}{st last st' last':PgSt}{under:Bool}{mk mk':Value}{ms:List MkT}
theorem tget_is (h:TrAt W0 K p t 0 v st last under mk ms W)(hK:K.Ok)(hN:v.N<=800000)(n:Int)(hn:1<=n/\n<st.size)(hP:n<(K.P:Int))(hT:¬ Tight K v.D)(h0:st.roots[0]? = some n)(x:Nod)(hx:PgNod K v n x)(bL:x.leaf=true)(key:ByteArray)(bW:key.size<=81)(i:Nat)(aX:findAt true (nkeys x) key=i)(a5:findIs true (nkeys x) key=true)(hi:i<x.cells.length)(bF:x.cells.length<=1000)(E u:ByteArray)(hc:x.cells[i]=⟨E,u,0,0⟩)(hu:u.size<=1000000) :
  Calls Tryz.prog 8 #[.pointer (some ⟨t,0,none⟩),.string key] W λe w'=>e = .returned (.tuple #[.string u,.bool true,.int .i64 0])/\∃v',TrAt W0 K p t 0 v' st last under mk ms w'/\KeptP K v v':=by
 have b8:=h.up
 have bU:∀(fn:Fn) (first aU:Array Value) (w:World),(Instr.makeFunc fn first aU).run Tryz.prog w = .ok (.func fn first aU) w:=λ_ _ _ _=>rfl
 have bX:¬ (81:Int)<(key.size:Int):=by omega
 obtain⟨W1,d⟩:∃W1,W1=((W.alloc (.cells #[.string ⟨#[]⟩] 9)).alloc (.cells #[.bool false] 4)).alloc (.cells #[.int .i64 0] 27):=⟨_,rfl⟩
 have aT:Below W.heap.size W W1:=by rw[d];exact below3 _ _ _ _
 have b4:BlkIs W1 W.heap.size 9 #[.string ⟨#[]⟩]:=by rw[d];exact((BlkIs.new W _ _).alloc _).alloc _
 have b5:BlkIs W1 (W.heap.size+1) 4 #[.bool false]:=by
  have:=(BlkIs.new (W.alloc (.cells #[.string ⟨#[]⟩] 9)) 4 #[.bool false]).alloc (.cells #[.int .i64 0] 27)
  rw[World.size_alloc] at this
  rw[d]
  exact this
 have b6:BlkIs W1 (W.heap.size+1+1) 27 #[.int .i64 0]:=by
  have:=BlkIs.new ((W.alloc (.cells #[.string ⟨#[]⟩] 9)).alloc (.cells #[.bool false] 4)) 27 #[.int .i64 0]
  rw[World.size_alloc,World.size_alloc] at this
  rw[d]
  exact this
 have bT:W1.heap.size=W.heap.size+1+1+1:=by rw[d,World.size_alloc,World.size_alloc,World.size_alloc]
 have h1:=h.grow aT
 have a4:=h1.none
 obtain⟨W2,O⟩:∃W2,W2=W1.alloc (.cells #[.pointer (some ⟨t,0,none⟩)] 74):=⟨_,rfl⟩
 have s:Below W1.heap.size W1 W2:=by rw[O];exact below1 _ _
 have L:BlkIs W2 (W.heap.size+1+1+1) 74 #[.pointer (some ⟨t,0,none⟩)]:=by rw[O,<-bT];exact BlkIs.new W1 _ _
 have h2:=h1.grow s
 have aD:=b4.below s b4.lt
 have aL:=b5.below s b5.lt
 have aC:=b6.below s b6.lt
 have b3:=s.size
 have V:=tfind_is h2 hK hN n hn hP hT h0 x hx bL key i aX a5 hi bF
 rw[hc] at V
 have n4:=h2.notB aD (by unfold Boxy;decide)
 have n5:=h2.notB aL (by unfold Boxy;decide)
 have n6:=h2.notB aC (by unfold Boxy;decide)
 have n7:=h2.notB L (by unfold Boxy;decide)
 have a1:=L.boxed
 rw[O] at a1
 have bA:=Lib.hid d.symm
 have bS:=Lib.hid O.symm
 have HC:=Lib.hid hc
 clear d O h h1 hx aX a5 hc h0 hn hP hT b4 b5 b6
 unfold celC at V
 go_enter_defers Tryz.func8,Tryz.ntmps8
 go_wp2_with (first
  | (go_at_call 26;rw[bA.out];refine a4.mono ?_;rintro e w2 ⟨rfl,rfl⟩))
 rw[bS.out]
 refine V.mono ?_
 rintro e a ⟨v',rfl,h3,bQ,bD,B⟩
 have aK:=B.blk aD n4
 have aJ:=B.blk aL n5
 have aG:=B.blk aC n6
 have aH:=B.blk L n7
 have b7:=B.size
 have l7:=L.lt
 obtain⟨W4,X⟩:∃W4,W4=a.alloc (.cells #[.string ⟨#[]⟩,.string ⟨#[]⟩,.int .i64 0,.int .i64 0] 49):=⟨_,rfl⟩
 have aF:BlkIs W4 a.heap.size 49 #[.string ⟨#[]⟩,.string ⟨#[]⟩,.int .i64 0,.int .i64 0]:=by rw[X];exact BlkIs.new a _ _
 have aZ:Below a.heap.size a W4:=by rw[X];exact below1 _ _
 have r:Below a.heap.size a (W4.setRow a.heap.size #[.string E,.string u,.int .i64 0,.int .i64 0]):=below_setRow aZ (zH _) _
 have aW:=aF.setRow #[.string E,.string u,.int .i64 0,.int .i64 0]
 generalize a7:W4.setRow a.heap.size #[.string E,.string u,.int .i64 0,.int .i64 0]=W5 at *
 have h5:=h3.grow r
 have aO:=aK.below r aK.lt
 have I:=aJ.below r aJ.lt
 have aM:=aG.below r aG.lt
 have aY:=aH.below r aH.lt
 have bY:=r.size
 have bB:=I.boxed
 have bR:=I.free 0
 obtain⟨W6,M⟩:∃W6,W6=W5.setCell ⟨W.heap.size+1,0,none⟩ (.bool true):=⟨_,rfl⟩
 have q:GrowBut (λj=>j=W.heap.size+1) W5 W6:=by rw[M];exact GrowBut.setCell _ _ _ rfl
 have h6:=h5.keepB q I (by decide) (λm e=>by cases e) (by omega) (by unfold Boxy;decide)
 have aA:BlkIs W6 (W.heap.size+1) 4 #[.bool true]:=by rw[M];exact I.set 0 _
 have aB:=q.blk aO (by omega)
 have aI:=q.blk aM (by omega)
 have a8:=q.blk aY (by omega)
 have aN:=q.blk aW (by omega)
 have a3:=aA.boxed
 have aS:=a8.boxed
 rw[M] at a3 aS
 have bZ:=q.size
 have HV:=tvalue_short W6 (.pointer (some ⟨t,0,none⟩)) E u hu
 unfold celC at HV
 have bC:=Lib.hid X.symm
 have bN:=Lib.hid a7
 have bO:=Lib.hid M.symm
 clear X a7 M h2 h3 h5 aK aJ aG aH aO I aM aY aD aL aC L B V a4 aZ r aT s bD a1
 go_wp2_with (first
  | (rw[bC.out];refine wp_storeW rfl 49 (.tmp 8) (.tmp 23) rfl a.heap.size rfl rfl rowCel aF rfl rfl (four_oneC rfl rfl rfl rfl) ?_;rw[bN.out])
  | (rw[bO.out];refine wp_loadW rfl 49 (.tmp 8) rfl a.heap.size rfl rowCel aN rfl ?_))
 refine HV.mono ?_
 rintro e w7 ⟨rfl,A⟩
 have h7:=h6.grow A
 have Q:=aB.below A aB.lt
 have aR:=aA.below A aA.lt
 have a0:=aI.below A aI.lt
 have b0:=A.size
 have bV:=Q.boxed
 have f47:=Q.free 0
 have H:GrowBut (λj=>j=W.heap.size) w7 (w7.setCell ⟨W.heap.size,0,none⟩ (.string u)):=GrowBut.setCell _ _ _ rfl
 have h8:=h7.keepB H Q (by decide) (λm e=>by cases e) (by omega) (by unfold Boxy;decide)
 have aQ:=Q.set 0 (.string u)
 have G:=H.blk aR (by omega)
 have a6:=H.blk a0 (by omega)
 have bJ:=G.boxed
 have bH:=G.free 0
 have b2:=H.size
 generalize Z:w7.setCell ⟨W.heap.size,0,none⟩ (.string u)=W8 at *
 have F:GrowBut (λj=>j=W.heap.size+1) W8 (W8.setCell ⟨W.heap.size+1,0,none⟩ (.bool true)):=GrowBut.setCell _ _ _ rfl
 have h9:=h8.keepB F G (by decide) (λm e=>by cases e) (by omega) (by unfold Boxy;decide)
 have aV:=G.set 0 (.bool true)
 have a2:=F.blk aQ (by omega)
 have C:=F.blk a6 (by omega)
 have bI:=C.boxed
 have bM:=C.free 0
 have b1:=F.size
 generalize aE:W8.setCell ⟨W.heap.size+1,0,none⟩ (.bool true)=W9 at *
 have U:GrowBut (λj=>j=W.heap.size+1+1) W9 (W9.setCell ⟨W.heap.size+1+1,0,none⟩ (.int .i64 0)):=GrowBut.setCell _ _ _ rfl
 have bE:=h9.keepB U C (by decide) (λm e=>by cases e) (by omega) (by unfold Boxy;decide)
 have bK:=C.set 0 (.int .i64 0)
 have bP:=U.blk a2 (by omega)
 have bG:=U.blk aV (by omega)
 generalize aP:W9.setCell ⟨W.heap.size+1+1,0,none⟩ (.int .i64 0)=a9 at *
 rw[<-Z] at bJ bH
 rw[<-aE,<-Z] at bI bM
 have HW:=Lib.hid (show ((w7.setCell ⟨W.heap.size,0,none⟩ (.string u)).setCell ⟨W.heap.size+1,0,none⟩ (.bool true)).setCell ⟨W.heap.size+1+1,0,none⟩ (.int .i64 0)=a9 by rw[Z,aE,aP])
 clear Z aE aP h6 h7 h8 h9 q H F U aB Q aQ a2 aA aR G aV aI a0 a6 C a8 aF aW aN HV A bB bR a3 aS
 go_wp2
 rw[HW.out]
 refine leaves_cons (f:=27) (args:=#[.pointer (some ⟨W.heap.size+1+1,0,none⟩),.func (.func 28) #[] #[.pointer (some ⟨W.heap.size,0,none⟩),.pointer (some ⟨W.heap.size+1,0,none⟩)]]) (by simp) (by simp[go_sem]) ?_
 refine(tcaught_idle _ _ _).mono ?_
 rintro e u' wz ⟨rfl,rfl,rfl⟩
 exact⟨_,results_three rfl (rval_cell (p:=⟨W.heap.size,0,none⟩) 4 rfl (by simp[go_sem]) bP.boxed) (rval_cell (p:=⟨W.heap.size+1,0,none⟩) 5 rfl (by simp[go_sem]) bG.boxed) (rval_cell (p:=⟨W.heap.size+1+1,0,none⟩) 6 rfl (by simp[go_sem]) bK.boxed),rfl,v',bE,bQ⟩
end
theorem psize_nil (w:World):Calls Tryz.prog 24 #[.pointer none] w λe w'=>e = .returned (.int .i64 0)/\w=w':=by
 go_enter Tryz.func24,Tryz.ntmps24
 go_wp2_with (go_at_call 69;refine(pnone_nil w).mono ?_;rintro e a ⟨rfl,rfl⟩)
 go_ret
 exact⟨rfl,rfl⟩
theorem topen_nil (w:World)(i:Int):Calls Tryz.prog 6 #[.pointer none,.int .i64 i] w λe w'=>e = .returned (.tuple #[.pointer none,.int .i64 1])/\w=w':=by
 go_enter Tryz.func6,Tryz.ntmps6
 go_wp2_with (go_at_call 24;refine(psize_nil w).mono ?_;rintro e a ⟨rfl,rfl⟩)
 exact bodyPost_ret (results_tmp2 rfl _ _ _) rfl ⟨rfl,rfl⟩
theorem tfree_none (w:World)(s:Value)(d u:ByteArray) :
  Calls Tryz.prog 55 #[.agg #[s],.agg (celC ⟨d,u,0,0⟩).toArray] w λe w'=>(∃z,e = .returned z)/\Below w.heap.size w w':=by
 obtain⟨W1,a⟩:∃W1,W1=((w.alloc (.cells #[s] 74)).alloc (.cells #[.string d,.string u,.int .i64 0,.int .i64 0] 49)).alloc (.cells #[.slice none 0 0] 41):=⟨_,rfl⟩
 have m:Below w.heap.size w W1:=by rw[a];exact below3 _ _ _ _
 have j:BlkIs W1 w.heap.size 74 #[s]:=by rw[a];exact((BlkIs.new w _ _).alloc _).alloc _
 have A:BlkIs W1 (w.heap.size+1) 49 #[.string d,.string u,.int .i64 0,.int .i64 0]:=by
  have:=(BlkIs.new (w.alloc (.cells #[s] 74)) 49 #[.string d,.string u,.int .i64 0,.int .i64 0]).alloc (.cells #[.slice none 0 0] 41)
  rw[World.size_alloc] at this
  rw[a]
  exact this
 have b4:BlkIs W1 (w.heap.size+1+1) 41 #[.slice none 0 0]:=by
  have:=BlkIs.new ((w.alloc (.cells #[s] 74)).alloc (.cells #[.string d,.string u,.int .i64 0,.int .i64 0] 49)) 41 #[.slice none 0 0]
  rw[World.size_alloc,World.size_alloc] at this
  rw[a]
  exact this
 have H:W1.heap.size=w.heap.size+1+1+1:=by rw[a,World.size_alloc,World.size_alloc,World.size_alloc]
 have r:=j.boxed
 rw[a] at r
 have h:=tlinked_none W1 s (.func (.func 99) #[] #[.pointer (some ⟨w.heap.size+1+1,0,none⟩)]) d u
 unfold celC at h ⊢
 have F:=Lib.hid a.symm
 have f:=A
 rw[a] at f
 clear a
 go_enter Tryz.func55,Tryz.ntmps55
 go_wp2_with (first
  | (refine wp_loadW rfl 49 (.tmp 3) rfl (w.heap.size+1) rfl rowCel f rfl ?_))
 rw[F.out]
 refine h.mono ?_
 rintro e C ⟨⟨z,rfl⟩,q⟩
 have E:=b4.below q b4.lt
 have G:=E.boxed
 have B:=m.trans (q.mono m.size)
 clear h j A f b4 r
 go_wp2
 go_loopw [13] (λi wr=>i = .int .i64 0/\wr=C) (λ_ _=>0)
 case atStart=>exact⟨rfl,rfl⟩
 case round =>
  obtain⟨rfl,rfl⟩:=hrel
  go_wp2
  first
   | (go_end0;exact⟨⟨_,rfl⟩,B⟩)
   | (refine bodyPost_ret (results_none rfl _ _ _) rfl ?_;exact⟨⟨_,rfl⟩,B⟩)
section
variable {S T:TypeId}{sz by_:Nat}{z:Value}{ρ:Operand->Value}{w:World}{o:Oper}{x y u:Operand}
theorem x_cutLoA {g n c i:Nat}(a:ElT S T sz by_ z)(f:o.op = .slice S x (some y) none none)(h1:ρ x = .slice (some ⟨g,0,none⟩) n c)(h2:ρ y = .int .i64 (i:Int))(h:i<=n) :
  (execOp ρ o).run Tryz.prog w = .ok (.value (.slice (some ⟨g,if c=i then 0 else i*sz,none⟩) (n - i) (c - i))) w:=by
 have ht:=elT_ut a
 have d:(i:Int)<=(n:Int):=by omega
 have hs:=elT_size a
 by_cases e:c=i
 ·simp[execOp,f,h1,h2,go_sem,run_sliceAt_slice _ _ _ _ _ _ ht,Result.andThen,d,run_slice_l (ht:=ht),a.und,hs,sliced,e]
 ·simp[execOp,f,h1,h2,go_sem,run_sliceAt_slice _ _ _ _ _ _ ht,Result.andThen,d,run_slice_l (ht:=ht),a.und,hs,sliced,e,Addr.add_lit]
theorem x_cutLoHi {g n c i k:Nat}(a:ElT S T sz by_ z)(h:o.op = .slice S x (some y) (some u) none)(h1:ρ x = .slice (some ⟨g,0,none⟩) n c)(h2:ρ y = .int .i64 (i:Int))(f:ρ u = .int .i64 (k:Int))(q:i<=k)(m:k<=c)(hc:i<c) :
  (execOp ρ o).run Tryz.prog w = .ok (.value (.slice (some ⟨g,i*sz,none⟩) (k - i) (c - i))) w:=by
 have ht:=elT_ut a
 have d:(i:Int)<=(k:Int):=by omega
 have j:(k:Int)<=(c:Int):=by omega
 have hs:=elT_size a
 have e:¬ c=i:=by omega
 simp[execOp,h,h1,h2,f,go_sem,run_sliceAt_slice _ _ _ _ _ _ ht,Result.andThen,d,j,run_slice_lh (ht:=ht),a.und,hs,sliced,e,Addr.add_lit]
end
def zC:List Value:=[.string ⟨#[]⟩,.string ⟨#[]⟩,.int .i64 0,.int .i64 0]
theorem zC_cells:(Builtin.zeroCells (Value.cells (.agg #[.string ⟨#[]⟩,.string ⟨#[]⟩,.int .i64 0,.int .i64 0])) 1).toList=zC:=by kernel_rfl
theorem zC_one:∀v∈zC,v.oneCell'=true:=by
 intro v a
 simp[zC] at a
 rcases a with rfl|rfl<;>rfl
theorem x_clearC {ρ:Operand->Value}{w:World}{o:Oper}{x:Operand}{g off cc:Nat}{cur:Array Value}(f:o.op = .call { callee:=.builtin .clear,args:=#[x],argTypes:=#[39] })(h1:ρ x = .slice (some ⟨g,off,none⟩) 1 cc)(e:BlkIs w g 49 cur)(d:off+4<=cur.size) :
  (execOp ρ o).run Tryz.prog w = .ok (.value (.tuple #[])) (w.setRow g (cur.toList.take off++zC++cur.toList.drop (off+zC.length)).toArray):=by
 have a:=run_storeCells_at Tryz.prog g off 49 zC 0 cur w e (by simpa[zC] using d) zC_one
 simp only[Nat.add_zero] at a
 unfold execOp
 simp only[f,resolve,invoke,builtin,Sem.run_bind,Sem.run_pure,Result.andThen_ok,zK,zL,zN,h1]
 simp[Builtin.clear_,run_underlying elInsC.und,zC_cells,a,Result.andThen]
theorem x_appR2 {ρ:Operand->Value}{w w':World}{o:Oper}{x y:Operand}{u v r:Value}(d:o.op = .call { callee:=.builtin .append,args:=#[x,y],argTypes:=#[39,39] })(h1:ρ x=u)(h2:ρ y=v)(a:(Builtin.append_ #[39,39] o.type #[u,v]).run Tryz.prog w = .ok r w'):(execOp ρ o).run Tryz.prog w = .ok (.value r) w':=by
 unfold execOp
 simp only[d,resolve,invoke,builtin,Sem.run_bind,Sem.run_pure,Result.andThen_ok,zK,zL,zN,h1,h2,a]
theorem delC_gives {w:World}{g c n i:Nat}{cur:Array Value}{cs:List Value}(hg:BlkIs w g 49 cur)(B:cur.size=c*4)(F:cs=cur.toList.take (n*4))(hi:i<n)(aM:n<=c)(hn:n<=100000)(aF:∀u∈cs,u.oneCell'=true) :
  Calls Tryz.prog 80 #[.slice (some ⟨g,0,none⟩) n c,.int .i64 (i:Int),.int .i64 ((i+1:Nat):Int)] w λe w'=>e = .returned (.slice (some ⟨g,0,none⟩) (n - 1) c)/\(∃N,BlkIs w' g 49 N/\N.size=cur.size/\N.toList.take ((n - 1)*4)=cs.take (i*4)++cs.drop ((i+1)*4))/\w.grownBy w' (some g):=by
 have aL:¬ ((i:Int)=((i+1:Nat):Int)):=by omega
 go_enter Tryz.func80,Tryz.ntmps80
 have U:cs.length=n*4:=by rw[F,qG,qL,B];omega
 obtain⟨Y,m⟩:∃Y,Y=cs.drop ((i+1)*4):=⟨_,rfl⟩
 have s:Y.length=(n - (i+1))*4:=by rw[m,qQ,U];omega
 obtain⟨i0,aJ,_,L,_⟩:=info_parts elInsC.inf
 have hd:BlkIs w.drew g 49 cur:=hg
 obtain⟨A,hA,Q⟩:∃A,(if c=i+1 then 0 else (i+1)*4)=A/\∀j u,Y[j]? = some u->w.drew.cell? ((⟨g,A,none⟩:Addr).add j)=some u:=by
  refine⟨_,rfl,λj u f => ?_⟩
  have aK:=(List.getElem?_eq_some_iff.1 f).1
  rw[if_neg (by omega),Addr.add_lit,hd.cell]
  rw[m,List.getElem?_drop,F,List.getElem?_take] at f
  split at f
  ·simpa using f
  ·cases f
 have h:∀H I,(Builtin.append_ #[39,39] H #[.slice (some ⟨g,0,none⟩) i c,.slice (some ⟨g,A,none⟩) (n - (i+1)) I]).run Tryz.prog w.drew = .ok (.slice (some ⟨g,0,none⟩) (i+(n - (i+1))) c) (w.drew.setRow g (cur.toList.take (i*4)++Y++cur.toList.drop (i*4+Y.length)).toArray):=λH I=>by
  have:=run_append_room (P:=Tryz.prog) w.drew 39 H 49 i0 elInsC.und aJ g i c cur hd ⟨g,A,none⟩ (n - (i+1)) I Y (by rw[s,L]) Q (λu hu=>aF u (by rw[m] at hu;exact List.mem_of_mem_drop hu)) (by omega) (by rw[L,s,B];omega)
  rw[L] at this
  exact this
 have C:=hd.setRow (cur.toList.take (i*4)++Y++cur.toList.drop (i*4+Y.length)).toArray
 obtain⟨a,E⟩:∃a,a=cur.toList.take (i*4)++Y++cur.toList.drop (i*4+Y.length):=⟨_,rfl⟩
 have aB:a.length=c*4:=by rw[E,zJ,zJ,qG,qQ,qL,s,B];omega
 have O:a.take ((n - 1)*4)=cs.take (i*4)++Y:=by
  rw[E,List.take_left' (by rw[zJ,qG,qL,s,B];omega),F,List.take_take]
  congr 2
  omega
 rw[<-E] at h C
 have X:w.grownBy (w.drew.setRow g a.toArray) (some g):=grownBy_trans (grownBy_drew w _) (setRow_grownBy _ _ _)
 obtain⟨q,aC⟩:∃q,q=w.drew.setRow g a.toArray:=⟨_,rfl⟩
 rw[<-aC] at h C X
 have V:w.grownBy (q.setRow g (a.take ((n - 1)*4)++zC++a.drop ((n - 1)*4+zC.length)).toArray) (some g):=grownBy_trans X (setRow_grownBy _ _ _)
 have aA:=C.setRow (a.take ((n - 1)*4)++zC++a.drop ((n - 1)*4+zC.length)).toArray
 have d:True:=trivial
 have aI:i+(n - (i+1))=n - 1:=by omega
 rw[aI] at h
 have aG:n - (n - 1)=1:=by omega
 go_wp2
 refine RegF.start (λ_=>True) 99 (by kernel_rfl) ?_
 refine RegF.t0 0 (.slice (some ⟨g,0,none⟩) n c) rfl d (λW r=>by go_simp) ?_
 simp only[zE,zB,Act.put,zA,zG,zF]
 refine RegF.t0 1 (.int .i64 (i:Int)) rfl d (λW r=>by go_simp) ?_
 simp only[zE,zD,zB,Act.put,zA,zG,zF]
 refine RegF.t0 2 (.slice (some ⟨g,0,none⟩) i c) rfl d (λW r=>by exact x_cutHi (k:=i) elInsC rfl rfl rfl (by omega)) ?_
 simp only[zE,zD,zB,Act.put,zA,zG,zF]
 refine RegF.t0 3 (.slice (some ⟨g,0,none⟩) n c) rfl d (λW r=>by go_simp) ?_
 simp only[zE,zD,zB,Act.put,zA,zG,zF]
 refine RegF.t0 4 (.int .i64 ((i+1:Nat):Int)) rfl d (λW r=>by go_simp) ?_
 simp only[zE,zD,zB,Act.put,zA,zG,zF]
 refine RegF.t0 5 (.slice (some ⟨g,A,none⟩) (n - (i+1)) (c - (i+1))) rfl d (λW r=>by rw[<-hA];exact x_cutLoA (i:=i+1) elInsC rfl rfl rfl (by omega)) ?_
 simp only[zE,zD,zB,Act.put,zA,zG,zF]
 refine RegF.one 6 (by kernel_rfl) (RegF.opV (w':=q) (.slice (some ⟨g,0,none⟩) (n - 1) c) rfl rfl (by exact x_appR2 rfl rfl rfl (h _ _)) ⟨λ_=>d,?_⟩)
 simp only[zE,zD,zB,Act.put,zA,zG,zF]
 refine RegF.one 7 (by kernel_rfl) (RegF.opV (w':=q) (.slice (some ⟨g,0,none⟩) (n - 1) c) rfl rfl (by go_simp) ⟨λ_=>d,RegF.done (by kernel_rfl) ?_⟩)
 simp only[zE,zD,zB,Act.put,zA,zG]
 have hzl:zC.length=4:=rfl
 obtain⟨Z,G⟩:∃Z,Z=a.take ((n - 1)*4)++zC++a.drop ((n - 1)*4+zC.length):=⟨_,rfl⟩
 rw[<-G] at aA V
 have aD:=Lib.hid G
 have M:=Lib.hid aB
 have aH:=Lib.hid O
 have HY:=Lib.hid m
 clear E aC F hg hd Q hA h m d O aB s U
 have aE:=λ(ρ:Operand->Value) (o:Oper) (x:Operand) ho h1=>x_clearC (ρ:=ρ) (o:=o) (x:=x) (g:=g) (off:=(n - 1)*4) (cc:=c - (n - 1)) ho h1 C (by have:=M.out;simp only[zT];omega)
 simp only[<-G] at aE
 clear G
 go_wp2_with (first
  | (refine wp_exec rfl (x_cutLoHi (i:=n - 1) (k:=n) elInsC rfl rfl rfl rfl (by omega) (by omega) (by omega)) ?_;rw[aG])
  | (refine wp_exec rfl (aE _ _ _ rfl rfl) ?_))
 go_ret
 refine⟨rfl,⟨_,aA,?_,?_⟩,V⟩
 ·have:=M.out
  rw[aD.out]
  simp only[zT,zJ,qG,qQ]
  omega
 ·rw[aD.out]
  show (a.take ((n - 1)*4)++zC++a.drop ((n - 1)*4+zC.length)).take ((n - 1)*4)=_
  rw[List.append_assoc,List.take_left' (by have:=M.out;rw[qG];omega),aH.out,HY.out]
def cutOut (l:List Cel)(i:Nat):List Cel:=l.take i++l.drop (i+1)
theorem cutOut_length (l:List Cel)(i:Nat)(a:i<l.length):(cutOut l i).length=l.length - 1:=by
 unfold cutOut
 rw[zJ,qG,qQ]
 omega
theorem clC_cutOut (l:List Cel)(i:Nat):clC (cutOut l i)=(clC l).take (i*4)++(clC l).drop ((i+1)*4):=by
 rw[clC_takeW,clC_dropW]
 unfold cutOut
 rw[clC_app]
section
variable {W0 W W':World}{K:PgK}{p t:Nat}{k:Int}{v v':PgV}{st last st' last':PgSt}{mk mk':Value}{ms:List MkT}
theorem tcut_leaf (h:TrAt W0 K p t k v st last true mk ms W)(hK:K.Ok)(hN:v.N<=800000)(n:Int)(hn:1<=n/\n<st.size)(hP:n<(K.P:Int))(hT:¬ Tight K v.D)(x:Nod)(hx:PgNod K v n x)(aJ:x.leaf=true)(key:ByteArray)(i:Nat)(b4:findAt true (nkeys x) key=i)(cF:findIs true (nkeys x) key=true)(hi:i<x.cells.length)(cM:x.cells.length<=1000)(A u:ByteArray)(hc:x.cells[i]=⟨A,u,0,0⟩) :
  Calls Tryz.prog 33 #[.agg #[.pointer (some ⟨t,0,none⟩)],.int .i64 n,.string key] W λe w'=>∃v' U cc B E s ci,e = .returned (.agg (nodC ⟨true,cutOut x.cells i,[],[]⟩ U cc B E s ci))/\NIs w' w'.heap.size ⟨true,cutOut x.cells i,[],[]⟩ U cc B E s ci/\TrAt W0 K p t k v' st last true mk ms w'/\KeptP K v v'/\Names K W v v'/\GrowBut (pgMu K p v) W w':=by
 have cV:=h.up
 obtain⟨a0,a4,_⟩:=hx.fits.1.leaf aJ
 obtain⟨W1,F⟩:∃W1,W1=(W.alloc (.cells #[.pointer (some ⟨t,0,none⟩)] 74)).alloc (.cells #[.bool false,.slice none 0 0,.slice none 0 0,.slice none 0 0] 43):=⟨_,rfl⟩
 have aR:Below W.heap.size W W1:=by rw[F];exact below2 _ _ _
 have b3:BlkIs W1 W.heap.size 74 #[.pointer (some ⟨t,0,none⟩)]:=by rw[F];exact(BlkIs.new W _ _).alloc _
 have b6:BlkIs W1 (W.heap.size+1) 43 #[.bool false,.slice none 0 0,.slice none 0 0,.slice none 0 0]:=by
  have:=BlkIs.new (W.alloc (.cells #[.pointer (some ⟨t,0,none⟩)] 74)) 43 #[.bool false,.slice none 0 0,.slice none 0 0,.slice none 0 0]
  rw[World.size_alloc] at this
  rw[F]
  exact this
 have cW:W1.heap.size=W.heap.size+1+1:=by rw[F,World.size_alloc,World.size_alloc]
 have h1:=h.grow aR
 have bB:=tnodeO_gives h1 hK hN n hn hP hT x hx
 have bD:=b3.boxed
 rw[F] at bD
 have bW:=Lib.hid F.symm
 have cC:=h1.notB b3 (by unfold Boxy;decide)
 have b2:=h1.notB b6 (by unfold Boxy;decide)
 clear F h
 go_enter Tryz.func33,Tryz.ntmps33
 go_wp2_with fail
 rw[bW.out]
 refine bB.mono ?_
 rintro e w2 ⟨v',U,cc,B,E,s,ci,rfl,n2,h2,bV,bJ,Z,wx,bQ,aZ,cQ,aG⟩
 obtain⟨N,V⟩:∃N,N=nodC x U cc B E s ci:=⟨_,rfl⟩
 have bI:N.size=4:=by rw[V];rfl
 have b0:∀u∈N.toList,u.oneCell'=true:=by rw[V];exact four_oneC rfl rfl rfl rfl
 rw[<-V]
 have aO:=Z.blk b3 cC
 have aP:=Z.blk b6 b2
 have cS:W.heap.size+2<=w2.heap.size:=by have:=Z.size;omega
 obtain⟨W3,aN⟩:∃W3,W3=w2.alloc (.cells #[.bool false,.slice none 0 0,.slice none 0 0,.slice none 0 0] 43):=⟨_,rfl⟩
 have aT:BlkIs W3 w2.heap.size 43 #[.bool false,.slice none 0 0,.slice none 0 0,.slice none 0 0]:=by rw[aN];exact BlkIs.new w2 _ _
 have bH:Below w2.heap.size w2 W3:=by rw[aN];exact below1 _ _
 have aD:Below w2.heap.size w2 (W3.setRow w2.heap.size N):=below_setRow bH (zH _) _
 have C:=aT.setRow N
 generalize a9:W3.setRow w2.heap.size N=W4 at *
 have n4:=n2.grow aD
 have aA:=aO.below aD aO.lt
 have aC:=aP.below aD aP.lt
 have b7:=aD.size
 have HF:=find_gives W4 x U cc B E s ci n4 (by omega) (by rw[a0];decide) key
 unfold FindOut at HF
 rw[aJ,b4,cF] at HF
 rw[<-V] at HF
 have aI:=Lib.hid V
 have b8:=Lib.hid aN.symm
 have bX:=Lib.hid a9
 clear V aN a9 h1 h2 n2 b3 b6 bD aO aP hn bB bH
 go_wp2_with (first
  | (rw[b8.out];refine wp_storeW rfl 43 (.tmp 7) (.tmp 12) rfl w2.heap.size rfl rfl rowNod aT rfl bI b0 ?_;rw[bX.out])
  | (refine wp_loadW rfl 43 (.tmp 7) rfl w2.heap.size rfl rowNod C bI ?_))
 refine HF.mono ?_
 rintro e w5 ⟨rfl,a⟩
 have H:Below w5.heap.size w5 w5.drew:=(Below.refl _ _).drew
 have aH:Below w2.heap.size w2 w5.drew:=(aD.trans (a.mono b7)).trans (H.mono (by have:=a.size;omega))
 have n5:=(n4.grow a).grow H
 have aM:=(aA.below a aA.lt).below H (aA.below a aA.lt).lt
 have aQ:=(aC.below a aC.lt).below H (aC.below a aC.lt).lt
 have aE:=(C.below a C.lt).below H (C.below a C.lt).lt
 have bG:=C.below a C.lt
 have d0:w5.cell? ⟨w2.heap.size,0,none⟩=some (.bool true):=by rw[bG.cell,aI.out];simp[nodC,aJ]
 have oc:=ownG_later aG.c (w':=w5.drew) (λr hr=>aH.block r (ownG_lt aG.c r hr))
 obtain⟨g,G,cur,eA,cJ,aL,cH,aX,bN,a5⟩:∃g G,∃cur:Array Value,Value.slice U x.cells.length cc = .slice (some ⟨g,0,none⟩) x.cells.length G/\wx.heap.size<=g/\BlkIs w5.drew g 49 cur/\x.cells.length<=G/\G<=maxLen/\cur.size=G*4/\clC x.cells=cur.toList.take (x.cells.length*4):=by
  rcases oc.2 with⟨_,h0⟩|⟨g,G,cur,e,hb,hg,hle,aX,hsz,htk⟩
  ·omega
  ·exact⟨g,G,cur,e,hb,hg,hle,aX,hsz,htk.symm⟩
 injection eA with eA1 _ eA3
 subst eA1 eA3
 have hr:w5.drew.rangeAt g (0+i*4) (celC ⟨A,u,0,0⟩):=by rw[<-hc];exact cel_at n5.c rfl i hi
 rw[qC] at hr
 have b9:(i:Int)<(x.cells.length:Int):=by omega
 have bU:(0:Int)<=(i:Int):=by omega
 have bR:w5.drew.cell? ⟨w2.heap.size,1,none⟩=some (.slice (some ⟨g,0,none⟩) x.cells.length cc):=by rw[aE.cell,aI.out];rfl
 have f:BlkIs w5.drew W.heap.size 74 #[.pointer (some ⟨t,0,none⟩)]/\w5.drew.cell? ⟨w2.heap.size,1,none⟩=some (.slice (some ⟨g,0,none⟩) x.cells.length cc)/\w5.drew.rangeAt g (i*4) (celC ⟨A,u,0,0⟩):=⟨aM,bR,hr⟩
 have bS:=λW=>tfree_none W (.pointer (some ⟨t,0,none⟩)) A u
 have cI:w5.drew.heap.size=w5.heap.size:=rfl
 have cL:=a.size
 have b1:=aL.lt
 clear a H HF aA aC C bG hr bR n4 aT hc
 go_wp2_with fail
 refine RegF.start (λW':World=>BlkIs W' W.heap.size 74 #[.pointer (some ⟨t,0,none⟩)]/\W'.cell? ⟨w2.heap.size,1,none⟩=some (.slice (some ⟨g,0,none⟩) x.cells.length cc)/\W'.rangeAt g (i*4) (celC ⟨A,u,0,0⟩)) 99 (by kernel_rfl) ?_
 generalize w5.drew=wd at *
 refine RegF.t0 0 (.agg #[.pointer (some ⟨t,0,none⟩)]) rfl f (λW ⟨I,e1,M⟩=>by exact x_loadQ rowStep I rfl rfl rfl) ?_
 simp only[zE,zB,Act.put,zA,zG,zF]
 refine RegF.t0 1 (.pointer (some ⟨w2.heap.size,1,none⟩)) rfl f (λW ⟨I,e1,M⟩=>by go_simp) ?_
 simp only[zE,zD,zB,Act.put,zA,zG,zF]
 refine RegF.t0 2 (.slice (some ⟨g,0,none⟩) x.cells.length cc) rfl f (λW ⟨I,e1,M⟩=>by go_simp) ?_
 simp only[zE,zD,zB,Act.put,zA,zG,zF]
 refine RegF.t0 3 (.int .i64 (i:Int)) rfl f (λW ⟨I,e1,M⟩=>by go_simp) ?_
 simp only[zE,zD,zB,Act.put,zA,zG,zF]
 refine RegF.t0 4 (.pointer (some ⟨g,i*4,none⟩)) rfl f (λW ⟨I,e1,M⟩=>by go_simp) ?_
 simp only[zE,zD,zB,Act.put,zA,zG,zF]
 refine RegF.t0 5 (.agg (celC ⟨A,u,0,0⟩).toArray) rfl f (λW ⟨I,e1,M⟩=>by exact x_loadM rowCel M rfl rfl rfl) ?_
 simp only[zE,zD,zB,Act.put,zA,zG,zF]
 refine RegF.one 6 (by kernel_rfl) ?_
 refine RegF.opC 55 #[.tmp 34,.tmp 39] #[74,49] rfl rfl rfl (enters_of Tryz.func55 (by kernel_rfl) rfl) #[.agg #[.pointer (some ⟨t,0,none⟩)],.agg (celC ⟨A,u,0,0⟩).toArray] (by simp only[zK,zL,zN];rfl) ((bS _).mono ?_)
 rintro e w6 ⟨⟨z,rfl⟩,q⟩
 have bL:=aM.below q aM.lt
 have aW:=aQ.below q aQ.lt
 have a3:=aE.below q aE.lt
 have a7:=aL.below q aL.lt
 have n6:=n5.grow q
 have cN:=q.size
 have aY:BlkIs w6 W.heap.size 74 #[.pointer (some ⟨t,0,none⟩)]/\w6.cell? ⟨w2.heap.size,1,none⟩=some (.slice (some ⟨g,0,none⟩) x.cells.length cc)/\w6.rangeAt g (i*4) (celC ⟨A,u,0,0⟩):=⟨bL,(q.cell (p:=⟨w2.heap.size,1,none⟩) aE.lt).trans f.2.1,λj y d=>(q.cell (p:=⟨g,i*4+j,none⟩) b1).trans (f.2.2 j y d)⟩
 refine⟨_,rfl,λ_=>aY,RegF.done (by kernel_rfl) ?_⟩
 simp only[zE,zD,zB,Act.put,zA,zG,zF]
 have aF:Below w2.heap.size w2 w6:=aH.trans (q.mono aH.size)
 have aS:=delC_gives (w:=w6) (i:=i) a7 bN a5 hi cH (by omega) (clC_one _)
 have ei:((i+1:Nat):Int)=(i:Int)+1:=by omega
 rw[ei] at aS
 have cO:IntKind.i64.wrap ((i:Int)+1)=(i:Int)+1:=wrapN _ (by omega) (by omega)
 have cA:=aY.2.1
 have cK:=Lib.hid ei
 clear ei f aY aM aQ aE aL bN a5 n5 bS oc
 go_wp2_with fail
 refine aS.mono ?_
 rintro e w7 ⟨rfl,⟨cur',a8,b5,bP⟩,Q⟩
 have a6:=aZ.size
 have bO:Below W.heap.size w2 w7:=((aF.mono (by omega)).grown Q (by have:=aF.size;omega) (λr e=>by injection e with e;omega))
 have bF:Below wx.heap.size wx w7:=((aZ.trans (aF.mono a6)).grown Q (by have:=aF.size;omega) (λr e=>by injection e with e;omega))
 have cP:=Q.size
 have bE:w2.heap.size≠g:=λe=>by
  have:=ownG_lt aG.c g rfl
  omega
 have aK:BlkIs w7 w2.heap.size 43 N:=(Q.block _ a3.lt (λe=>bE (Option.some.inj e))).trans a3
 have bK:BlkIs w7 (W.heap.size+1) 43 #[.bool false,.slice none 0 0,.slice none 0 0,.slice none 0 0]:=(Q.block _ aW.lt (λe=>by injection e with e;omega)).trans aW
 have cT:w7.cell? ⟨w2.heap.size,1,none⟩=some (.slice (some ⟨g,0,none⟩) x.cells.length cc):=by rw[aK.cell,aI.out];rfl
 have cU:=aK.free 1
 obtain⟨W8,O⟩:∃W8,W8=w7.setCell ⟨w2.heap.size,1,none⟩ (.slice (some ⟨g,0,none⟩) (x.cells.length - 1) cc):=⟨_,rfl⟩
 obtain⟨N8,aB⟩:∃N8,N8=nodC ⟨true,cutOut x.cells i,[],[]⟩ (some ⟨g,0,none⟩) cc B E s ci:=⟨_,rfl⟩
 have bA:N.setIfInBounds 1 (.slice (some ⟨g,0,none⟩) (x.cells.length - 1) cc)=N8:=by
  rw[aB,aI.out]
  unfold nodC
  simp[aJ,a0,a4,cutOut_length _ _ hi]
 have cG:BlkIs W8 w2.heap.size 43 N8:=by rw[O,<-bA];exact aK.set 1 _
 have g8:GrowBut (λj=>j=w2.heap.size) w7 W8:=by rw[O];exact GrowBut.setCell _ _ _ rfl
 have a1:=g8.blk bK (by omega)
 have bC:Below wx.heap.size wx W8:=by rw[O];exact bF.setCell (p:=⟨w2.heap.size,1,none⟩) a6 _
 have L:Below W.heap.size w2 W8:=by rw[O];exact bO.setCell (p:=⟨w2.heap.size,1,none⟩) (by show W.heap.size<=w2.heap.size;omega) _
 have cR:=g8.size
 have h8:=bQ.grow bC
 have h9:=h8.keepB (growB_setRow W8 (W.heap.size+1) N8) a1 (by decide) (λm e=>by cases e) (by omega) (by unfold Boxy;decide)
 have bT:=a1.setRow N8
 have aU:N8.size=4:=by rw[aB];rfl
 have cD:∀u∈N8.toList,u.oneCell'=true:=by rw[aB];exact four_oneC rfl rfl rfl rfl
 have aV:=cutOut_length x.cells i hi
 have bM:=g8.blk a8 (λe=>bE e.symm)
 have a2:BlkIs (W8.setRow (W.heap.size+1) N8) g 49 cur':=(setRow_other W8 _ g N8 (by omega)).trans bM
 have n9:NIs (W8.setRow (W.heap.size+1) N8) (W8.setRow (W.heap.size+1) N8).heap.size ⟨true,cutOut x.cells i,[],[]⟩ (some ⟨g,0,none⟩) cc B E s ci:=by
  refine⟨?_,?_,?_⟩
  ·show InG _ _ 4 _ (cutOut x.cells i).length cc (clC (cutOut x.cells i))
   rw[aV]
   refine⟨by omega,aX,(λe=>by cases e),?_,clC_one _,λ_=>⟨g,0,rfl,a2.lt,λj y d => ?_⟩⟩
   ·rw[clC_length,aV]
   ·rw[qC,a2.cell]
    rw[clC_cutOut,<-bP,List.getElem?_take] at d
    split at d
    ·simpa using d
    ·cases d
  ·have:=n6.k
   rw[a0] at this
   exact⟨this.le,this.max,this.nil,rfl,(λu hu=>by cases hu),λh0=>absurd h0 (Nat.lt_irrefl 0)⟩
  ·have:=n6.i
   rw[a4] at this
   exact⟨this.le,this.max,this.nil,rfl,(λu hu=>by cases hu),λh0=>absurd h0 (Nat.lt_irrefl 0)⟩
 have bY:GrowBut (pgMu K p v) W (W8.setRow (W.heap.size+1) N8):=by
  have X:GrowBut (pgMu K p v) W w2:=(GrowBut.below aR).trans Z
  exact⟨L.os.trans X.os,L.tape.trans X.tape,L.output.trans X.output,by simp[World.setRow];exact zU X.size L.size,λj d hm=>((setRow_other _ _ j _ (by omega)).trans (L.block j d)).trans (X.block j d hm)⟩
 have cE:Names K W v v':=bJ.mono aR.size
 have bZ:=Lib.hid aB
 have cB:=Lib.hid O.symm
 clear aB O bA g8 h8 bC L bO bF bQ aG aZ Z bJ aH aF aK bK aW a3 bL n6 a7 a8 bM a2 aV Q b5 bP aS cA b9 bU d0
 go_wp2_with (first
  | (rw[cB.out];refine wp_loadW rfl 43 (.tmp 7) rfl w2.heap.size rfl rowNod cG aU ?_)
  | (refine wp_storeW rfl 43 (.tmp 6) (.tmp 48) rfl (W.heap.size+1) rfl rfl rowNod a1 rfl aU cD ?_))
 exact bodyPost_ret_by (results_one rfl (rval_row (g:=W.heap.size+1) 6 rfl rowNod bT aU)) rfl ⟨v',_,cc,B,E,s,ci,by rw[bZ.out],n9,h9,bV,cE,bY⟩
end
section
variable {W0 W W':World}{K:PgK}{p t:Nat}{v v':PgV}{st last st' last':PgSt}{mk mk':Value}{ms:List MkT}
theorem GrowBut.freshX {X:Nat->Prop}{w d w2:World}(h2:GrowBut (λj=>pgMu K p v' j∨X j) d w2)(h1:GrowBut (λj=>pgMu K p v j∨X j) w d)(hn:Names K w v v')(hs:w.heap.size<=d.heap.size):GrowBut (λj=>pgMu K p v j∨X j) w w2 :=
 ⟨h2.os.trans h1.os,h2.tape.trans h1.tape,h2.output.trans h1.output,zU h1.size h2.size,λk f a=>(h2.block k (zO f hs) (λe=>by
  rcases e with(e|e)|e
  ·exact a (.inl (.inl e))
  ·rcases hn k e with e|e
   ·exact a (.inl (.inr e))
   ·omega
  ·exact a (.inr e))).trans (h1.block k f a)⟩
theorem tdel1_leaf (h:TrAt W0 K p t 0 v st last true mk ms W)(hK:K.Ok)(hN:v.N<=600000)(n:Int)(hn:1<=n/\n<st.size)(hP:n<(K.P:Int))(Z:¬ Tight K v.D)(h0:st.roots[0]? = some n)(x:Nod)(hx:PgNod K v n x)(a2:x.leaf=true)
  (key:ByteArray) (i:Nat) (a3:findAt true (nkeys x) key=i) (bB:findIs true (nkeys x) key=true) (hi:i<x.cells.length) (b4:x.cells.length<=900) (h2:2<=x.cells.length) (kk u:ByteArray) (hc:x.cells[i]=⟨kk,u,0,0⟩) (hR:RightP ⟨true,cutOut x.cells i,[],[]⟩) (aG:(laidB ⟨true,cutOut x.cells i,[],[]⟩).length<=512) {q1 a:Nat} (b1:BlkIs W q1 9 #[.string key]) (b2:BlkIs W a 4 #[.bool false]) (bV:W0.heap.size<=a) :
  Calls Tryz.prog 32 #[.agg #[.pointer (some ⟨t,0,none⟩)],.pointer (some ⟨q1,0,none⟩),.pointer (some ⟨a,0,none⟩)] W λe w'=>∃v',(∃z,e = .returned z)/\TrAt W0 K p t 0 v' st last true mk ms w'/\(PutP K v n ⟨true,cutOut x.cells i,[],[]⟩ 6 v'/\BlkIs w' a 4 #[.bool true])/\Names K W v v'/\GrowBut (λj=>pgMu K p v j∨j=a) W w':=by
 have aU:=cutOut_length x.cells i hi
 obtain⟨W1,I⟩:∃W1,W1=W.alloc (.cells #[.pointer (some ⟨t,0,none⟩)] 74):=⟨_,rfl⟩
 have F:Below W.heap.size W W1:=by rw[I];exact below1 _ _
 have Q:BlkIs W1 W.heap.size 74 #[.pointer (some ⟨t,0,none⟩)]:=by rw[I];exact BlkIs.new W _ _
 have h1:=h.grow F
 have cD:=h.up
 have aC:=b1.below F b1.lt
 have aR:=b2.below F b2.lt
 have b6:=F.size
 have l2:=b2.lt
 have l1:=b1.lt
 have a0:=Q.boxed
 have aX:=aC.boxed
 rw[I] at a0 aX
 have HF:=tfind_is h1 hK (by omega) n hn hP Z h0 x hx a2 key i a3 bB hi (by omega)
 have bC:=h1.notB aC (by unfold Boxy;decide)
 have V:=h1.notB aR (by unfold Boxy;decide)
 have aE:=h1.notB Q (by unfold Boxy;decide)
 have bJ:=Lib.hid I.symm
 clear I h
 go_enter Tryz.func32,Tryz.ntmps32
 go_wp2_with fail
 rw[bJ.out]
 refine HF.mono ?_
 rintro e w2 ⟨v2,rfl,a9,d,a7,E⟩
 have aJ:=E.blk aC bC
 have B:=E.blk aR V
 have aH:=E.blk Q aE
 have b9:=E.size
 have b0:=B.boxed
 have f22:=B.free 0
 obtain⟨W3,M⟩:∃W3,W3=w2.setCell ⟨a,0,none⟩ (.bool true):=⟨_,rfl⟩
 have G:GrowBut (λj=>j=a) w2 W3:=by rw[M];exact GrowBut.setCell _ _ _ rfl
 have h3:=a9.keepB G B (by decide) (λm e=>by cases e) bV (by unfold Boxy;decide)
 have aB:BlkIs W3 a 4 #[.bool true]:=by rw[M];exact B.set 0 _
 have U:=G.blk aJ (λe=>BlkIs.ne_type aJ B (by decide) e)
 have O:=G.blk aH (λe=>BlkIs.ne_type aH B (by decide) e)
 have cB:=G.size
 have bD:=aB.boxed
 have a4:=O.boxed
 have bQ:=U.boxed
 have HR:=troot_gives h3 (i:=0) rfl h0
 have bY:PgNod K v2 n x:=hx.kept d
 have bA:=bD
 have a5:=a4
 rw[M] at bA a5
 have bP:=Lib.hid M.symm
 have bW:GrowBut (λj=>pgMu K p v j∨j=a) W W3:=by
  have g1:GrowBut (pgMu K p v) W w2:=(GrowBut.below F).trans E
  exact(g1.more λj q _ => .inl q).trans (G.more λj q _ => .inr q)
 have aV:Names K W v v2:=a7.mono F.size
 clear M h1 a9 Q aC aR aJ B aH E G HF a0 aX bC V aE hx a7
 go_wp2_with fail
 rw[bP.out]
 refine HR.mono ?_
 rintro e w4 ⟨rfl,A⟩
 have h4:=h3.grow A
 have aZ:=U.below A U.lt
 have aN:=aB.below A aB.lt
 have aA:=O.below A O.lt
 have bX:=aA.boxed
 have bI:=aZ.boxed
 have cA:=A.size
 have HC:=tcut_leaf h4 hK (by have:=d.nn;omega) n hn hP (by rw[d.dd];exact Z) x bY a2 key i a3 bB hi (by omega) kk u hc
 have V:=h4.notB aN (by unfold Boxy;decide)
 have aE:=h4.notB aA (by unfold Boxy;decide)
 clear HR h3 U aB O bD a4 bQ bA a5 f22
 go_wp2_with fail
 refine HC.mono ?_
 rintro e w5 ⟨v5,Ac,cc,Ak,ck,Ai,ci,rfl,n5,h5,f,bG,L⟩
 obtain⟨y,s⟩:∃y:Nod,y=⟨true,cutOut x.cells i,[],[]⟩:=⟨_,rfl⟩
 have bN:y.leaf=true:=by rw[s]
 have bM:y.cells.length=x.cells.length - 1:=by rw[s];exact aU
 rw[<-s] at n5 hR aG ⊢
 have bH:y.keys=[]:=by rw[s]
 have bL:y.kids=[]:=by rw[s]
 obtain⟨N,C⟩:∃N,N=nodC y Ac cc Ak ck Ai ci:=⟨_,rfl⟩
 have a6:N.size=4:=by rw[C];rfl
 have bO:∀u∈N.toList,u.oneCell'=true:=by rw[C];exact four_oneC rfl rfl rfl rfl
 have aK:=L.blk aN V
 have aI:=L.blk aA aE
 have bZ:=L.size
 obtain⟨W6,aD⟩:∃W6,W6=w5.alloc (.cells #[.bool false,.slice none 0 0,.slice none 0 0,.slice none 0 0] 43):=⟨_,rfl⟩
 have a1:BlkIs W6 w5.heap.size 43 #[.bool false,.slice none 0 0,.slice none 0 0,.slice none 0 0]:=by rw[aD];exact BlkIs.new w5 _ _
 have bF:Below w5.heap.size w5 W6:=by rw[aD];exact below1 _ _
 have r:Below w5.heap.size w5 (W6.setRow w5.heap.size N):=below_setRow bF (zH _) _
 have aO:=a1.setRow N
 generalize aY:W6.setRow w5.heap.size N=W7 at *
 have h7:=h5.grow r
 have n7:=n5.grow r
 have aM:=aK.below r aK.lt
 have a8:=aI.below r aI.lt
 have bU:=a8.boxed
 have b5:=r.size
 have d0:W7.cell? ⟨w5.heap.size,0,none⟩=some (.bool true):=by rw[aO.cell,C];simp[nodC,bN]
 have d1:W7.cell? ⟨w5.heap.size,1,none⟩=some (.slice Ac y.cells.length cc):=by rw[aO.cell,C];rfl
 have aP:=twrite_gives h7 hK (by have:=d.nn;have:=f.nn;omega) n hn hP (by rw[f.dd,d.dd];exact Z) y Ac cc Ak ck Ai ci n7 (by omega) (by rw[bH];decide) (by rw[bL];decide) hR aG
 have bR:=h7.notB aM (by unfold Boxy;decide)
 rw[<-C] at aP ⊢
 have b7:¬ (y.cells.length:Int)=0:=by omega
 have cC:¬ y.cells.length=0:=by omega
 have b8:=Lib.hid C
 have bS:=Lib.hid aD.symm
 have bK:=Lib.hid aY
 have bT:=Lib.hid s
 have aW:GrowBut (λj=>pgMu K p v j∨j=a) W W7 :=
  (GrowBut.freshX (v:=v) (v':=v2) (X:=λj=>j=a) (L.more λj q _ => .inl q) (bW.trans (GrowBut.below A)) aV (by omega)).trans (GrowBut.below r)
 have aF:Names K W v v5:=aV.trans bG (by omega)
 clear C aD aY s h4 h5 n5 aZ aN aA bX bI aK aI L HC A bF r aU bM
 go_wp2_with (first
  | (rw[bS.out];refine wp_storeW rfl 43 (.tmp 5) (.tmp 20) rfl w5.heap.size rfl rfl rowNod a1 rfl a6 bO ?_;rw[bK.out])
  | (refine wp_loadW rfl 43 (.tmp 5) rfl w5.heap.size rfl rowNod aO a6 ?_))
 refine aP.mono ?_
 rintro e w8 ⟨v8,⟨z,rfl⟩,h8,H,aT,aQ⟩
 have aS:=aQ.blk aM bR
 have hG:GrowBut (λj=>pgMu K p v j∨j=a) W w8:=GrowBut.freshX (v':=v5) (aQ.more λj q _ => .inl q) aW aF (by omega)
 have bE:Names K W v v8:=aF.trans aT (by omega)
 have aL:PutP K v n y 6 v8:=⟨by have:=d.nn;have:=f.nn;have:=H.nn;omega,(H.ii.trans f.ii).trans d.ii,(H.yy.trans f.yy).trans d.yy,(H.sz.trans f.sz).trans d.sz,by rw[H.dd,f.dd,d.dd]⟩
 rw[bT.out] at aL
 clear aP h7 n7 aM a8 bU aQ aT H f d aW aF Z hR aG
 go_wp2
 first
  | (go_end0;exact⟨v8,⟨_,rfl⟩,h8,⟨aL,aS⟩,bE,hG⟩)
  | (refine bodyPost_ret (results_none rfl _ _ _) rfl ?_;exact⟨v8,⟨_,rfl⟩,h8,⟨aL,aS⟩,bE,hG⟩)
theorem tdelete_leaf (h:TrAt W0 K p t 0 v st last true mk ms W)(s:K.Ok)(aI:ms.length<=800)(hN:v.N<=600000)(n:Int)(hn:1<=n/\n<st.size)(hP:n<(K.P:Int))(A:¬ Tight K v.D)(U:st.roots[0]? = some n)(x:Nod)(L:PgNod K v n x)(aA:x.leaf=true)
  (key:ByteArray) (aK:key.size<=81) (i:Nat) (F:findAt true (nkeys x) key=i) (H:findIs true (nkeys x) key=true) (hi:i<x.cells.length) (aC:x.cells.length<=900) (h2:2<=x.cells.length) (Q u:ByteArray) (hc:x.cells[i]=⟨Q,u,0,0⟩) (V:RightP ⟨true,cutOut x.cells i,[],[]⟩) (G:(laidB ⟨true,cutOut x.cells i,[],[]⟩).length<=512) :
  Calls Tryz.prog 9 #[.pointer (some ⟨t,0,none⟩),.string key] W λe w'=>e = .returned (.tuple #[.bool true,.int .i64 0])/\∃v' mk',TrAt W0 K p t 0 v' st last true mk' ms w'/\PutP K v n ⟨true,cutOut x.cells i,[],[]⟩ 6 v':=by
 have aM:=h.up
 obtain⟨W1,a⟩:∃W1,W1=(W.alloc (.cells #[.string key] 9)).alloc (.cells #[.bool false] 4):=⟨_,rfl⟩
 have Z:Below W.heap.size W W1:=by rw[a];exact below2 _ _ _
 have q:BlkIs W1 W.heap.size 9 #[.string key]:=by rw[a];exact(BlkIs.new W _ _).alloc _
 have b4:BlkIs W1 (W.heap.size+1) 4 #[.bool false]:=by
  have:=BlkIs.new (W.alloc (.cells #[.string key] 9)) 4 #[.bool false]
  rw[World.size_alloc] at this
  rw[a]
  exact this
 have aG:W1.heap.size=W.heap.size+1+1:=by rw[a,World.size_alloc,World.size_alloc]
 have h1:=h.grow Z
 have O:=h1.none
 have aL:¬ (81:Int)<(key.size:Int):=by omega
 have C:=tdone2_gives h1 s aI 32 (.pointer (some ⟨W.heap.size,0,none⟩)) (.pointer (some ⟨W.heap.size+1,0,none⟩)) (enters_of Tryz.func32 (by kernel_rfl) rfl) (λj=>j=W.heap.size+1) (λj e=>by rw[e,aG];omega)
  (λv' st' w'=>st'=st/\PutP K v n ⟨true,cutOut x.cells i,[],[]⟩ 6 v'/\BlkIs w' (W.heap.size+1) 4 #[.bool true]) (λW' mk' M r hs ht=>by
   refine(tdel1_leaf ht s hN n hn hP A U x L aA key i F H hi aC h2 Q u hc V G (r _ _ _ q (by unfold Boxy;decide)) (r _ _ _ b4 (by unfold Boxy;decide)) (by omega)).mono ?_
   rintro e w' ⟨v',hz,aB,⟨hP,X⟩,aF,hG⟩
   exact⟨v',_,hz,aB,⟨rfl,hP,X⟩,aF,hG⟩)
 have c3:=q.boxed
 have aE:=Lib.hid a.symm
 clear a h A U V G L F H hn hc q
 go_enter Tryz.func9,Tryz.ntmps9
 go_wp2_with (first
  | (go_at_call 26;rw[aE.out];refine O.mono ?_;rintro e w2 ⟨rfl,rfl⟩))
 refine C.mono ?_
 rintro e E ⟨v',st',w1,rfl,⟨rfl,hP,aD⟩,f⟩
 obtain⟨mk',B⟩:=f.at_
 have d:=f.keep _ _ _ (by omega) aD (by unfold Boxy;decide)
 have aJ:=d.boxed
 have aN:=d.free 0
 have I:GrowBut (λj=>j=W.heap.size+1) E (E.setCell ⟨W.heap.size+1,0,none⟩ (.bool true)):=GrowBut.setCell _ _ _ rfl
 have h4:=B.keepB I d (by decide) (λm e=>by cases e) (by omega) (by unfold Boxy;decide)
 have aH:=d.set 0 (.bool true)
 clear C O f b4 h1 B I d
 go_wp2
 exact bodyPost_ret_by (results_two rfl (rval_cell (p:=⟨W.heap.size+1,0,none⟩) 4 rfl (by simp[go_sem]) aH.boxed) (rval_tmp 5 rfl)) rfl ⟨rfl,v',mk',h4,hP⟩
end
theorem SL4 {l:Array Bool}{w:World}{k1 k2 k3 k4:Nat}{a h e d:Addr}{u1 u2 u3 u4:Value}(h1:l.getD k1 true=false->w.cell? a=some u1)(h2:l.getD k2 true=false->w.cell? h=some u2)(m:l.getD k3 true=false->w.cell? e=some u3)(j:l.getD k4 true=false->w.cell? d=some u4):RegL.SL [(k1,a,u1),(k2,h,u2),(k3,e,u3),(k4,d,u4)] l w:=by
 intro x f
 simp only[List.mem_cons,List.not_mem_nil,or_false] at f
 rcases f with rfl|rfl|rfl|rfl
 ·exact h1
 ·exact h2
 ·exact m
 ·exact j
theorem tcheck2_one (W:World){a b c s:Nat}{P:Value}{x:Nod}{Ac:Option Addr}{cc:Nat}{Ak:Option Addr}{ck:Nat}{Ai:Option Addr}{ci:Nat}(ha:BlkIs W a 3 #[.int .i64 0])(I:BlkIs W b 3 #[.int .i64 0])(hc:BlkIs W c 3 #[.int .i64 0])(hs:BlkIs W s 74 #[P])(aU:a≠b)(aV:a≠c)(a3:b≠c)(hx:NIs W W.heap.size x Ac cc Ak ck Ai ci)(m u:ByteArray)(Q:x.cells=[⟨m,u,0,0⟩])(page:Int) :
  Calls Tryz.prog 40 #[.int .i64 page,.int .i64 1,.agg (nodC x Ac cc Ak ck Ai ci),.pointer (some ⟨a,0,none⟩),.pointer (some ⟨b,0,none⟩),.pointer (some ⟨c,0,none⟩),.pointer (some ⟨s,0,none⟩)] W λe w'=>e = .returned (.bool true)/\(BlkIs w' a 3 #[.int .i64 1]/\BlkIs w' b 3 #[.int .i64 1]/\BlkIs w' c 3 #[.int .i64 1])/\GrowBut (λj=>j=a∨j=b∨j=c) W w':=by
 obtain⟨g,o,rfl,bT,_⟩:=hx.c.lies (by rw[Q];exact Nat.zero_lt_one)
 have Z:=cel_at hx.c rfl 0 (by rw[Q];exact Nat.zero_lt_one)
 have aR:x.cells[0]'(by rw[Q];exact Nat.zero_lt_one)=⟨m,u,0,0⟩:=by simp[Q]
 rw[aR] at Z
 simp only[Nat.zero_mul,Nat.add_zero] at Z
 have bC:x.cells.length=1:=by rw[Q];rfl
 have aC:∀(j:Nat) (n:Int),BlkIs W j 3 #[.int .i64 n]->g≠j:=λj n d e=>by
  have M:=Z 0 (.string m) rfl
  rw[e,d.cell] at M
  rcases Nat.eq_zero_or_pos (o+0) with h1|h1
  ·rw[h1] at M
   injection M with M
   cases M
  ·rw[Array.getElem?_eq_none (by simp;omega)] at M
   cases M
 have bJ:=aC a 0 ha
 have bL:=aC b 0 I
 have bZ:=aC c 0 hc
 have bP:s≠a:=λe=>BlkIs.ne_type hs ha (by decide) e
 have bS:s≠b:=λe=>BlkIs.ne_type hs I (by decide) e
 have bM:s≠c:=λe=>BlkIs.ne_type hs hc (by decide) e
 obtain⟨N,aK⟩:∃N,N=nodC x (some ⟨g,o,none⟩) cc Ak ck Ai ci:=⟨_,rfl⟩
 have X:N[1]? = some (.slice (some ⟨g,o,none⟩) 1 cc):=by rw[aK];simp[nodC,bC]
 obtain⟨W1,U⟩:∃W1,W1=W.alloc (.cells N 43):=⟨_,rfl⟩
 have f:Below W.heap.size W W1:=by rw[U];exact below1 _ _
 have b9:BlkIs W1 W.heap.size 43 N:=by rw[U];exact BlkIs.new W _ _
 have G:Below W1.heap.size W1 W1.drew:=(Below.refl _ _).drew
 have aB:=(ha.below f ha.lt).below G (ha.below f ha.lt).lt
 have aH:=(I.below f I.lt).below G (I.below f I.lt).lt
 have aM:=(hc.below f hc.lt).below G (hc.below f hc.lt).lt
 have bG:=(hs.below f hs.lt).below G (hs.below f hs.lt).lt
 have aL:=b9.below G b9.lt
 have la:=ha.lt
 have lb:=I.lt
 have lc:=hc.lt
 have ls:=hs.lt
 have aW:W1.drew.rangeAt g o (celC ⟨m,u,0,0⟩):=λj y d=>(((f.trans (G.mono f.size)).cell (p:=⟨g,o+j,none⟩) bT)).trans (Z j y d)
 have aQ:Below W.heap.size W W1.drew:=f.trans (G.mono f.size)
 have bI:W1.drew.heap.size=W.heap.size+1:=by rw[show W1.drew.heap.size=W1.heap.size from rfl,U,World.size_alloc]
 have b6:g<W1.drew.heap.size:=by rw[bI];omega
 rw[<-aK]
 have aS:=Lib.hid U.symm
 clear U aK hx Z ha I hc hs f G Q aR aC bC b9
 go_enter Tryz.func40,Tryz.ntmps40
 go_wp2_with fail
 rw[aS.out]
 generalize bA:W1.drew=L at *
 have r:=aB.boxed
 have A:=aH.boxed
 have B:=aM.boxed
 have q:L.cell? ⟨W.heap.size,1,none⟩=some (.slice (some ⟨g,o,none⟩) 1 cc):=by rw[aL.cell];exact X
 refine RegL.start [(10,⟨a,0,none⟩,.int .i64 0),(11,⟨b,0,none⟩,.int .i64 0),(12,⟨c,0,none⟩,.int .i64 0),(12,⟨W.heap.size,1,none⟩,.slice (some ⟨g,o,none⟩) 1 cc)] (by kernel_rfl) ?_
 rw[bA]
 refine RegL.takeL 0 10 ⟨a,0,none⟩ (.int .i64 0) (.int .i64 0) rfl (by kernel_rfl) (by kernel_rfl) (by kernel_rfl) (by kernel_rfl) (by kernel_rfl) rfl (by simp) (λ_ _ _ h=>h) (SL4 (λ_=>r) (λ_=>A) (λ_=>B) (λ_=>q)) rfl (λW hW=>by go_simp) ?_
 simp only[zE,zB,Act.put,zA,zG,zF]
 refine RegL.takeP 1 (.pointer (some ⟨W.heap.size,1,none⟩)) rfl (by kernel_rfl) (by kernel_rfl) (by kernel_rfl) (by kernel_rfl) (λ_ _ _ h=>h) (SL4 (λ_=>r) (λ_=>A) (λ_=>B) (λ_=>q)) rfl (λW=>by go_simp) ?_
 simp only[zE,zD,zB,Act.put,zA,zG,zF]
 refine RegL.takeL 2 12 ⟨W.heap.size,1,none⟩ (.slice (some ⟨g,o,none⟩) 1 cc) (.slice (some ⟨g,o,none⟩) 1 cc) rfl (by kernel_rfl) (by kernel_rfl) (by kernel_rfl) (by kernel_rfl) (by kernel_rfl) rfl (by simp) (λ_ _ _ h=>h) (SL4 (λ_=>r) (λ_=>A) (λ_=>B) (λ_=>q)) rfl (λW hW=>by go_simp) ?_
 simp only[zE,zD,zB,Act.put,zA,zG,zF]
 refine RegL.takeP 3 (.int .i64 1) rfl (by kernel_rfl) (by kernel_rfl) (by kernel_rfl) (by kernel_rfl) (λ_ _ _ h=>h) (SL4 (λ_=>r) (λ_=>A) (λ_=>B) (λ_=>q)) rfl (λW=>by go_simp) ?_
 simp only[zE,zD,zB,Act.put,zA,zG,zF]
 refine RegL.takeP 4 (.int .i64 1) rfl (by kernel_rfl) (by kernel_rfl) (by kernel_rfl) (by kernel_rfl) (λ_ _ _ h=>h) (SL4 (λ_=>r) (λ_=>A) (λ_=>B) (λ_=>q)) rfl (λW=>by go_simp;rfl) ?_
 simp only[zE,zD,zB,Act.put,zA,zG,zF]
 refine RegL.takeL 5 11 ⟨b,0,none⟩ (.int .i64 0) (.int .i64 0) rfl (by kernel_rfl) (by kernel_rfl) (by kernel_rfl) (by kernel_rfl) (by kernel_rfl) rfl (by simp) (λ_ _ _ h=>h) (SL4 (λ_=>r) (λ_=>A) (λ_=>B) (λ_=>q)) rfl (λW hW=>by go_simp) ?_
 simp only[zE,zD,zB,Act.put,zA,zG,zF]
 refine RegL.takeP 6 (.int .i64 1) rfl (by kernel_rfl) (by kernel_rfl) (by kernel_rfl) (by kernel_rfl) (λ_ _ _ h=>h) (SL4 (λ_=>r) (λ_=>A) (λ_=>B) (λ_=>q)) rfl (λW=>by go_simp;rfl) ?_
 simp only[zE,zD,zB,Act.put,zA,zG,zF]
 refine RegL.takeL 7 12 ⟨c,0,none⟩ (.int .i64 0) (.int .i64 0) rfl (by kernel_rfl) (by kernel_rfl) (by kernel_rfl) (by kernel_rfl) (by kernel_rfl) rfl (by simp) (λ_ _ _ h=>h) (SL4 (λ_=>r) (λ_=>A) (λ_=>B) (λ_=>q)) rfl (λW hW=>by go_simp) ?_
 simp only[zE,zD,zB,Act.put,zA,zG,zF]
 refine RegL.takeP 8 (.int .i64 1) rfl (by kernel_rfl) (by kernel_rfl) (by kernel_rfl) (by kernel_rfl) (λ_ _ _ h=>h) (SL4 (λ_=>r) (λ_=>A) (λ_=>B) (λ_=>q)) rfl (λW=>by go_simp) ?_
 simp only[zE,zD,zB,Act.put,zA,zG,zF]
 refine RegL.takeP 9 (.int .i64 1) rfl (by kernel_rfl) (by kernel_rfl) (by kernel_rfl) (by kernel_rfl) (λ_ _ _ h=>h) (SL4 (λ_=>r) (λ_=>A) (λ_=>B) (λ_=>q)) rfl (λW=>by go_simp;rfl) ?_
 simp only[zE,zD,zB,Act.put,zA,zG,zF]
 have fa:=aB.free 0
 have C:GrowBut (λj=>j=a) L (L.setCell ⟨a,0,none⟩ (.int .i64 1)):=GrowBut.setCell _ _ _ rfl
 have a0:=aB.set 0 (.int .i64 1)
 have aE:=C.blk aH (λe=>aU e.symm)
 have aI:=C.blk aM (λe=>aV e.symm)
 have a1:=C.blk bG bP
 have aJ:=C.blk aL (by omega)
 have bE:(L.setCell ⟨a,0,none⟩ (.int .i64 1)).rangeAt g o (celC ⟨m,u,0,0⟩):=λj y d=>(C.cell (p:=⟨g,o+j,none⟩) (aW j y d) (by omega) bJ)
 have aO:=aE.boxed
 have aY:=aI.boxed
 have aT:(L.setCell ⟨a,0,none⟩ (.int .i64 1)).cell? ⟨W.heap.size,1,none⟩=some (.slice (some ⟨g,o,none⟩) 1 cc):=by rw[aJ.cell];exact X
 refine RegL.one 10 (by kernel_rfl) ?_
 refine RegF.opS (w':=L.setCell ⟨a,0,none⟩ (.int .i64 1)) rfl rfl (by go_simp) ⟨SL4 (λh=>absurd (show true=false from h) (by decide)) (λ_=>aO) (λ_=>aY) (λ_=>aT),?_⟩
 simp only[zE,zD,zB,Act.put]
 have b1:=C.size
 have C:=(GrowBut.below aQ).trans (C.more λj d _=>(.inl d:j=a∨j=b∨j=c))
 generalize L.setCell ⟨a,0,none⟩ (.int .i64 1)=O at *
 have fb:=aE.free 0
 have E:GrowBut (λj=>j=b) O (O.setCell ⟨b,0,none⟩ (.int .i64 1)):=GrowBut.setCell _ _ _ rfl
 have bD:=aE.set 0 (.int .i64 1)
 have aN:=E.blk a0 aU
 have aA:=E.blk aI (λe=>a3 e.symm)
 have bB:=E.blk a1 bS
 have aG:=E.blk aJ (by omega)
 have a8:(O.setCell ⟨b,0,none⟩ (.int .i64 1)).rangeAt g o (celC ⟨m,u,0,0⟩):=λj y d=>(E.cell (p:=⟨g,o+j,none⟩) (bE j y d) (by show g<_;omega) bL)
 have a7:=aA.boxed
 have aP:(O.setCell ⟨b,0,none⟩ (.int .i64 1)).cell? ⟨W.heap.size,1,none⟩=some (.slice (some ⟨g,o,none⟩) 1 cc):=by rw[aG.cell];exact X
 refine RegL.one 11 (by kernel_rfl) ?_
 refine RegF.opS (w':=O.setCell ⟨b,0,none⟩ (.int .i64 1)) rfl rfl (by go_simp) ⟨SL4 (λh=>absurd (show true=false from h) (by decide)) (λh=>absurd (show true=false from h) (by decide)) (λ_=>a7) (λ_=>aP),?_⟩
 simp only[zE,zD,zB,Act.put]
 have b3:=E.size
 have E:=C.trans (E.more λj d _=>(.inr (.inl d):j=a∨j=b∨j=c))
 generalize O.setCell ⟨b,0,none⟩ (.int .i64 1)=V at *
 have fc:=aA.free 0
 have F:GrowBut (λj=>j=c) V (V.setCell ⟨c,0,none⟩ (.int .i64 1)):=GrowBut.setCell _ _ _ rfl
 have aX:=aA.set 0 (.int .i64 1)
 have a4:=F.blk aN aV
 have bH:=F.blk bD a3
 have a5:=F.blk bB bM
 have bV:=F.blk aG (by omega)
 have bK:(V.setCell ⟨c,0,none⟩ (.int .i64 1)).rangeAt g o (celC ⟨m,u,0,0⟩):=λj y d=>(F.cell (p:=⟨g,o+j,none⟩) (a8 j y d) (by show g<_;omega) bZ)
 refine RegL.one 12 (by kernel_rfl) ?_
 refine RegF.opS (w':=V.setCell ⟨c,0,none⟩ (.int .i64 1)) rfl rfl (by go_simp) ⟨SL4 (λh=>absurd (show true=false from h) (by decide)) (λh=>absurd (show true=false from h) (by decide)) (λh=>absurd (show true=false from h) (by decide)) (λh=>absurd (show true=false from h) (by decide)),?_⟩
 simp only[zE,zD,zB,Act.put]
 refine RegL.done (by kernel_rfl) ?_
 have b4:=F.size
 have F:=E.trans (F.more λj d _=>(.inr (.inr d):j=a∨j=b∨j=c))
 generalize V.setCell ⟨c,0,none⟩ (.int .i64 1)=w4 at *
 have b2:w4.cell? ⟨W.heap.size,1,none⟩=some (.slice (some ⟨g,o,none⟩) 1 cc):=by rw[bV.cell];exact X
 clear r A B q aY aO aT a7 aP fa fb fc aB aH aM bG aL aW a0 aE aI a1 aJ bE aN bD aA bB aG a8 C E X aQ aS bA
 go_wp2
 go_loopw [26] (λi wr=>∃k:Nat,k<=1/\i = .int .i64 k/\Below w4.heap.size w4 wr) (λi _=>1 - (intOf i).toNat)
 case atStart=>exact⟨0,by omega,rfl,Below.refl _ _⟩
 case round =>
  obtain⟨k,hk,rfl,H⟩:=hrel
  have bY:=a4.below H a4.lt
  have bW:=bH.below H bH.lt
  have bR:=aX.below H aX.lt
  have aF:=a5.below H a5.lt
  have a2:wr.rangeAt g o (celC ⟨m,u,0,0⟩):=λj y d=>(H.cell (p:=⟨g,o+j,none⟩) (by show g<_;omega)).trans (bK j y d)
  have b5:=aF.boxed
  rcases(by omega:k=0∨k=1) with rfl|rfl
  ·obtain⟨W5,aD⟩:∃W5,W5=wr.alloc (.cells #[.string ⟨#[]⟩,.string ⟨#[]⟩,.int .i64 0,.int .i64 0] 49):=⟨_,rfl⟩
   have a6:BlkIs W5 wr.heap.size 49 #[.string ⟨#[]⟩,.string ⟨#[]⟩,.int .i64 0,.int .i64 0]:=by rw[aD];exact BlkIs.new wr _ _
   have bQ:Below wr.heap.size wr W5:=by rw[aD];exact below1 _ _
   have bF:Below wr.heap.size wr (W5.setRow wr.heap.size #[.string m,.string u,.int .i64 0,.int .i64 0]):=below_setRow bQ (zH _) _
   have b0:=a6.setRow #[.string m,.string u,.int .i64 0,.int .i64 0]
   generalize a9:W5.setRow wr.heap.size #[.string m,.string u,.int .i64 0,.int .i64 0]=W6 at *
   have bN:=aF.below bF aF.lt
   have aZ:=H.trans (bF.mono H.size)
   have bU:=Lib.hid aD.symm
   have bX:=Lib.hid a9
   have HL:=λW=>tlinked_none W P (.func (.func 42) #[] #[.pointer (some ⟨b,0,none⟩)]) m u
   unfold celC at HL a2
   clear aD a9
   go_wp2_with (first
    | (refine wp_exec rfl (x_loadM rowCel a2 rfl rfl rfl) ?_)
    | (rw[bU.out];refine wp_storeW rfl 49 (.tmp 12) (.tmp 29) rfl wr.heap.size rfl rfl rowCel a6 rfl rfl (four_oneC rfl rfl rfl rfl) ?_;rw[bX.out])
    | (refine wp_exec rfl (x_loadQ rowStep bN rfl rfl rfl) ?_)
    | (refine wp_loadW rfl 49 (.tmp 12) rfl wr.heap.size rfl rowCel b0 rfl ?_))
   refine(HL _).mono ?_
   rintro e w7 ⟨⟨z,rfl⟩,bO⟩
   clear HL
   go_wp2
   exact⟨⟨1,by omega,rfl,aZ.trans (bO.mono aZ.size)⟩,by simp[intOf]⟩
  ·go_wp2
   go_ret
   exact⟨rfl,⟨bY,bW,bR⟩,F.trans (GrowBut.below H)⟩
end Go.Proofs.YtpibjkbadnffgaaGreat
