/- Texts that the proof of PagerNone leans on, part 14. -/
import Derived.Sort.CutIn
import Derived.Lib.Builder
import Derived.Test.YtnlimngkagmjpaaGreatPagerNoneB13
open List renaming all_eq_true → qG, getElem?_eq_getElem → zI, take_of_length_le → qA, length_map → qD, map_cons → zK, map_nil → zL, take_succ_eq_append_getElem → qC, size_toArray → zS, length_cons → zN, length_nil → qB, push_toArray → zZ, append_toArray → zX, nil_append → zQ, cons_append → zW, getElem_toArray → zD, getElem_cons_zero → zB, setIfInBounds_toArray → zA, set_cons_zero → zF, set_cons_succ → zE, getElem_cons_succ → zC, map_toArray → zJ, getElem_mem → qJ, replicate → zR
open Nat renaming le_refl → zG, le_trans → zP, reduceAdd → qH, reduceSub → qI, lt_of_lt_of_le → zO
open Array renaming replicate_succ → zU, replicate_zero → zV, getElem?_eq_some_iff → zH
set_option linter.unusedVariables false
set_option maxRecDepth 100000
set_option maxHeartbeats 8000000

namespace Go.Proofs.YtnlimngkagmjpaaGreat
open Go Go.RowKit Lou
theorem all_range_ints (xs ys:List Int)(h:xs.length=ys.length):((List.range xs.length).all fun i=>xs.getD i 0 == ys.getD i 0)=(xs == ys):=by
 rw[Bool.eq_iff_iff,qG,beq_iff_eq]
 constructor
 ·intro hi
  refine List.ext_getElem h (fun i h1 h2 => ?_)
  have:=hi i (List.mem_range.2 h1)
  simpa[List.getD,zI h1,zI h2] using this
 ·rintro rfl i _
  simp
theorem run_equalIn_ints (w:World)(d:Nat)(xs ys:List Int)(hx:xs.length=16)(hy:ys.length=16) :
  (Op.equalIn (d+2) 49 (.agg (xs.map (Value.int .i64)).toArray) (.agg (ys.map (Value.int .i64)).toArray)).run Tryz.prog w = .ok (xs == ys) w:=by
 have ht:=Tryz.underlying49
 have he:=Tryz.underlying3
 have hsz:∀w,(sizeOf 3).run Tryz.prog w = .ok 1 w:=fun w=>by simp[go_sem]
 rw[<-all_range_ints xs ys (hx.trans hy.symm),hx,List.range_eq_range',Op.equalIn]
 simp only[Sem.run_bind,run_underlying ht,Result.andThen_ok,hsz,Std.Legacy.Range.forIn_eq_forIn_range',Std.Legacy.Range.size,Nat.sub_zero,Nat.add_sub_cancel,Nat.div_one]
 have hl:∀i∈List.range' 0 16 1,i<16:=fun i hi=>by simpa using(List.mem_range'_1.1 hi).2
 generalize List.range' 0 16 1=l at hl ⊢
 induction l with
 | nil=>simp
 | cons i l ih =>
  have hi:i<16:=hl i (by simp)
  have px:(part 3 (xs.map (Value.int .i64)).toArray (i*1)).run Tryz.prog w = .ok (.int .i64 (xs.getD i 0)) w:=by
   simp[part,isAgg,run_underlying he,List.getD,zI (show i<xs.length by omega)]
  have py:(part 3 (ys.map (Value.int .i64)).toArray (i*1)).run Tryz.prog w = .ok (.int .i64 (ys.getD i 0)) w:=by
   simp[part,isAgg,run_underlying he,List.getD,zI (show i<ys.length by omega)]
  have pe:=run_equalIn_int (P:=Tryz.prog) w d 3 .i64 .i64 (xs.getD i 0) (ys.getD i 0) he
  simp only[List.forIn_cons,Sem.run_bind,px,py,pe,Result.andThen_ok,List.all_cons]
  cases hb:(xs.getD i 0 == ys.getD i 0)
  ·simp
  ·simp only[Bool.not_true,Bool.false_eq_true,if_false,Sem.run_pure,Result.andThen_ok,Bool.true_and]
   exact ih fun j hj=>hl j (by simp[hj])
theorem run_eqSt (w:World)(d:Nat){a b:PgSt}(ha:a.roots.length=16)(hb:b.roots.length=16):(Op.equalIn (d+3) 51 (.agg (psC a).toArray) (.agg (psC b).toArray)).run Tryz.prog w = .ok (a.size == b.size && (a.first == b.first && (a.many == b.many && a.roots == b.roots))) w:=by
 have hp:Tryz.prog.stoodInHeld 51=false:=by kernel_rfl
 have hu:Tryz.prog.underlying 51=some (.struct (Tryz.prog.fieldsOf 51)):=by kernel_rfl
 have hE:=run_equalIn_struct (P:=Tryz.prog) w (d+2) 51 (psC a).toArray (psC b).toArray hu hp
 have p1:∀c:PgSt,(part 3 (psC c).toArray 0).run Tryz.prog w = .ok (.int .i64 c.size) w:=fun c=>by simp[part,psC,go_sem]
 have p2:∀c:PgSt,(part 3 (psC c).toArray 1).run Tryz.prog w = .ok (.int .i64 c.first) w:=fun c=>by simp[part,psC,go_sem]
 have p3:∀c:PgSt,(part 3 (psC c).toArray 2).run Tryz.prog w = .ok (.int .i64 c.many) w:=fun c=>by simp[part,psC,go_sem]
 have p4:∀c:PgSt,c.roots.length=16->(part 49 (psC c).toArray 3).run Tryz.prog w = .ok (.agg (c.roots.map (Value.int .i64)).toArray) w:=fun c hc=>by
  have he:List.take 16 (List.map (Value.int .i64) c.roots)=List.map (Value.int .i64) c.roots:=qA (by rw[qD,hc];exact zG _)
  simp[part,psC,go_sem,he]
 have hf : (Tryz.prog.fieldsOf 51).toList.map (fun f => (f.name, f.type, f.offset)) = [("size", 3, 0), ("first", 3, 1), ("many", 3, 2), ("roots", 49, 3)] := by kernel_rfl
 rw[hE]
 generalize (Tryz.prog.fieldsOf 51).toList=fs at hf
 obtain⟨f0,f1,f2,f3,rfl⟩:∃f0 f1 f2 f3,fs=[f0,f1,f2,f3]:=by
  have hl:fs.length=4:=by simpa using congrArg List.length hf
  match fs,hl with
  | [f0,f1,f2,f3],_=>exact⟨f0,f1,f2,f3,rfl⟩
 simp only[zK,zL,List.cons.injEq,Prod.mk.injEq,and_true] at hf
 obtain⟨⟨n0,t0,o0⟩,⟨n1,t1,o1⟩,⟨n2,t2,o2⟩,n3,t3,o3⟩:=hf
 have q:=fun x y:Int=>run_equalIn_int (P:=Tryz.prog) w (d+1) 3 .i64 .i64 x y Tryz.underlying3
 have q4:=run_equalIn_ints w d a.roots b.roots ha hb
 have d0 : f0.name ≠ "_" := by rw [n0]; simp
 have d1 : f1.name ≠ "_" := by rw [n1]; simp
 have d2 : f2.name ≠ "_" := by rw [n2]; simp
 have d3 : f3.name ≠ "_" := by rw [n3]; simp
 have q1:(Op.equalIn (d+2) 3 (.int .i64 a.size) (.int .i64 b.size)).run Tryz.prog w = .ok (a.size == b.size) w:=q _ _
 have q2:(Op.equalIn (d+2) 3 (.int .i64 a.first) (.int .i64 b.first)).run Tryz.prog w = .ok (a.first == b.first) w:=q _ _
 have q3:(Op.equalIn (d+2) 3 (.int .i64 a.many) (.int .i64 b.many)).run Tryz.prog w = .ok (a.many == b.many) w:=q _ _
 have a1:=p1 a
 have b1:=p1 b
 have a2:=p2 a
 have b2:=p2 b
 have a3:=p3 a
 have b3:=p3 b
 have a4:=p4 a ha
 have b4:=p4 b hb
 clear q p1 p2 p3 p4 hE hp hu
 generalize (psC a).toArray=ax at *
 generalize (psC b).toArray=bx at *
 generalize (.agg (a.roots.map (Value.int .i64)).toArray:Value)=va at *
 generalize (.agg (b.roots.map (Value.int .i64)).toArray:Value)=vb at *
 generalize (a.size == b.size)=r1 at *
 generalize (a.first == b.first)=r2 at *
 generalize (a.many == b.many)=r3 at *
 generalize (a.roots == b.roots)=r4 at *
 rw[Op.eqFields,if_pos d0,Sem.run_bind,t0,o0,a1,Result.andThen_ok,Sem.run_bind,b1,Result.andThen_ok,Sem.run_bind,q1,Result.andThen_ok]
 cases r1
 ·rfl
 show (Op.eqFields (d+2) ax bx [f1,f2,f3]).run Tryz.prog w=_
 rw[Op.eqFields,if_pos d1,Sem.run_bind,t1,o1,a2,Result.andThen_ok,Sem.run_bind,b2,Result.andThen_ok,Sem.run_bind,q2,Result.andThen_ok]
 cases r2
 ·rfl
 show (Op.eqFields (d+2) ax bx [f2,f3]).run Tryz.prog w=_
 rw[Op.eqFields,if_pos d2,Sem.run_bind,t2,o2,a3,Result.andThen_ok,Sem.run_bind,b3,Result.andThen_ok,Sem.run_bind,q3,Result.andThen_ok]
 cases r3
 ·rfl
 show (Op.eqFields (d+2) ax bx [f3]).run Tryz.prog w=_
 rw[Op.eqFields,if_pos d3,Sem.run_bind,t3,o3,a4,Result.andThen_ok,Sem.run_bind,b4,Result.andThen_ok,Sem.run_bind,q4,Result.andThen_ok]
 cases r4<;>rfl
theorem PgSt.beqs (a b:PgSt):(a.size == b.size && (a.first == b.first && (a.many == b.many && a.roots == b.roots)))=true↔a=b:=by
 obtain⟨a1,a2,a3,a4⟩:=a
 obtain⟨b1,b2,b3,b4⟩:=b
 simp
theorem x_neSt {ρ:Operand->Value}{w:World}{o:Oper}{x y:Operand}{a b:PgSt}(ha:a.roots.length=16)(hb:b.roots.length=16)(ho:o.op = .binOp .neq 51 x y 51)(h1:ρ x = .agg (psC a).toArray)(h2:ρ y = .agg (psC b).toArray){r:Bool}(hr:r=true↔a≠b):(execOp ρ o).run Tryz.prog w = .ok (.value (.bool r)) w:=by
 have hm:Tryz.prog.eqGuardType Tryz.prog.depth 51=false:=by kernel_rfl
 have he:=run_eqSt w 9997 ha hb
 have hq:=PgSt.beqs a b
 have hr':(!(a.size == b.size && (a.first == b.first && (a.many == b.many && a.roots == b.roots))))=r:=by
  generalize (a.size == b.size && (a.first == b.first && (a.many == b.many && a.roots == b.roots)))=q at hq
  cases q<;>cases r<;>simp_all
 generalize (psC a).toArray=ax at *
 generalize (psC b).toArray=bx at *
 have e:(9997+3:Nat)=10000:=by decide
 rw[e] at he
 have hb:(binOp .neq 51 (.agg ax) (.agg bx)).run Tryz.prog w = .ok (.bool r) w:=by
  rw[run_neq_struct,he,<-hr']
  rfl
 simp only[execOp,ho,h1,h2,Sem.run_bind,run_eqGuard_agg w .neq 51 x y _ _ hm,Result.andThen_ok,hb,Sem.run_pure]
theorem eqB_gives (w:World)(A A':Option Addr)(c c':Nat)(l l':List UInt8)(h:InB w w.heap.size A c l)(h':InB w w.heap.size A' c' l'):Calls Tryz.prog 40 #[.slice A l.length c,.slice A' l'.length c'] w fun e w'=>e = .returned (.bool (decide (l=l')))/\Below w.heap.size w w':=by
 have hle:=h.le
 have hmax:=h.max
 by_cases hl:l.length=l'.length
 ·have hm2:l'.length<=9223372036854775807:=by have:=h'.le;have:=h'.max;omega
  rw[<-hl]
  have HL:=Lib.hid hl
  clear hl
  go_enter Tryz.func40,Tryz.ntmps40
  go_wp2
  go_loopw [13] (fun i wr=>∃k:Nat,k<=l.length/\i = .int .i64 k/\Hid (l.take k=l'.take k)/\Below w.heap.size w wr) (fun i _=>l.length - (intOf i).toNat)
  case atStart=>exact⟨0,by omega,rfl,Lib.hid (by simp),Below.refl _ _⟩
  case round =>
   obtain⟨k,hk,rfl,HT,hB⟩:=hrel
   by_cases hlt:k<l.length
   ·have hlt2:k<l'.length:=by have:=HL.out;omega
    obtain⟨g,o,rfl,hg,hc⟩:=h.lies (by omega)
    obtain⟨g',o',rfl,hg',hc'⟩:=h'.lies (by omega)
    have d0:wr.cell? ⟨g,o+k,none⟩=some (.int .u8 (l[k].toNat:Int)):=(hB.cell (p:=⟨g,o+k,none⟩) hg).trans (hc k hlt)
    have d1:wr.cell? ⟨g',o'+k,none⟩=some (.int .u8 (l'[k].toNat:Int)):=(hB.cell (p:=⟨g',o'+k,none⟩) hg').trans (hc' k hlt2)
    have e0:wr.drew.cell? ⟨g,o+k,none⟩=some (.int .u8 (l[k].toNat:Int)):=d0
    have e1:wr.drew.cell? ⟨g',o'+k,none⟩=some (.int .u8 (l'[k].toNat:Int)):=d1
    have j1:(k:Int)<(l.length:Int):=by omega
    have j2:(0:Int)<=(k:Int):=by omega
    have hwk:IntKind.i64.wrap ((k:Int)+1)=(k:Int)+1:=wrap_i64_fr _ (by omega) (by omega)
    by_cases he:l[k]=l'[k]
    ·have hnx:Hid (l.take (k+1)=l'.take (k+1)):=Lib.hid (by rw[qC hlt,qC hlt2,HT.out,he])
     rw[<-he] at d1 e1
     generalize l[k]=b at *
     clear he hc hc'
     go_wp2
     go_region
     go_wp2
     exact⟨⟨k+1,by omega,by simp,hnx,hB.drew⟩,by simp[intOf];omega⟩
    ·have hne:¬ l=l':=fun e=>he (by subst e;rfl)
     have hb:¬ (l[k].toNat:Int)=(l'[k].toNat:Int):=fun e=>he (UInt8.toNat_inj.1 (by omega))
     generalize (l[k].toNat:Int)=x at *
     generalize (l'[k].toNat:Int)=y at *
     have HNE:=Lib.hid hne
     clear he hc hc' hne
     go_wp2
     go_region
     go_wp2
     go_ret
     exact⟨by simp[HNE.out],hB.drew⟩
   ·obtain rfl:k=l.length:=by omega
    have he:Hid (l=l'):=Lib.hid (by
     have h1:=HT.out
     rw[List.take_length,HL.out,List.take_length] at h1
     exact h1)
    go_wp2
    go_ret
    exact⟨by simp[he.out],hB⟩
 ·have hl2:¬ (l.length:Int)=(l'.length:Int):=by omega
  have hne:¬ l=l':=fun e=>hl (by rw[e])
  go_enter Tryz.func40,Tryz.ntmps40
  go_wp2
  go_ret
  exact⟨by simp[hne],Below.refl _ _⟩
end Go.Proofs.YtnlimngkagmjpaaGreat
namespace Go.Proofs.YtnlimngkagmjpaaGreat
open Go Go.RowKit Lou Go.Shelf
attribute [local go_sem] Oper.semAt_some
structure PMapAt (W:World)(M:Nat)(Y:Int->Option (List UInt8)):Prop where
 has:∃es co f,MapIs W M es co/\EnV es f/\MapKept.Stamped es co/\PgIs W f Y
structure InsAt (w0:World)(B M b B4:Nat)(Y:Int->Option (List UInt8))(ks:List Nat)(V:World):Prop where
 mp:∃es co f,MapIs V M es co/\EnV es f/\MapKept.Stamped es co/\OwnOf V f Y ks
 bx:BlkIs V b 87 #[.map (some M)]
 up:Below B w0 V
 b4:B<=M/\M<B4/\b<B4/\B4<=V.heap.size
theorem OwnOf.abC {B:Nat}{X Z:World}{row:Option Nat}{fm:Int->Option Value}{Y:Int->Option (List UInt8)}{ks:List Nat}(h:OwnOf X fm Y ks)(hg:X.grownBy Z row)(hr:∀r,row=some r->B<=r/\∃o:Obj,X.heap[r]? = some o/\o.isCells=false):OwnOf Z fm Y ks:=fun k=>by
 rcases h k with h1|⟨h1,A,c,y,h2,h3,h4,h5⟩
 ·exact .inl h1
 ·exact .inr ⟨h1,A,c,y,h2,h3,h4,InB.ownFrom (B:=B) _ _ _ () X Z row h5 hg hr⟩
theorem InsAt.row {w0 X Z:World}{B M b B4:Nat}{Y:Int->Option (List UInt8)}{ks:List Nat}{row:Option Nat}(h:InsAt w0 B M b B4 Y ks X)(hg:X.grownBy Z row)(hr:∀r,row=some r->B4<=r/\∃o:Obj,X.heap[r]? = some o/\o.isCells=false):InsAt w0 B M b B4 Y ks Z:=by
 obtain⟨⟨es,co,f,h1,h2,h3,h4⟩,h5,h6,h7,h8,h9,h10⟩:=h
 exact⟨⟨es,co,f,h1.abSm (B:=B4) h8 hg (fun r e=>(hr r e).1),h2,h3,h4.abC (B:=B4) hg hr⟩,h5.abN (B:=B4) h9 hg (fun r e=>(hr r e).1),h6.trans (grown_below hg (by omega) (fun r e=>by have:=(hr r e).1;omega)),h7,h8,h9,zP h10 hg.size⟩
theorem InsAt.st (w0:World)(B M b B4:Nat)(Y:Int->Option (List UInt8)):StU B4 (fun (pre:List (Nat×(Option Addr×Nat))) U V=>InsAt w0 B M b B4 Y (pre.map (·.1)) V/\∀k,U k↔k=M):=fun _ _ _ _ _ h hg hr=>⟨h.1.row hg hr,h.2⟩
theorem minsert_in (n:Nat)(hn:8<=n)(w0 w:World)(B M q r many clock:Nat)(es:Array MapEntry)(f:Int->Option Value)(Y:Int->Option (List UInt8))
  (hq:BlkIs w q 87 #[.map (some r)]) (hm:MapIs w r es clock) (he:EnV es f) (hst:MapKept.Stamped es clock) (hP:PgIs w f Y) (hlt:KeysB f many) (hmany:many<=40000) (hM:MapIs w M #[] 0) (hMr:r≠M) (hup:Below B w0 w) (hBM:B<=M) (hBw:B<=w.heap.size) :
  CallsIn Fence.wide n Tryz.prog 129 #[.map (some M),.func (.func 112) #[] #[.pointer (some ⟨q,0,none⟩)]] w fun e w'=>e = .returned (.tuple #[])/\PMapAt w' M Y/\Below B w0 w':=by
 have h1:1<=n:=by omega
 obtain⟨W1,hW1⟩:∃W1,W1=w.alloc (.cells #[.map (some M)] 87):=⟨_,rfl⟩
 have hB1:Below w.heap.size w W1:=by rw[hW1];exact(Below.refl _ w).alloc (zG _) _
 have b1:BlkIs W1 w.heap.size 87 #[.map (some M)]:=by rw[hW1];exact BlkIs.new w _ _
 have s1:W1.heap.size=w.heap.size+1:=by rw[hW1];simp
 have hqM:q≠M:=fun e=>by
  subst e
  have h1:w.heap[q]? = some (.map #[] 0):=hM
  have h2:w.heap[q]? = some (.cells #[.map (some r)] 87 (0,0)):=hq
  rw[h1] at h2
  cases h2
 have hM1:=hM.below hB1 hM.lt
 have hup1:Below B w0 W1:=hup.trans (hB1.mono hBw)
 have hMl:=hM.lt
 have HS:=dirty1_seq (n - 1) (by omega) q r many clock es f Y W1 (hq.below hB1 hq.lt) (hm.below hB1 hm.lt) he hst (hP.grow hB1) hlt hmany
 have hkm:∀k:Nat,k∈keysV f many↔(Y (k:Int)).isSome=true:=fun k=>by
  rw[keysV_mem]
  rcases hP (k:Int) with⟨h2,h3⟩|⟨A,c,y,h2,h3,_⟩
  ·rw[h2,h3];simp
  ·rw[h2,h3]
   have:=hlt _ _ h2
   simp
   omega
 have hYb:∀k y,Y k=some y->0<=k:=fun k y hy=>by
  rcases hP k with⟨_,h3⟩|⟨A,c,y,h2,_⟩
  ·rw[h3] at hy;cases hy
  ·exact(hlt _ _ h2).1
 have HKM:=Lib.hid hkm
 have HYB:=Lib.hid hYb
 have HW1:=Lib.hid hW1.symm
 have hMW:M<W1.heap.size:=by omega
 have hwW:w.heap.size<W1.heap.size:=by omega
 clear hm hq he hst hP hlt hM hkm hYb hW1 s1
 refine callsIn_of_wp_marks Tryz.func129 rfl trivial ?_ rfl
 simp only[Tryz.ntmps129,zS,zN,qB,qH,qI,zU,zV,zZ,zX,zQ,zW]
 gi_wp2
 rw[HW1.out]
 refine wpIn_rangeFunc_U rfl h1 (gf:=112) (lb:=#[.pointer (some ⟨q,0,none⟩)]) rfl trivial (enters_of Tryz.func112 (by kernel_rfl) rfl)
  HS (Below.refl _ _) (fun _=>rfl) (fun k=>k=M) ⟨fun e=>hqM e,fun e=>hMr e,fun k e=>by subst e;exact .inl ⟨_,_,hM1⟩⟩
  (fun pre U V=>InsAt w0 B M w.heap.size W1.heap.size Y (pre.map (·.1)) V/\∀k,U k↔k=M) (fun _ _ _ _=>False) (InsAt.st _ _ _ _ _ _) (fun _ _ _ _ _ _ h _ _=>h) (fun s U X hs k hk=>by rw[(hs.2 k).1 hk];exact zO hs.1.b4.2.1 hs.1.b4.2.2.2) ?ownR
  ⟨⟨⟨#[],0,fun _=>none,hM1,EnV.empty,MapKept.stamped_empty 0,fun k => .inl ⟨by simp,rfl⟩⟩,b1,hup1,hBM,hMW,hwW,zG _⟩,fun k=>Iff.rfl⟩ ?act ?assign ?body ?done ?stop
 case ownR =>
  rintro pre x _ X Y2 row ⟨e1,e2,y,e3,e4,e5,e6⟩ hgr hr
  exact⟨e1,e2,y,e3,e4,InB.ownFrom (B:=W1.heap.size) _ _ _ () X Y2 row e5 hgr hr,TyB.ownFrom (B:=W1.heap.size) _ () X Y2 row e6 hgr hr⟩
 case assign =>
  intro l1 x V K hK
  simp only[pgEnc]
  gi_wp2
  exact hK
 case body =>
  rintro l1 pre ⟨x1,A6,c6⟩ U V ⟨⟨⟨es2,c2,f2,i1,i2,i3,i4⟩,i5,i6,i7⟩,hU⟩ ⟨_,_,y,e3,e4,e5,e6⟩
  simp only at e3 e5
  have k1:=i5.boxed
  have H3:=Lib.hid e3
  have H4:=Lib.hid e4
  have HU:=Lib.hid hU
  clear e3 e4 hU
  gi_wp2_with (first
   | (refine wpR_mputV rfl (.tmp 9) (.tmp 10) (.tmp 11) rfl rfl rfl rfl i2 i3 i1 ?_;intro es7 c7 W7 hm7 he7 hs7 hg7)
   | (refine⟨trivial,?_⟩;fail_if_success (refine callsIn_wide.2 ?_)))
  refine⟨U,LaterU.refl _ _,KeepU.grown U hg7 (fun r e=>by injection e with e;subst e;exact(HU.out _).2 rfl),⟨⟨es7,c7,_,hm7,he7,hs7,?_⟩,i5.grownMap i1 hg7,i6.trans (grown_below hg7 (by omega) (fun r e=>by injection e with e;omega)),i7.1,i7.2.1,i7.2.2.1,zP i7.2.2.2 hg7.size⟩,HU.out⟩
  rw[List.map_append]
  exact i4.add i1 hg7 H3.out H4.out e5
 case done =>
  rintro D ys U V hD hS ⟨hI,_⟩ hK
  gi_wp2
  have j:=hI.row (grownBy_putObj' V D (.deferred none)) (fun r e=>by injection e with e;subst e;exact⟨hD,_,hK,rfl⟩)
  obtain⟨⟨es2,c2,f2,i1,i2,i3,i4⟩,_,i6,_⟩:=j
  refine⟨by simp,.inl ⟨D,_,rfl,run_takeDeferred hK,?_⟩⟩
  refine⟨_,results_none rfl _ _ _,rfl,⟨⟨es2,c2,f2,i1,i2,i3,fun k => ?_⟩⟩,i6⟩
  rw[hS] at i4
  rcases i4 k with⟨h2,h3⟩|⟨_,h2⟩
  ·refine .inl ⟨h3,?_⟩
   cases hY:Y k with
   | none=>rfl
   | some y =>
    have p1:=HYB.out k y hY
    have e:((k.toNat:Nat):Int)=k:=by omega
    exact absurd e (h2 k.toNat ((HKM.out k.toNat).2 (by rw[e,hY];rfl)))
  ·exact .inr h2
 case stop =>
  rintro D c pre U V _ _ h _
  exact h.elim
theorem dirtyY_dirF (V:RowsV):dirtyY V=dirF (rowsR V):=by
 funext k
 apply Option.ext
 intro y
 rw[dirF_some]
 exact rowsR_dirty.symm
theorem mcollect_in (n:Nat)(hn:9<=n)(w:World)(q r many clock:Nat)(es:Array MapEntry)(f:Int->Option Value)(Y:Int->Option (List UInt8))
  (hq:BlkIs w q 87 #[.map (some r)]) (hm:MapIs w r es clock) (he:EnV es f) (hst:MapKept.Stamped es clock) (hP:PgIs w f Y) (hlt:KeysB f many) (hmany:many<=40000) :
  CallsIn Fence.wide n Tryz.prog 81 #[.func (.func 112) #[] #[.pointer (some ⟨q,0,none⟩)]] w fun e w'=>∃M,e = .returned (.map (some M))/\PMapAt w' M Y/\w.heap.size<=M/\Below w.heap.size w w':=by
 have hBm:Below w.heap.size w (w.alloc (.map #[] 0)):=(Below.refl _ w).alloc (zG _) _
 have h1:1<=n:=by omega
 have hrl:=hm.lt
 have HI:=minsert_in (n - 1) (by omega) w (w.alloc (.map #[] 0)) w.heap.size w.heap.size q r many clock es f Y (hq.below hBm hq.lt) (hm.below hBm hm.lt) he hst (hP.grow hBm) hlt hmany (heap_alloc_new w _) (by omega) hBm (zG _) (by simp)
 clear hm hq he hst hP hlt
 refine callsIn_of_wp Tryz.func81 rfl trivial ?_ rfl
 simp only[Tryz.ntmps81,zS,zN,qB,qH,qI,zU,zV,zZ,zX,zQ,zW]
 gi_wp2_with (first
  | (refine wpV_exec rfl (x_makeMap rfl) ?_)
  | (refine⟨trivial,?_⟩;gi_at_call 129;refine HI.mono ?_;rintro e W4 ⟨rfl,hPM,hB4⟩)
  | (refine⟨trivial,?_⟩;fail_if_success (refine callsIn_wide.2 ?_)))
 go_ret
 exact⟨w.heap.size,rfl,hPM,zG _,hB4⟩
theorem pdirty_in (n:Nat)(hn:10<=n){W0 W:World}{K:PgK}{p:Nat}{v:PgV}{st last:PgSt}{under:Bool}{mk:Value}(h:PaIs W0 K p v st last under mk W)(hK:K.Ok) :
  CallsIn Fence.wide n Tryz.prog 48 #[.pointer (some ⟨p,0,none⟩)] W fun e W'=>∃M,e = .returned (.map (some M))/\PMapAt W' M v.D/\W.heap.size<=M/\Below W.heap.size W W':=by
 have hf:∀k x,v.c.V k=some x->x.y.length=512:=h.ca.ro.full
 have HD:=cdirty_gives W K.a K.f K.r K.P K.room v.c.now v.c.hh v.c.mm v.c.V h.ca.cs.ca
 have hPg:=dirtyPg h.ca.cs.ca hf
 have hKB:=hPg.keys (many:=K.P) (fun k y hy=>by
  unfold dirtyY at hy
  cases hv:v.c.V k with
  | none=>rw[hv] at hy;cases hy
  | some x=>exact(h.ca.cs.ca.rows k x hv).key)
 have hP2:=hK.P2
 have HC:∀(X:World) (q s co:Nat) (eo:Array MapEntry),BlkIs X q 87 #[.map (some s)]->MapIs X s eo co->EnV eo (dirtyF v.c.V)->MapKept.Stamped eo co->Below W.heap.size W X->CallsIn Fence.wide (n - 1) Tryz.prog 81 #[.func (.func 112) #[] #[.pointer (some ⟨q,0,none⟩)]] X fun e w'=>∃M,e = .returned (.map (some M))/\PMapAt w' M v.D/\X.heap.size<=M/\Below X.heap.size X w':=fun X q s co eo h1 h2 h3 h4 h5=>by
  have:=mcollect_in (n - 1) (by omega) X q s K.P co eo (dirtyF v.c.V) (dirtyY v.c.V) h1 h2 h3 h4 (hPg.grow h5) hKB (by omega)
  rw[dirtyY_dirF] at this
  exact this
 have k19:=h.chc
 have h1:1<=n:=by omega
 clear hPg hKB hP2 hf
 refine callsIn_of_wp Tryz.func48 rfl trivial ?_ rfl
 simp only[Tryz.ntmps48,zS,zN,qB,qH,qI,zU,zV,zZ,zX,zQ,zW]
 gi_wp2_with (first
  | (refine⟨trivial,?_⟩;gi_at_call 68;refine(callsIn_wide.2 HD).mono ?_;rintro e W3 ⟨q,s3,eo,co,rfl,hq,hms,heo,hso,hB3,_,_⟩)
  | (refine⟨trivial,?_⟩;gi_at_call 81;refine(HC W3 q s3 co eo hq hms heo hso hB3).mono ?_;rintro e W4 ⟨M,rfl,hPM,hM,hB4⟩)
  | (refine⟨trivial,?_⟩;fail_if_success (refine callsIn_wide.2 ?_)))
 go_ret
 exact⟨M,rfl,hPM,zP hB3.size hM,hB3.trans (hB4.mono hB3.size)⟩
end Go.Proofs.YtnlimngkagmjpaaGreat
namespace Go.Proofs.YtnlimngkagmjpaaGreat
open Go Go.RowKit Lou
structure PcF (K:PgK)(v v':PgV)(st last:PgSt)(x:Int):Prop where
 nn:v'.N<=v.N+3
 ii:v'.i<=v.i+2
 dd:(x=0/\v'.S.sz=st.size/\(∀q:Nat,1<=q->q<K.P->v'.Y K q=v.view K q)/\v'.D=fun _=>none)∨(x≠0/\v'.S.sz=v.S.sz/\(∀q:Nat,q<K.P->v'.Y K q=v.Y K q)/\∀q:Int,q≠0->v'.D q=v.D q)
 why:st≠last->x=160∨∃v1:PgV,v1.S.sz=v.S.sz/\(v1.D=v.D∨v1.D=fun j=>if j=0 then some (headPB st) else v.D j)/\(v.view K 0=headPB st->v1.D=v.D)/\(v.view K 0≠headPB st->v1.D=fun j=>if j=0 then some (headPB st) else v.D j)/\v1.Y K=v.Y K/\ComWhy K v1 st.size x
def PcOut (W0:World)(K:PgK)(p:Nat)(v:PgV)(st last:PgSt)(mk:Value)(W:World)(e:Ending)(w':World):Prop:=∃x v' last' under' mk',e = .returned (.int .i64 x)/\PaIs W0 K p v' st last' under' mk' w'/\PcF K v v' st last x/\((x=0/\last'=st/\under'=false/\mk' = .slice none 0 0)∨(x≠0/\last'=last/\under'=true/\mk'=mk))/\Names K W v v'/\GrowBut (pgMu K p v) W w'
theorem PcOut.mk {W0:World}{K:PgK}{p:Nat}{v:PgV}{st last:PgSt}{mk:Value}{W:World}{e:Ending}{w':World}(h:∃x v' last' under' mk',e = .returned (.int .i64 x)/\PaIs W0 K p v' st last' under' mk' w'/\PcF K v v' st last x/\((x=0/\last'=st/\under'=false/\mk' = .slice none 0 0)∨(x≠0/\last'=last/\under'=true/\mk'=mk))/\Names K W v v'/\GrowBut (pgMu K p v) W w'):PcOut W0 K p v st last mk W e w':=h
theorem view_same {K:PgK}{v v1:PgV}(hy:v1.Y K=v.Y K)(hd:∀q:Int,q≠0->v1.D q=v.D q){q:Nat}(hq:1<=q):v1.view K q=v.view K q:=by
 rw[PgV.view_eq,PgV.view_eq,hy,hd (q:Int) (by omega)]
theorem wp_cutA {P:Program}{C:Code}{Q:Exit->Act->World->Prop}{a:Act}{w:World}(S:Act->Act->World->Prop)(h1:C.wp P (postS (S a)) a w)(h2:∀b w',S a b w'->Q .normal b w'):C.wp P Q a w:=wp_cutS (S a) h1 h2
-- THE WALK
section
variable {W0 W:World}{K:PgK}{p:Nat}{v:PgV}{st last:PgSt}{mk:Value}
theorem PaIs.turn' {v':PgV}{under:Bool}{W':World}(h:PaIs W0 K p v st last under mk W)(hG:GrowBut (K.mu v) W W')(hC:CaAt W0 K v' W'):PaIs W0 K p v' st last under mk W':=h.turn hG hC
theorem pcommit_gives (h:PaIs W0 K p v st last true mk W)(hK:K.Ok)(hN:v.N<=700000)(hi:v.i<=800)(hP0:0<K.P) :
  Calls Tryz.prog 17 #[.pointer (some ⟨p,0,none⟩)] W (PcOut W0 K p v st last mk W):=by
 have HA:=h.asked0 true
 have hsl:=psC_length h.hs
 have hll:=psC_length h.hl
 have hhl:=headPB_length h.hs
 go_enter Tryz.func17,Tryz.ntmps17
 go_wp2_with (go_at_call 41;refine HA.mono ?_;rintro e w1 ⟨rfl,hB1⟩)
 obtain⟨w1d,hw1d⟩:∃x,x=w1.drew:=⟨_,rfl⟩
 have hB1d:Below W.heap.size W w1d:=by rw[hw1d];exact hB1.trans ((Below.refl _ _).drew.mono hB1.size)
 have h1:=h.grow hB1d
 have HD:=callsIn_wide.1 (pdirty_in 10 (zG _) h1 hK)
 refine wp_cutA (fun a b W'=>∃(x11 x12 x13 x14 x15 x16 x17 x18 x19 x20 x21 x22 x23 x24:Value) (bb:Bool),b=((((((((((((((a.put (some 11) x11).put (some 12) x12).put (some 13) x13).put (some 14) x14).put (some 15) x15).put (some 16) x16).put (some 17) x17).put (some 18) x18).put (some 19) x19).put (some 20) x20).put (some 21) x21).put (some 22) x22).put (some 23) x23).put (some 24) x24).put (some 25) (.bool bb)/\Below W.heap.size W W'/\(bb=false->st=last)) ?_ ?_
 ·have hS0:w1d.rangeAt p 0 (psC st)/\w1d.rangeAt p 20 (psC last):=⟨h1.stRange,h1.lastRange⟩
  refine RegF.start (fun W':World=>W'.rangeAt p 0 (psC st)/\W'.rangeAt p 20 (psC last)) 99 (by kernel_rfl) ?_
  rw[<-hw1d]
  refine RegF.t0 0 (.pointer (some ⟨p,0,none⟩)) rfl hS0 (fun W ⟨e0,e1⟩=>by go_simp) ?_
  simp only[zD,zB,Act.put,zA,zF,zE]
  refine RegF.t0 1 (.pointer (some ⟨p,0,none⟩)) rfl hS0 (fun W ⟨e0,e1⟩=>by go_simp) ?_
  simp only[zD,zC,zB,Act.put,zA,zF,zE]
  refine RegF.t0 2 (.pointer (some ⟨p,0,none⟩)) rfl hS0 (fun W ⟨e0,e1⟩=>by go_simp) ?_
  simp only[zD,zC,zB,Act.put,zA,zF,zE]
  refine RegF.t0 3 (.agg (psC st).toArray) rfl hS0 (fun W ⟨e0,e1⟩=>by exact x_loadM rowPgSt e0 hsl rfl rfl) ?_
  simp only[zD,zC,zB,Act.put,zA,zF,zE]
  refine RegF.t0 4 (.pointer (some ⟨p,0,none⟩)) rfl hS0 (fun W ⟨e0,e1⟩=>by go_simp) ?_
  simp only[zD,zC,zB,Act.put,zA,zF,zE]
  refine RegF.t0 5 (.pointer (some ⟨p,0,none⟩)) rfl hS0 (fun W ⟨e0,e1⟩=>by go_simp) ?_
  simp only[zD,zC,zB,Act.put,zA,zF,zE]
  refine RegF.t0 6 (.pointer (some ⟨p,20,none⟩)) rfl hS0 (fun W ⟨e0,e1⟩=>by go_simp) ?_
  simp only[zD,zC,zB,Act.put,zA,zF,zE]
  refine RegF.t0 7 (.agg (psC last).toArray) rfl hS0 (fun W ⟨e0,e1⟩=>by exact x_loadM rowPgSt e1 hll rfl rfl) ?_
  simp only[zD,zC,zB,Act.put,zA,zF,zE]
  by_cases hne:st=last
  ·skip
   refine RegF.t0 8 (.bool false) rfl hS0 (fun W ⟨e0,e1⟩=>by exact x_neSt h.hs h.hl rfl rfl rfl (iff_of_false (by simp) (fun hn=>hn hne))) ?_
   simp only[zD,zC,zB,Act.put,zA,zF,zE]
   refine RegF.t0 9 (.bool false) rfl hS0 (fun W ⟨e0,e1⟩=>by go_simp) ?_
   simp only[zD,zC,zB,Act.put,zA,zF,zE]
   refine RegF.take0 10 (.pointer (some ⟨p,0,none⟩)) rfl (by kernel_rfl) (by kernel_rfl) (by kernel_rfl) rfl (fun _ _ _ h=>h) hS0 (RegF.yldG (by rfl) (fun W hW=>by obtain⟨e0,e1⟩:=hW;go_simp)) ?_
   simp only[zD,zC,zB,Act.put,zA,zF,zE]
   refine RegF.one 11 (by kernel_rfl) ?_
   refine RegF.opCg 48 #[.tmp 21] #[34] rfl (by rfl) rfl (enters_of Tryz.func48 (by kernel_rfl) rfl) #[.pointer (some ⟨p,0,none⟩)] (by simp only[zJ,zK,zL];rfl) (HD.mono ?_)
   rintro e w2 ⟨M,rfl,hPM,hMn,hB2⟩
   obtain⟨es,co,fm,hmi,_⟩:=hPM.has
   have h2:=h1.grow hB2
   have hS2:w2.rangeAt p 0 (psC st)/\w2.rangeAt p 20 (psC last):=⟨h2.stRange,h2.lastRange⟩
   refine⟨_,rfl,fun _=>hS2,?_⟩
   simp only[zD,zC,zB,Act.put,zA,zF,zE]
   refine RegF.one 12 (by kernel_rfl) (RegF.opVg (w':=w2) (.int .i64 (es.size:Int)) rfl (by rfl) (x_lenT Tryz.underlying87 hmi rfl rfl) ⟨fun _=>hS2,?_⟩)
   simp only[zD,zC,zB,Act.put,zA,zF,zE]
   obtain⟨bb,hb⟩:∃b,b=decide ((0:Int)<(es.size:Int)):=⟨_,rfl⟩
   refine RegF.one 13 (by kernel_rfl) (RegF.opVg (w':=w2) (.bool bb) rfl (by rfl) (by rw[hb];go_simp) ⟨fun _=>hS2,?_⟩)
   simp only[zD,zC,zB,Act.put,zA,zF,zE]
   refine RegF.one 14 (by kernel_rfl) (RegF.opV (w':=w2) (.bool bb) rfl rfl (by go_simp) ⟨fun _=>hS2,RegF.done (by kernel_rfl) ?_⟩)
   simp only[zD,zC,zB,Act.put,zA,zF,zE]
   exact⟨_,_,_,_,_,_,_,_,_,_,_,_,_,_,bb,by first|(simp only[Act.put];done)|rfl,hB1d.trans (hB2.mono hB1d.size),fun _=>hne⟩
  ·skip
   refine RegF.t0 8 (.bool true) rfl hS0 (fun W ⟨e0,e1⟩=>by exact x_neSt h.hs h.hl rfl rfl rfl (iff_of_true rfl hne)) ?_
   simp only[zD,zC,zB,Act.put,zA,zF,zE]
   refine RegF.t0 9 (.bool true) rfl hS0 (fun W ⟨e0,e1⟩=>by go_simp) ?_
   simp only[zD,zC,zB,Act.put,zA,zF,zE]
   refine RegF.take0 10 undef rfl (by kernel_rfl) (by kernel_rfl) (by kernel_rfl) rfl (fun _ _ _ h=>h) hS0 (.inr ⟨by rfl,rfl⟩) ?_
   simp only[zD,zC,zB,Act.put,zA,zF,zE]
   refine RegF.take0 11 undef rfl (by kernel_rfl) (by kernel_rfl) (by kernel_rfl) rfl (fun _ _ _ h=>h) hS0 (.inr ⟨by rfl,rfl⟩) ?_
   simp only[zD,zC,zB,Act.put,zA,zF,zE]
   refine RegF.take0 12 undef rfl (by kernel_rfl) (by kernel_rfl) (by kernel_rfl) rfl (fun _ _ _ h=>h) hS0 (.inr ⟨by rfl,rfl⟩) ?_
   simp only[zD,zC,zB,Act.put,zA,zF,zE]
   refine RegF.take0 13 undef rfl (by kernel_rfl) (by kernel_rfl) (by kernel_rfl) rfl (fun _ _ _ h=>h) hS0 (.inr ⟨by rfl,rfl⟩) ?_
   simp only[zD,zC,zB,Act.put,zA,zF,zE]
   refine RegF.one 14 (by kernel_rfl) (RegF.opV (w':=w1d) (.bool true) rfl rfl (by go_simp) ⟨fun _=>hS0,RegF.done (by kernel_rfl) ?_⟩)
   simp only[zD,zC,zB,Act.put,zA,zF,zE]
   exact⟨_,_,_,_,_,_,_,_,_,_,_,_,_,_,true,by first|(simp only[Act.put];done)|rfl,hB1d,(fun e=>by cases e)⟩
 clear HA hw1d hB1 HD h1 hB1d
 rintro b W1 ⟨x11,x12,x13,x14,x15,x16,x17,x18,x19,x20,x21,x22,x23,x24,bb,rfl,hB1d,hbb⟩
 simp only[Act.put,zA,zF,zE]
 have h1:=h.grow hB1d
 have HBB:=Lib.hid hbb
 clear hbb
 rcases bb with _|_
 ·have hG1:GrowBut (pgMu K p v) W W1:=GrowBut.below hB1d
  have hNv:Names K W v v:=fun k hk => .inl hk
  clear hB1d
  go_wp2_with fail
  have hd:=h1.grow (Below.refl _ _).drew
  have hS0:W1.drew.cell? ⟨p,19,none⟩=some (.pointer (some ⟨K.a,0,none⟩))/\W1.drew.cell? ⟨p,0,none⟩=some (.int .i64 st.size):=⟨hd.chc,hd.szc⟩
  refine RegF.start (fun W':World=>W'.cell? ⟨p,19,none⟩=some (.pointer (some ⟨K.a,0,none⟩))/\W'.cell? ⟨p,0,none⟩=some (.int .i64 st.size)) 99 (by kernel_rfl) ?_
  refine RegF.t0 0 (.pointer (some ⟨p,0,none⟩)) rfl hS0 (fun W ⟨e0,e1⟩=>by go_simp) ?_
  simp only[zD,zB,Act.put,zA,zF,zE]
  refine RegF.t0 1 (.pointer (some ⟨p,0,none⟩)) rfl hS0 (fun W ⟨e0,e1⟩=>by go_simp) ?_
  simp only[zD,zC,zB,Act.put,zA,zF,zE]
  refine RegF.t0 2 (.pointer (some ⟨p,19,none⟩)) rfl hS0 (fun W ⟨e0,e1⟩=>by go_simp) ?_
  simp only[zD,zC,zB,Act.put,zA,zF,zE]
  refine RegF.t0 3 (.pointer (some ⟨K.a,0,none⟩)) rfl hS0 (fun W ⟨e0,e1⟩=>by go_simp) ?_
  simp only[zD,zC,zB,Act.put,zA,zF,zE]
  refine RegF.t0 4 (.pointer (some ⟨p,0,none⟩)) rfl hS0 (fun W ⟨e0,e1⟩=>by go_simp) ?_
  simp only[zD,zC,zB,Act.put,zA,zF,zE]
  refine RegF.t0 5 (.pointer (some ⟨p,0,none⟩)) rfl hS0 (fun W ⟨e0,e1⟩=>by go_simp) ?_
  simp only[zD,zC,zB,Act.put,zA,zF,zE]
  refine RegF.t0 6 (.pointer (some ⟨p,0,none⟩)) rfl hS0 (fun W ⟨e0,e1⟩=>by go_simp) ?_
  simp only[zD,zC,zB,Act.put,zA,zF,zE]
  refine RegF.t0 7 (.pointer (some ⟨p,0,none⟩)) rfl hS0 (fun W ⟨e0,e1⟩=>by go_simp) ?_
  simp only[zD,zC,zB,Act.put,zA,zF,zE]
  refine RegF.t0 8 (.int .i64 st.size) rfl hS0 (fun W ⟨e0,e1⟩=>by go_simp) ?_
  simp only[zD,zC,zB,Act.put,zA,zF,zE]
  refine RegF.one 9 (by kernel_rfl) ?_
  refine RegF.opC 36 #[.tmp 62,.tmp 67] #[52,3] rfl rfl rfl (enters_of Tryz.func36 (by kernel_rfl) rfl) #[.pointer (some ⟨K.a,0,none⟩),.int .i64 st.size] (by simp only[zJ,zK,zL];rfl) ((gcommit hd.ca hK (by omega) (by omega) st.size).mono ?_)
  rintro e w8 ⟨x,v8,rfl,hC8,e1,e2,hq,hwhy,hn8,hG8⟩
  have h8:=hd.turn' hG8 hC8
  have hS8:w8.cell? ⟨p,19,none⟩=some (.pointer (some ⟨K.a,0,none⟩))/\w8.cell? ⟨p,0,none⟩=some (.int .i64 st.size):=⟨h8.chc,h8.szc⟩
  refine⟨_,rfl,fun _=>hS8,?_⟩
  simp only[zD,zC,zB,Act.put,zA,zF,zE]
  refine RegF.one 10 (by kernel_rfl) (RegF.opV (w':=w8) (.int .i64 x) rfl rfl (by go_simp) ⟨fun _=>hS8,RegF.done (by kernel_rfl) ?_⟩)
  simp only[zD,zC,zB,Act.put,zA,zF,zE]
  have hws:=hG1.size
  have hGB:GrowBut (K.mu v) W1 w8:=(GrowBut.below ((Below.refl _ _).drew)).trans hG8
  have hG8':GrowBut (pgMu K p v) W w8:=((hG1.more (Nu:=fun k=>pgMu K p v k∨K.mu v k) (fun _ hk _ => .inl hk)).trans (hGB.more fun _ hk _ => .inr hk)).more (fun k hk hl=>hk.elim id (fun hm=>(hNv k hm).elim .inr (fun he=>by omega)))
  have hN8:Names K W v v8:=fun k hk=>((hn8.mono hws) k hk).elim (fun hm=>hNv k hm) .inr
  have hF:PcF K v v8 st last x:=⟨by omega,by omega,by
   rcases hq with⟨q1,q2,q3,q4⟩|⟨q1,q2,q3,q4⟩
   ·exact .inl ⟨q1,q2,fun q h1 h2=>(q3 q h2).trans (view_same (v:=v) (v1:=v) rfl (fun _ _=>rfl) h1),q4⟩
   ·exact .inr ⟨q1,q2,fun q h1=>(q3 q h1).trans rfl,fun q hq=>(congrFun q4 q).trans rfl⟩,fun hne=>absurd (HBB.out (by first|rfl|trivial)) hne⟩
  have HF:=Lib.hid hF
  clear hF hq hwhy hS0 hS8 hd hG8 hGB hn8
  by_cases hx:x=0
  ·subst hx
   have hR8:=h8.stRange
   have hT8:w8.there p 20 (psC st).toArray.size:=blk_there h8.pb (by rw[pgC_size' h8.hs h8.hl];simp[hsl])
   obtain⟨h9,hG9⟩:=h8.setLast h8.hs
   go_wp2_with (first
    | (refine wp_exec rfl (x_loadM rowPgSt hR8 hsl rfl rfl) ?_)
    | (refine wpList_store_mid rfl 51 _ _ rfl p 20 (psC st).toArray rfl rfl hT8 (by simpa[hsl] using rowPgSt.size) (all_oneCell_toArray (psC_one _)) ?_)
    | (go_at_call 52;refine(pover_gives h9).mono ?_;rintro e w9 ⟨⟨z,rfl⟩,h10,hG10⟩))
   go_ret
   exact PcOut.mk ⟨0,v8,st,false,_,rfl,h10,HF.out,.inl ⟨rfl,rfl,rfl,rfl⟩,hN8,hG8'.trans ((growP hG9).trans (growP hG10))⟩
  ·go_wp2
   go_ret
   exact PcOut.mk ⟨x,v8,last,true,mk,rfl,h8,HF.out,.inr ⟨hx,rfl,rfl,rfl⟩,hN8,hG8'⟩
 ·have c19:=h1.chc
  go_wp2_with fail
  refine(gread h1.ca hK (by omega) 0).mono ?_
  rintro e w4 ⟨x4,v4,hE4,hC4,r1,r2,r3,r4,r5,r6,r7,hn4,hG4⟩
  have h4:=h1.turn hG4 hC4
  have hG04:GrowBut (pgMu K p v) W w4:=(GrowBut.below hB1d).trans (growMu hG4)
  have hN4:Names K W v v4:=hn4.mono hB1d.size
  have hT4:=h1.ca.tight
  have hvl:=h1.ca.viewLen 0
  clear h1 hB1d hG4 hn4 hC4 c19
  rcases x4 with er|y
  ·have he:=r7 er rfl
   obtain rfl:e = .returned (.tuple #[.slice none 0 0,.int .i64 er]):=hE4
   have h160:er=160:=by
    rcases he with h1|h1
    ·omega
    ·exact h1.1
   subst h160
   have hF:PcF K v v4 st last 160:=⟨by omega,by omega,.inr ⟨by decide,r4,fun q _=>by rw[r3],fun q _=>by rw[r5]⟩,fun _ => .inl rfl⟩
   have HF:=Lib.hid hF
   clear hF r6 r7 he hT4
   go_wp2
   go_ret
   exact PcOut.mk ⟨160,v4,last,true,mk,rfl,h4,HF.out,.inr ⟨by decide,rfl,rfl,rfl⟩,hN4,hG04⟩
  obtain⟨A4,c4,rfl,hin4,_⟩:=hE4
  obtain⟨_,hyv⟩:=r6 y rfl
  have hyv:y=v.view K 0:=hyv
  have hyl:y.length=512:=by rw[hyv];exact hvl
  rw[hyl]
  have hR4:=h4.stRange
  obtain⟨hb,hhb⟩:∃hb,hb=headPB st:=⟨_,rfl⟩
  have HH:=fun W=>phead_gives W st h.hs
  rw[<-hhb] at HH hhl
  have HEQ:∀W A c A' c',InB W W.heap.size A c y->InB W W.heap.size A' c' hb->Calls Tryz.prog 40 #[.slice A 512 c,.slice A' 512 c'] W fun e w'=>e = .returned (.bool (decide (y=hb)))/\Below W.heap.size W w':=fun W A c A' c' i1 i2=>by
   have:=eqB_gives W A A' c c' y hb i1 i2
   rw[hyl,hhl] at this
   exact this
  have HYV:=Lib.hid hyv
  have HHB:=Lib.hid hhb
  clear r6 r7 hT4 hvl hyv hhb
  by_cases heq:y=hb
  ·have hdd:decide (y=hb)=true:=decide_eq_true heq
   rw[hdd] at HEQ
   go_wp2_with (first
    | (refine wp_execG (by first|rfl|simp[Region.wanted,yielded]) (x_loadM rowPgSt hR4 hsl rfl rfl) ?_)
    | (go_at_call 35;refine(HH _).mono ?_;rintro e w5 ⟨A5,c5,rfl,hin5,hB5⟩;have in45:=(hin4.below hB5).more hB5.size)
    | (revert in45;intro in45;go_at_call 40;refine(HEQ _ _ _ _ _ in45 hin5).mono ?_;rintro e w6 ⟨rfl,hB6⟩))
   have hB46:Below w4.heap.size w4 w6:=hB5.trans (hB6.mono hB5.size)
   have h6:=h4.grow hB46
   have hG6:GrowBut (pgMu K p v) W w6:=hG04.trans (GrowBut.below hB46)
   have hVD:∀q:Int,q≠0->v4.D q=v.D q:=fun q _=>by rw[r5]
   have hVY:=r3
   have hVs:=r4
   clear HEQ HH hin4 hR4 hB5 hB6 hB46 hin5 in45 h4 hG04
   go_wp2_with fail
   have hd:=h6.grow (Below.refl _ _).drew
   have hS0:w6.drew.cell? ⟨p,19,none⟩=some (.pointer (some ⟨K.a,0,none⟩))/\w6.drew.cell? ⟨p,0,none⟩=some (.int .i64 st.size):=⟨hd.chc,hd.szc⟩
   refine RegF.start (fun W':World=>W'.cell? ⟨p,19,none⟩=some (.pointer (some ⟨K.a,0,none⟩))/\W'.cell? ⟨p,0,none⟩=some (.int .i64 st.size)) 99 (by kernel_rfl) ?_
   refine RegF.t0 0 (.pointer (some ⟨p,0,none⟩)) rfl hS0 (fun W ⟨e0,e1⟩=>by go_simp) ?_
   simp only[zD,zB,Act.put,zA,zF,zE]
   refine RegF.t0 1 (.pointer (some ⟨p,0,none⟩)) rfl hS0 (fun W ⟨e0,e1⟩=>by go_simp) ?_
   simp only[zD,zC,zB,Act.put,zA,zF,zE]
   refine RegF.t0 2 (.pointer (some ⟨p,19,none⟩)) rfl hS0 (fun W ⟨e0,e1⟩=>by go_simp) ?_
   simp only[zD,zC,zB,Act.put,zA,zF,zE]
   refine RegF.t0 3 (.pointer (some ⟨K.a,0,none⟩)) rfl hS0 (fun W ⟨e0,e1⟩=>by go_simp) ?_
   simp only[zD,zC,zB,Act.put,zA,zF,zE]
   refine RegF.t0 4 (.pointer (some ⟨p,0,none⟩)) rfl hS0 (fun W ⟨e0,e1⟩=>by go_simp) ?_
   simp only[zD,zC,zB,Act.put,zA,zF,zE]
   refine RegF.t0 5 (.pointer (some ⟨p,0,none⟩)) rfl hS0 (fun W ⟨e0,e1⟩=>by go_simp) ?_
   simp only[zD,zC,zB,Act.put,zA,zF,zE]
   refine RegF.t0 6 (.pointer (some ⟨p,0,none⟩)) rfl hS0 (fun W ⟨e0,e1⟩=>by go_simp) ?_
   simp only[zD,zC,zB,Act.put,zA,zF,zE]
   refine RegF.t0 7 (.pointer (some ⟨p,0,none⟩)) rfl hS0 (fun W ⟨e0,e1⟩=>by go_simp) ?_
   simp only[zD,zC,zB,Act.put,zA,zF,zE]
   refine RegF.t0 8 (.int .i64 st.size) rfl hS0 (fun W ⟨e0,e1⟩=>by go_simp) ?_
   simp only[zD,zC,zB,Act.put,zA,zF,zE]
   refine RegF.one 9 (by kernel_rfl) ?_
   refine RegF.opC 36 #[.tmp 62,.tmp 67] #[52,3] rfl rfl rfl (enters_of Tryz.func36 (by kernel_rfl) rfl) #[.pointer (some ⟨K.a,0,none⟩),.int .i64 st.size] (by simp only[zJ,zK,zL];rfl) ((gcommit hd.ca hK (by omega) (by omega) st.size).mono ?_)
   rintro e w8 ⟨x,v8,rfl,hC8,e1,e2,hq,hwhy,hn8,hG8⟩
   have h8:=hd.turn' hG8 hC8
   have hS8:w8.cell? ⟨p,19,none⟩=some (.pointer (some ⟨K.a,0,none⟩))/\w8.cell? ⟨p,0,none⟩=some (.int .i64 st.size):=⟨h8.chc,h8.szc⟩
   refine⟨_,rfl,fun _=>hS8,?_⟩
   simp only[zD,zC,zB,Act.put,zA,zF,zE]
   refine RegF.one 10 (by kernel_rfl) (RegF.opV (w':=w8) (.int .i64 x) rfl rfl (by go_simp) ⟨fun _=>hS8,RegF.done (by kernel_rfl) ?_⟩)
   simp only[zD,zC,zB,Act.put,zA,zF,zE]
   have hws:=hG6.size
   have hGB:GrowBut (K.mu v4) w6 w8:=(GrowBut.below ((Below.refl _ _).drew)).trans hG8
   have hG8':GrowBut (pgMu K p v) W w8:=((hG6.more (Nu:=fun k=>pgMu K p v k∨K.mu v4 k) (fun _ hk _ => .inl hk)).trans (hGB.more fun _ hk _ => .inr hk)).more (fun k hk hl=>hk.elim id (fun hm=>(hN4 k hm).elim .inr (fun he=>by omega)))
   have hN8:Names K W v v8:=fun k hk=>((hn8.mono hws) k hk).elim (fun hm=>hN4 k hm) .inr
   have hF:PcF K v v8 st last x:=⟨by omega,by omega,by
    rcases hq with⟨q1,q2,q3,q4⟩|⟨q1,q2,q3,q4⟩
    ·exact .inl ⟨q1,q2,fun q h1 h2=>(q3 q h2).trans (view_same hVY hVD h1),q4⟩
    ·exact .inr ⟨q1,q2.trans hVs,fun q h1=>(q3 q h1).trans (by rw[hVY]),fun q hq=>(congrFun q4 q).trans (hVD q hq)⟩,fun _ => .inr ⟨v4,r4,.inl r5,fun _=>r5,fun hn=>absurd (HYV.out.symm.trans (heq.trans HHB.out)) hn,r3,hwhy⟩⟩
   have HF:=Lib.hid hF
   clear hF hq hwhy hS0 hS8 hd hG8 hGB hn8
   by_cases hx:x=0
   ·subst hx
    have hR8:=h8.stRange
    have hT8:w8.there p 20 (psC st).toArray.size:=blk_there h8.pb (by rw[pgC_size' h8.hs h8.hl];simp[hsl])
    obtain⟨h9,hG9⟩:=h8.setLast h8.hs
    go_wp2_with (first
     | (refine wp_exec rfl (x_loadM rowPgSt hR8 hsl rfl rfl) ?_)
     | (refine wpList_store_mid rfl 51 _ _ rfl p 20 (psC st).toArray rfl rfl hT8 (by simpa[hsl] using rowPgSt.size) (all_oneCell_toArray (psC_one _)) ?_)
     | (go_at_call 52;refine(pover_gives h9).mono ?_;rintro e w9 ⟨⟨z,rfl⟩,h10,hG10⟩))
    go_ret
    exact PcOut.mk ⟨0,v8,st,false,_,rfl,h10,HF.out,.inl ⟨rfl,rfl,rfl,rfl⟩,hN8,hG8'.trans ((growP hG9).trans (growP hG10))⟩
   ·go_wp2
    go_ret
    exact PcOut.mk ⟨x,v8,last,true,mk,rfl,h8,HF.out,.inr ⟨hx,rfl,rfl,rfl⟩,hN8,hG8'⟩
  ·have hdd:decide (y=hb)=false:=decide_eq_false heq
   rw[hdd] at HEQ
   go_wp2_with (first
    | (refine wp_execG (by first|rfl|simp[Region.wanted,yielded]) (x_loadM rowPgSt hR4 hsl rfl rfl) ?_)
    | (go_at_call 35;refine(HH _).mono ?_;rintro e w5 ⟨A5,c5,rfl,hin5,hB5⟩;have in45:=(hin4.below hB5).more hB5.size)
    | (revert in45;intro in45;go_at_call 40;refine(HEQ _ _ _ _ _ in45 hin5).mono ?_;rintro e w6 ⟨rfl,hB6⟩))
   have hB46:Below w4.heap.size w4 w6:=hB5.trans (hB6.mono hB5.size)
   have h6:=h4.grow (hB46.trans ((Below.refl _ _).drew.mono hB46.size))
   have hG6:GrowBut (pgMu K p v) W w6.drew:=hG04.trans (GrowBut.below (hB46.trans ((Below.refl _ _).drew.mono hB46.size)))
   clear HEQ hin4 hR4 hB5 hB6 hB46 hin5 in45 h4 hG04
   have hS6:w6.drew.cell? ⟨p,19,none⟩=some (.pointer (some ⟨K.a,0,none⟩))/\w6.drew.rangeAt p 0 (psC st):=⟨h6.chc,h6.stRange⟩
   refine RegF.start (fun W':World=>W'.cell? ⟨p,19,none⟩=some (.pointer (some ⟨K.a,0,none⟩))/\W'.rangeAt p 0 (psC st)) 99 (by kernel_rfl) ?_
   refine RegF.t0 0 (.pointer (some ⟨p,0,none⟩)) rfl hS6 (fun W ⟨e0,e1⟩=>by go_simp) ?_
   simp only[zD,zB,Act.put,zA,zF,zE]
   refine RegF.t0 1 (.pointer (some ⟨p,0,none⟩)) rfl hS6 (fun W ⟨e0,e1⟩=>by go_simp) ?_
   simp only[zD,zC,zB,Act.put,zA,zF,zE]
   refine RegF.t0 2 (.pointer (some ⟨p,19,none⟩)) rfl hS6 (fun W ⟨e0,e1⟩=>by go_simp) ?_
   simp only[zD,zC,zB,Act.put,zA,zF,zE]
   refine RegF.t0 3 (.pointer (some ⟨K.a,0,none⟩)) rfl hS6 (fun W ⟨e0,e1⟩=>by go_simp) ?_
   simp only[zD,zC,zB,Act.put,zA,zF,zE]
   refine RegF.t0 4 (.pointer (some ⟨p,0,none⟩)) rfl hS6 (fun W ⟨e0,e1⟩=>by go_simp) ?_
   simp only[zD,zC,zB,Act.put,zA,zF,zE]
   refine RegF.t0 5 (.pointer (some ⟨p,0,none⟩)) rfl hS6 (fun W ⟨e0,e1⟩=>by go_simp) ?_
   simp only[zD,zC,zB,Act.put,zA,zF,zE]
   refine RegF.t0 6 (.pointer (some ⟨p,0,none⟩)) rfl hS6 (fun W ⟨e0,e1⟩=>by go_simp) ?_
   simp only[zD,zC,zB,Act.put,zA,zF,zE]
   refine RegF.t0 7 (.agg (psC st).toArray) rfl hS6 (fun W ⟨e0,e1⟩=>by exact x_loadM rowPgSt e1 hsl rfl rfl) ?_
   simp only[zD,zC,zB,Act.put,zA,zF,zE]
   refine RegF.one 8 (by kernel_rfl) ?_
   refine RegF.opC 35 #[.tmp 53] #[51] rfl rfl rfl (enters_of Tryz.func35 (by kernel_rfl) rfl) #[.agg (psC st).toArray] (by simp only[zJ,zK,zL];rfl) ((HH _).mono ?_)
   rintro e w7 ⟨A7,c7,rfl,hin7,hB7⟩
   have h7:=h6.grow hB7
   have hS7:w7.cell? ⟨p,19,none⟩=some (.pointer (some ⟨K.a,0,none⟩))/\w7.rangeAt p 0 (psC st):=⟨h7.chc,h7.stRange⟩
   refine⟨_,rfl,fun _=>hS7,?_⟩
   simp only[zD,zC,zB,Act.put,zA,zF,zE]
   refine RegF.one 9 (by kernel_rfl) ?_
   refine RegF.opC 34 #[.tmp 49,.const (.int .i64 0),.tmp 54] #[52,3,22] rfl rfl rfl (enters_of Tryz.func34 (by kernel_rfl) rfl) #[.pointer (some ⟨K.a,0,none⟩),.int .i64 0,.slice A7 512 c7] (by simp only[zJ,zK,zL];rfl) ((gwrite h7.ca hK (by omega) 0 A7 c7 hb hhl hin7).mono ?_)
   rintro e w9 ⟨x,v9,rfl,hC9,s1,s2,s3,s4,sq,hn9,hG9⟩
   have h9:=h7.turn hG9 hC9
   have hS9:w9.cell? ⟨p,19,none⟩=some (.pointer (some ⟨K.a,0,none⟩))/\w9.rangeAt p 0 (psC st):=⟨h9.chc,h9.stRange⟩
   refine⟨_,rfl,fun _=>hS9,?_⟩
   simp only[zD,zC,zB,Act.put,zA,zF,zE]
   refine RegF.one 10 (by kernel_rfl) (RegF.opV (w':=w9) (.int .i64 x) rfl rfl (by go_simp) ⟨fun _=>hS9,RegF.done (by kernel_rfl) ?_⟩)
   simp only[zD,zC,zB,Act.put,zA,zF,zE]
   have hws:=hG6.size
   have hGB:GrowBut (K.mu v4) w6.drew w9:=(GrowBut.below hB7).trans hG9
   have hG9':GrowBut (pgMu K p v) W w9:=((hG6.more (Nu:=fun k=>pgMu K p v k∨K.mu v4 k) (fun _ hk _ => .inl hk)).trans (hGB.more fun _ hk _ => .inr hk)).more (fun k hk hl=>hk.elim id (fun hm=>(hN4 k hm).elim .inr (fun he=>by omega)))
   have hN9:Names K W v v9:=fun k hk=>((hn9.mono (zP hws hB7.size)) k hk).elim (fun hm=>hN4 k hm) .inr
   clear hS6 hS7 hS9 h6 h7 hB7 hin7 hC9 hn9 hG9 hGB hG6 hws HH
   by_cases hx0:x=0
   ·subst hx0
    have hD9:v9.D=fun j=>if j=0 then some (headPB st) else v.D j:=by
     rcases sq with h1|h1
     ·rw[<-r5,<-HHB.out];exact h1.2.2
     ·exact absurd h1.1 (by omega)
    have hVD:∀q:Int,q≠0->v9.D q=v.D q:=fun q hq=>by rw[hD9];exact if_neg hq
    have hVY:v9.Y K=v.Y K:=s3.trans r3
    have hVs:v9.S.sz=v.S.sz:=s4.trans r4
    have HD9:=Lib.hid hD9
    clear sq hD9
    go_wp2_with fail
    have hd:=h9.grow (Below.refl _ _).drew
    have hS0:w9.drew.cell? ⟨p,19,none⟩=some (.pointer (some ⟨K.a,0,none⟩))/\w9.drew.cell? ⟨p,0,none⟩=some (.int .i64 st.size):=⟨hd.chc,hd.szc⟩
    refine RegF.start (fun W':World=>W'.cell? ⟨p,19,none⟩=some (.pointer (some ⟨K.a,0,none⟩))/\W'.cell? ⟨p,0,none⟩=some (.int .i64 st.size)) 99 (by kernel_rfl) ?_
    refine RegF.t0 0 (.pointer (some ⟨p,0,none⟩)) rfl hS0 (fun W ⟨e0,e1⟩=>by go_simp) ?_
    simp only[zD,zB,Act.put,zA,zF,zE]
    refine RegF.t0 1 (.pointer (some ⟨p,0,none⟩)) rfl hS0 (fun W ⟨e0,e1⟩=>by go_simp) ?_
    simp only[zD,zC,zB,Act.put,zA,zF,zE]
    refine RegF.t0 2 (.pointer (some ⟨p,19,none⟩)) rfl hS0 (fun W ⟨e0,e1⟩=>by go_simp) ?_
    simp only[zD,zC,zB,Act.put,zA,zF,zE]
    refine RegF.t0 3 (.pointer (some ⟨K.a,0,none⟩)) rfl hS0 (fun W ⟨e0,e1⟩=>by go_simp) ?_
    simp only[zD,zC,zB,Act.put,zA,zF,zE]
    refine RegF.t0 4 (.pointer (some ⟨p,0,none⟩)) rfl hS0 (fun W ⟨e0,e1⟩=>by go_simp) ?_
    simp only[zD,zC,zB,Act.put,zA,zF,zE]
    refine RegF.t0 5 (.pointer (some ⟨p,0,none⟩)) rfl hS0 (fun W ⟨e0,e1⟩=>by go_simp) ?_
    simp only[zD,zC,zB,Act.put,zA,zF,zE]
    refine RegF.t0 6 (.pointer (some ⟨p,0,none⟩)) rfl hS0 (fun W ⟨e0,e1⟩=>by go_simp) ?_
    simp only[zD,zC,zB,Act.put,zA,zF,zE]
    refine RegF.t0 7 (.pointer (some ⟨p,0,none⟩)) rfl hS0 (fun W ⟨e0,e1⟩=>by go_simp) ?_
    simp only[zD,zC,zB,Act.put,zA,zF,zE]
    refine RegF.t0 8 (.int .i64 st.size) rfl hS0 (fun W ⟨e0,e1⟩=>by go_simp) ?_
    simp only[zD,zC,zB,Act.put,zA,zF,zE]
    refine RegF.one 9 (by kernel_rfl) ?_
    refine RegF.opC 36 #[.tmp 62,.tmp 67] #[52,3] rfl rfl rfl (enters_of Tryz.func36 (by kernel_rfl) rfl) #[.pointer (some ⟨K.a,0,none⟩),.int .i64 st.size] (by simp only[zJ,zK,zL];rfl) ((gcommit hd.ca hK (by omega) (by omega) st.size).mono ?_)
    rintro e w8 ⟨x,v8,rfl,hC8,e1,e2,hq,hwhy,hn8,hG8⟩
    have h8:=hd.turn' hG8 hC8
    have hS8:w8.cell? ⟨p,19,none⟩=some (.pointer (some ⟨K.a,0,none⟩))/\w8.cell? ⟨p,0,none⟩=some (.int .i64 st.size):=⟨h8.chc,h8.szc⟩
    refine⟨_,rfl,fun _=>hS8,?_⟩
    simp only[zD,zC,zB,Act.put,zA,zF,zE]
    refine RegF.one 10 (by kernel_rfl) (RegF.opV (w':=w8) (.int .i64 x) rfl rfl (by go_simp) ⟨fun _=>hS8,RegF.done (by kernel_rfl) ?_⟩)
    simp only[zD,zC,zB,Act.put,zA,zF,zE]
    have hws:=hG9'.size
    have hGB:GrowBut (K.mu v9) w9 w8:=(GrowBut.below ((Below.refl _ _).drew)).trans hG8
    have hG8':GrowBut (pgMu K p v) W w8:=((hG9'.more (Nu:=fun k=>pgMu K p v k∨K.mu v9 k) (fun _ hk _ => .inl hk)).trans (hGB.more fun _ hk _ => .inr hk)).more (fun k hk hl=>hk.elim id (fun hm=>(hN9 k hm).elim .inr (fun he=>by omega)))
    have hN8:Names K W v v8:=fun k hk=>((hn8.mono hws) k hk).elim (fun hm=>hN9 k hm) .inr
    have hF:PcF K v v8 st last x:=⟨by omega,by omega,by
     rcases hq with⟨q1,q2,q3,q4⟩|⟨q1,q2,q3,q4⟩
     ·exact .inl ⟨q1,q2,fun q h1 h2=>(q3 q h2).trans (view_same hVY hVD h1),q4⟩
     ·exact .inr ⟨q1,q2.trans hVs,fun q h1=>(q3 q h1).trans (by rw[hVY]),fun q hq=>(congrFun q4 q).trans (hVD q hq)⟩,fun _ => .inr ⟨v9,s4.trans r4,.inr HD9.out,fun hn=>absurd (HYV.out.trans (hn.trans HHB.out.symm)) heq,fun _=>HD9.out,s3.trans r3,hwhy⟩⟩
    have HF:=Lib.hid hF
    clear hF hq hwhy hS0 hS8 hd hG8 hGB hn8
    by_cases hx:x=0
    ·subst hx
     have hR8:=h8.stRange
     have hT8:w8.there p 20 (psC st).toArray.size:=blk_there h8.pb (by rw[pgC_size' h8.hs h8.hl];simp[hsl])
     obtain⟨h9,hG9⟩:=h8.setLast h8.hs
     go_wp2_with (first
      | (refine wp_exec rfl (x_loadM rowPgSt hR8 hsl rfl rfl) ?_)
      | (refine wpList_store_mid rfl 51 _ _ rfl p 20 (psC st).toArray rfl rfl hT8 (by simpa[hsl] using rowPgSt.size) (all_oneCell_toArray (psC_one _)) ?_)
      | (go_at_call 52;refine(pover_gives h9).mono ?_;rintro e w9 ⟨⟨z,rfl⟩,h10,hG10⟩))
     go_ret
     exact PcOut.mk ⟨0,v8,st,false,_,rfl,h10,HF.out,.inl ⟨rfl,rfl,rfl,rfl⟩,hN8,hG8'.trans ((growP hG9).trans (growP hG10))⟩
    ·go_wp2
     go_ret
     exact PcOut.mk ⟨x,v8,last,true,mk,rfl,h8,HF.out,.inr ⟨hx,rfl,rfl,rfl⟩,hN8,hG8'⟩
   ·have hx1:x=160/\v9.D=v.D:=by
     rcases sq with h1|h1
     ·exact absurd h1.1 hx0
     ·refine⟨?_,h1.2.trans r5⟩
      rcases h1.1 with h2|h2
      ·omega
      ·exact h2.1
    obtain⟨rfl,hD9⟩:=hx1
    have hF:PcF K v v9 st last 160:=⟨by omega,by omega,.inr ⟨by decide,s4.trans r4,fun q _=>by rw[s3,r3],fun q _=>by rw[hD9]⟩,fun _ => .inl rfl⟩
    have HF:=Lib.hid hF
    clear hF sq hD9
    go_wp2
    go_ret
    exact PcOut.mk ⟨160,v9,last,true,mk,rfl,h9,HF.out,.inr ⟨by decide,rfl,rfl,rfl⟩,hN9,hG9'⟩
end
theorem dirtyL_fst (R:RowsC):∀P,(dirtyL R P).map (·.1)=(List.range P).filter fun (p:Nat)=>(dirF R (p:Int)).isSome
 | 0=>rfl
 | P+1=>by
  unfold dirtyL
  rw[List.map_append,dirtyL_fst R P,List.range_succ,List.filter_append]
  congr 1
  unfold dirF
  cases h:R (P:Int) with
  | none=>simp[h]
  | some x =>
   obtain⟨y,d⟩:=x
   cases d<;>simp[h]
theorem dirtyD_len (v:PgV)(P:Nat):(dirtyL v.R P).length=cntD P v.D:=by
 have:=congrArg List.length (dirtyL_fst v.R P)
 rw[qD] at this
 exact this
theorem ComWhy.dirty {K:PgK}{v:PgV}{z x:Int}(h:ComWhy K v z x)(hK:K.Ok)(hn:0<cntD K.P v.D)(hz:0<=z/\z<=K.pg):((cntD K.P v.D:Int)<=K.fr/\x=0)∨(K.fr<(cntD K.P v.D:Int)/\x=160):=by
 have hl:=dirtyD_len v K.P
 have hne:dirtyL v.R K.P≠[]:=fun e=>by rw[e] at hl;simp at hl;omega
 have hP:=hK.hP
 rcases h with⟨_,hc⟩|⟨h,_⟩|⟨h,_⟩
 ·rw[hl] at hc
  rcases hc with⟨_,hc⟩|⟨hc,_⟩
  ·exact hc
  ·refine absurd ⟨by omega,hz.1,hz.2,fun k hk => ?_⟩ hc
   have hk':k<(dirtyL v.R K.P).length:=by omega
   have:=(dirtyL_mem.1 (qJ hk')).1
   unfold pwL
   rw[zI hk']
   show 0<=(((dirtyL v.R K.P)[k].1:Nat):Int)/\(((dirtyL v.R K.P)[k].1:Nat):Int)<K.pg
   omega
 ·exact absurd h hne
 ·exact absurd h hne
theorem cntD_le {P:Nat}{D:Int->Option (List UInt8)}(l:List Nat)(h:∀p:Nat,(D (p:Int)).isSome=true->p∈l):cntD P D<=l.length :=
 nodup_len (List.nodup_range.filter _) (fun x hx=>h x (List.mem_filter.1 hx).2)
theorem cntD_pos {P:Nat}{D:Int->Option (List UInt8)}{p:Nat}(hp:p<P)(h:(D (p:Int)).isSome=true):0<cntD P D:=List.length_pos_of_mem (List.mem_filter.2 ⟨List.mem_range.2 hp,h⟩)
def st00:PgSt:=⟨0,0,0,zR 16 0⟩
def st01:PgSt:=⟨1,0,0,zR 16 0⟩
section
variable {W0 W:World}{K:PgK}{p:Nat}{v:PgV}{st last:PgSt}{under:Bool}{mk:Value}
theorem PaIs.setSize (h:PaIs W0 K p v st last under mk W)(n:Int):PaIs W0 K p v { st with size:=n } last under mk (W.setCell ⟨p,0,none⟩ (.int .i64 n))/\GrowBut (fun k=>k=p) W (W.setCell ⟨p,0,none⟩ (.int .i64 n)):=by
 have hG:GrowBut (fun k=>k=p) W (W.setCell ⟨p,0,none⟩ (.int .i64 n)):=GrowBut.setCell _ _ _ rfl
 have hb:=h.pb.set 0 (.int .i64 n)
 rw[pgC_setSize] at hb
 exact⟨h.own hG hb h.hs h.hl,hG⟩
end
def OpOut (W0:World)(d f l many P:Nat)(fr pg room:Int)(W:World)(e:Ending)(w':World):Prop :=
 ((2<=room/\room<=2000)/\∃p a r v,e = .returned (.tuple #[.pointer (some ⟨p,0,none⟩),.int .i64 0])/\PaIs W0 ⟨d,f,l,a,r,many,P,fr,pg,room⟩ p v st01 st01 false (.slice none 0 0) w'/\v.N<=3/\v.i<=2/\v.S.sz=1/\(v.D=fun _=>none)/\v.Y ⟨d,f,l,a,r,many,P,fr,pg,room⟩ 0=headPB st01) ∨
 (¬ (2<=room/\room<=2000)/\e = .returned (.tuple #[.pointer none,.int .i64 2])/\Below W.heap.size W w')
theorem OpOut.good {W0:World}{d f l many P:Nat}{fr pg room:Int}{W:World}{e:Ending}{w':World}(h:(2<=room/\room<=2000)/\∃p a r v,e = .returned (.tuple #[.pointer (some ⟨p,0,none⟩),.int .i64 0])/\PaIs W0 ⟨d,f,l,a,r,many,P,fr,pg,room⟩ p v st01 st01 false (.slice none 0 0) w'/\v.N<=3/\v.i<=2/\v.S.sz=1/\(v.D=fun _=>none)/\v.Y ⟨d,f,l,a,r,many,P,fr,pg,room⟩ 0=headPB st01):OpOut W0 d f l many P fr pg room W e w':=.inl h
theorem begunA {W0 w:World}{d f l a r many P:Nat}{fr pg room:Int}(hpl:planOk fr pg=true)(hm:(many:Int)=2+9*fr+8*pg)(hmax:many<=40000)(hP:(P:Int)=pg)(hP2:P<=200)(hr:2<=room/\room<=2000)
  (h:CsIs W0 d f l a r many P fr pg room ⟨laid (fun _=>zer64) (wrL 1 (hEnc 1 1 0 0) 1),[],0,false⟩ ⟨1,1,0,[]⟩ ⟨0,0,0,fun _=>none⟩ w):CaAt W0 ⟨d,f,l,a,r,many,P,fr,pg,room⟩ ⟨laid (fun _=>zer64) (wrL 1 (hEnc 1 1 0 0) 1),⟨1,1,0,[]⟩,⟨0,0,0,fun _=>none⟩,0,0⟩ w:=by
 have hpr:=(planOk_iff fr pg).1 hpl
 refine⟨h,StP.begun (fr:=fr) (pg:=pg) (by omega) (by omega),(fun x hx=>absurd hx (by simp)),CaSt.Ok.zero,(fun p b d e=>by cases e),?_⟩
 have:cntR P (fun _=>none)=0:=by
  have:=cntR_le (P:=P) (V:=fun _=>none) (V':=fun _=>none) (fun _ h=>h)
  unfold cntR keysV ptrV
  simp
 show (cntR P (fun _=>none):Int)<=room
 rw[this]
 omega
theorem popen_new {W0 W:World}{d f l many P:Nat}{fr pg room:Int}(h:FhIs W0 d f l many fr pg ⟨laid (fun _=>zer64) (wrL 1 (hEnc 1 1 0 0) 1),[],0,false⟩ ⟨1,1,0,[]⟩ W)(hpl:planOk fr pg=true)(hm:(many:Int)=2+9*fr+8*pg)(hmax:many<=40000)(hP:(P:Int)=pg)(hP2:P<=200) :
  Calls Tryz.prog 9 #[.pointer (some ⟨f,0,none⟩),.int .i64 room] W (OpOut W0 d f l many P fr pg room W):=by
 have hpr:=(planOk_iff fr pg).1 hpl
 have hz:∃k,¬ (laid (fun _=>zer64) (wrL 1 (hEnc 1 1 0 0) 1)) k=zer64:=(StP.begun (fr:=fr) (pg:=pg) (by omega) (by omega)).nz
 have hup:=h.up.size
 have HN:=cnew_out (P:=P) (room:=room) h hz (fun x hx=>absurd hx (by simp))
 by_cases hr:2<=room/\room<=2000
 ·have HNEW:Calls Tryz.prog 32 #[.pointer (some ⟨f,0,none⟩),.int .i64 room] W fun e w'=>∃a r,e = .returned (.tuple #[.pointer (some ⟨a,0,none⟩),.int .i64 0])/\CsIs W0 d f l a r many P fr pg room ⟨laid (fun _=>zer64) (wrL 1 (hEnc 1 1 0 0) 1),[],0,false⟩ ⟨1,1,0,[]⟩ ⟨0,0,0,fun _=>none⟩ w'/\Below W.heap.size W w':=HN.mono fun e w' hn=>by
   rcases hn with⟨_,a,r,he,hC,_,hB⟩|⟨hn,_⟩
   ·exact⟨a,r,he,hC,hB⟩
   ·exact absurd hr hn
  clear HN h
  go_enter Tryz.func9,Tryz.ntmps9
  go_wp2_with fail
  refine wp_scope_jumps (rest:=?rest) 0 (fun _ _=>False) (fun _ _=>0) ?hf ?first ?pass
  case hf=>exact rfl
  case pass=>exact fun _ _ hx=>hx.elim
  case first =>
   go_wp2_with (go_at_call 32;refine HNEW.mono ?_;rintro e w1 ⟨a,r,rfl,hC1,hB1⟩)
   have hA1:=begunA hpl hm hmax hP hP2 hr hC1
   obtain⟨K,hKe⟩:∃K:PgK,K=⟨d,f,l,a,r,many,P,fr,pg,room⟩:=⟨_,rfl⟩
   have hK:K.Ok:=by rw[hKe];exact⟨hpl,hm,zP hmax (by decide),hP,hP2,hr⟩
   obtain⟨v0,hv0⟩:∃v0:PgV,v0=⟨laid (fun _=>zer64) (wrL 1 (hEnc 1 1 0 0) 1),⟨1,1,0,[]⟩,⟨0,0,0,fun _=>none⟩,0,0⟩:=⟨_,rfl⟩
   rw[<-hKe,<-hv0] at hA1
   have hKa:K.a=a:=by rw[hKe]
   have hKf:K.f=f:=by rw[hKe]
   have hKP:K.P=P:=by rw[hKe]
   have hKr:K.room=room:=by rw[hKe]
   have hKfr:K.fr=fr:=by rw[hKe]
   have hKpg:K.pg=pg:=by rw[hKe]
   have hvN:v0.N=0/\v0.i=0/\v0.S.sz=0:=by rw[hv0];exact⟨rfl,rfl,rfl⟩
   have hvD:v0.D=fun _=>none:=by rw[hv0];rfl
   subst hKa
   have HKE:=Lib.hid hKe
   clear hKe
   obtain⟨p,hp⟩:∃p,p=w1.heap.size:=⟨_,rfl⟩
   obtain⟨w2,hw2⟩:∃w2,w2=w1.alloc (.cells #[.int .i64 0,.int .i64 0,.int .i64 0,.int .i64 0,.int .i64 0,.int .i64 0,.int .i64 0,.int .i64 0,.int .i64 0,.int .i64 0,.int .i64 0,.int .i64 0,.int .i64 0,.int .i64 0,.int .i64 0,.int .i64 0,.int .i64 0,.int .i64 0,.int .i64 0,.pointer (some ⟨K.a,0,none⟩),.int .i64 0,.int .i64 0,.int .i64 0,.int .i64 0,.int .i64 0,.int .i64 0,.int .i64 0,.int .i64 0,.int .i64 0,.int .i64 0,.int .i64 0,.int .i64 0,.int .i64 0,.int .i64 0,.int .i64 0,.int .i64 0,.int .i64 0,.int .i64 0,.int .i64 0,.bool false,.slice none 0 0] 55):=⟨_,rfl⟩
   have hp2:PaIs W0 K p v0 st00 st00 false (.slice none 0 0) w2:=by
    rw[hw2,hp]
    refine⟨hA1.grow ((Below.refl _ _).alloc (zG _) _),?_,zP hup hB1.size,rfl,rfl⟩
    exact BlkIs.new w1 _ _
   rw[<-hw2,<-hp]
   have hB2:Below W.heap.size W w2:=by rw[hw2];exact hB1.alloc hB1.size _
   have HSZ:=fsize_gives hp2.ca.cs.fh.fb hp2.ca.cs.fh.lg
   rw[hKf,hvN.2.2] at HSZ
   clear hA1 hC1 hw2 hp hv0 HNEW hB1
   have c0:w2.cell? ⟨p,0,none⟩=some (.int .i64 0):=hp2.szc
   have f0:=hp2.pb.free 0
   have hp3:=(hp2.setSize 0).1
   have hp4:PaIs W0 K p v0 st01 st00 false (.slice none 0 0) ((w2.setCell ⟨p,0,none⟩ (.int .i64 0)).setCell ⟨p,0,none⟩ (.int .i64 1)):=(hp3.setSize 1).1
   have c3:(w2.setCell ⟨p,0,none⟩ (.int .i64 0)).cell? ⟨p,0,none⟩=some (.int .i64 0):=hp3.szc
   have f3:=hp3.pb.free 0
   have hR4:=hp4.stRange
   have hsl:(psC st01).length=19:=rfl
   clear hp2 hp3
   refine HSZ.mono ?_
   rintro e w' ⟨rfl,rfl⟩
   go_wp2_with (refine wp_exec rfl (x_loadM rowPgSt hR4 hsl rfl rfl) ?_)
   generalize (w2.setCell ⟨p,0,none⟩ (.int .i64 0)).setCell ⟨p,0,none⟩ (.int .i64 1)=w4 at *
   clear hB2 c3 f3 c0 f0 HSZ
   have hsx:(headPB st01).length=512:=headPB_length rfl
   have hK0:=hK.hP
   have hrm:=hK.rm
   refine(phead_gives w4 st01 rfl).mono ?_
   rintro e w5 ⟨A5,c5,rfl,hin5,hB5⟩
   have hp5:=hp4.grow hB5
   go_wp2_with fail
   refine(gwrite hp5.ca hK (by omega) 0 A5 c5 (headPB st01) hsx hin5).mono ?_
   rintro e w6 ⟨x,v6,rfl,hC6,e1,e2,e3,e4,hq,hn6,hG6⟩
   have hx:x=0/\v6.D=fun j=>if j=0 then some (headPB st01) else v0.D j:=by
    rcases hq with h1|h1
    ·exact⟨h1.1,h1.2.2⟩
    ·exfalso
     rcases h1.1 with h2|h2
     ·omega
     ·have:=hp5.ca.tight h2.2 [] (fun p b e=>by rw[hvD] at e;cases e)
      simp at this
      omega
   obtain⟨rfl,hD6⟩:=hx
   have hp6:=hp5.turn hG6 hC6
   have cz6:w6.cell? ⟨p,0,none⟩=some (.int .i64 1):=hp6.szc
   clear hp4 hp5 hB5 hin5 hR4 hC6 hq hn6 hG6
   go_wp2_with fail
   refine(gcommit hp6.ca hK (by omega) (by omega) 1).mono ?_
   rintro e w8 ⟨x,v8,rfl,hC8,g1,g2,hq8,hwhy,hn8,hG8⟩
   have hpos:0<cntD K.P v6.D:=cntD_pos (p:=0) (by omega) (by rw[hD6];rfl)
   have hle:cntD K.P v6.D<=1:=cntD_le [0] (fun q hq=>by
    rw[hD6] at hq
    replace hq:(if (q:Int)=0 then some (headPB st01) else v0.D (q:Int)).isSome=true:=hq
    by_cases e:(q:Int)=0
    ·have:q=0:=by omega
     simp[this]
    ·rw[if_neg e,hvD] at hq
     cases hq)
   have hx8:x=0:=by
    rcases hwhy.dirty hK hpos ⟨by omega,by omega⟩ with h1|h1
    ·exact h1.2
    ·omega
   subst hx8
   have hp8:=hp6.turn hG8 hC8
   have hv8:v8.S.sz=1/\v8.Y K 0=headPB st01/\v8.D=fun _=>none:=by
    rcases hq8 with⟨_,q2,q3,q4⟩|⟨q1,_⟩
    ·refine⟨q2,?_,q4⟩
     rw[q3 0 (by omega),PgV.view_eq,hD6]
     rfl
    ·exact absurd rfl q1
   have hR8:=hp8.stRange
   have hT8:w8.there p 20 (psC st01).toArray.size:=blk_there hp8.pb (by rw[pgC_size' hp8.hs hp8.hl];simp[hsl])
   obtain⟨hp9,_⟩:=hp8.setLast (last':=st01) rfl
   have hvN8:v8.N<=3/\v8.i<=2:=by omega
   have HP9:=Lib.hid hp9
   clear hp6 hp8 hp9 hC8 hq8 hwhy hn8 hG8 hD6 cz6 hpos hle
   go_wp2_with (first
    | (refine wp_exec rfl (x_loadM rowPgSt hR8 hsl rfl rfl) ?_)
    | (refine wpList_store_mid rfl 51 _ _ rfl p 20 (psC st01).toArray rfl rfl hT8 (by simpa[hsl] using rowPgSt.size) (all_oneCell_toArray (psC_one _)) ?_))
   simp only[Exit.jump]
   exact bodyPost_ret (results_tmp2 rfl _ _ _) rfl (OpOut.good ⟨hr,p,K.a,r,v8,rfl,by rw[<-HKE.out];exact HP9.out,hvN8.1,hvN8.2,hv8.1,hv8.2.2,by rw[<-HKE.out];exact hv8.2.1⟩)
 ·have HNEW:Calls Tryz.prog 32 #[.pointer (some ⟨f,0,none⟩),.int .i64 room] W fun e w'=>e = .returned (.tuple #[.pointer none,.int .i64 2])/\W=w':=HN.mono fun e w' hn=>by
   rcases hn with⟨h1,_⟩|⟨_,he,hw⟩
   ·exact absurd h1 hr
   ·exact⟨he,hw⟩
  clear HN h
  go_enter Tryz.func9,Tryz.ntmps9
  go_wp2_with fail
  refine wp_scope_jumps (rest:=?rest) 0 (fun a w'=>a = { tmps:=#[.pointer (some ⟨f,0,none⟩),.int .i64 room,undef,undef,.pointer none,.int .i64 0,.pointer none,.int .i64 2,.pointer (some ⟨W.heap.size,0,none⟩),.slice none 0 0,undef,.tuple #[.pointer none,.int .i64 2],.pointer (some ⟨f,0,none⟩),.int .i64 room,.tuple #[.pointer none,.int .i64 2],.pointer none,.int .i64 2,.pointer none,.agg #[.int .i64 0,.int .i64 0,.int .i64 0,.int .i64 0,.int .i64 0,.int .i64 0,.int .i64 0,.int .i64 0,.int .i64 0,.int .i64 0,.int .i64 0,.int .i64 0,.int .i64 0,.int .i64 0,.int .i64 0,.int .i64 0,.int .i64 0,.int .i64 0,.int .i64 0,.pointer none,.int .i64 0,.int .i64 0,.int .i64 0,.int .i64 0,.int .i64 0,.int .i64 0,.int .i64 0,.int .i64 0,.int .i64 0,.int .i64 0,.int .i64 0,.int .i64 0,.int .i64 0,.int .i64 0,.int .i64 0,.int .i64 0,.int .i64 0,.int .i64 0,.int .i64 0,.bool false,.slice none 0 0],.pointer (some ⟨W.heap.size,0,none⟩),.int .i64 2,.bool true,undef,undef,undef,undef,undef,undef,undef,undef,undef,undef,undef,undef,undef,undef,undef,undef,undef,undef,undef,undef,undef,undef,undef,undef,undef,undef,undef,undef,undef,undef,undef,undef,undef,undef,undef,undef,undef,undef,undef,undef,undef,undef,undef,undef,undef,undef,undef,undef,undef,undef,undef,undef,undef,undef,undef,undef,undef,undef,undef,undef,undef,undef,undef,undef,undef,undef,undef,undef,undef,undef,undef,undef,undef,undef,undef,undef,undef,undef,undef,undef,undef,undef,undef,undef,undef,undef,undef,undef,undef,undef,undef,undef,undef,undef,undef,undef,undef,undef,undef,undef,undef],defers:=[] }/\Below W.heap.size W w') (fun _ _=>0) ?hf ?first ?pass
  case hf=>exact rfl
  case pass =>
   rintro a w' ⟨rfl,hB⟩
   go_wp2
   simp only[Exit.jump]
   exact bodyPost_ret (results_tmp2 rfl _ _ _) rfl (.inr ⟨hr,rfl,hB⟩)
  case first =>
   go_wp2_with (go_at_call 32;refine HNEW.mono ?_;rintro e w1 ⟨rfl,rfl⟩)
   go_step3
   exact⟨rfl,rfl,(Below.refl _ _).alloc (zG _) _⟩
section
variable {W0 W:World}{K:PgK}{p:Nat}{v:PgV}{st last:PgSt}{mk:Value}
theorem psetroot_gives (h:PaIs W0 K p v st last true mk W)(n:Int)(hn:0<=n/\n<st.size) :
  Calls Tryz.prog 29 #[.pointer (some ⟨p,0,none⟩),.int .i64 0,.int .i64 n] W fun e w'=>e = .returned (.int .i64 0)/\PaIs W0 K p v { st with roots:=st.roots.set 0 n } last true mk w'/\GrowBut (fun k=>k=p) W w':=by
 obtain⟨W1,hW1⟩:∃W1,W1=W.alloc (.cells #[.int .i64 0] 3):=⟨_,rfl⟩
 have hB1:Below W.heap.size W W1:=by rw[hW1];exact(Below.refl _ _).alloc (zG _) _
 have b1:BlkIs W1 W.heap.size 3 #[.int .i64 0]:=by rw[hW1];exact BlkIs.new W _ _
 have hd:decide (n<0∨st.size<=n)=false:=decide_eq_false (by omega)
 have HW1:=Lib.hid hW1.symm
 clear hW1
 go_enter Tryz.func29,Tryz.ntmps29
 go_wp2_with (go_at_call 53;rw[HW1.out];refine(pthere_gives W1 (some ⟨p,0,none⟩) n 0).mono ?_;rintro e w2 ⟨f,rfl,hf1,hB2,hA2⟩)
 have h2:=(h.grow hB1).grow hB2
 have b2:=b1.below hB2 b1.lt
 obtain⟨xs,hxs⟩:∃xs:List PAsk,xs=[⟨.func (.func 56) #[] #[.pointer (some ⟨W.heap.size,0,none⟩)],2,false⟩,⟨f,4,false⟩]:=⟨_,rfl⟩
 have hone:∀v∈pasksC xs,v.oneCell'=true:=fun v hv=>by
  rw[hxs] at hv
  simp only[pasksC,paskC,zK,zL,List.flatten_cons,List.flatten_nil,zW,zQ,List.mem_cons,List.not_mem_nil,or_false] at hv
  rcases hv with rfl|rfl|rfl|rfl
  ·rfl
  ·rfl
  ·exact hf1
  ·rfl
 obtain⟨W3,hW3⟩:∃W3,W3=w2.alloc (.cells #[.func (.func 56) #[] #[.pointer (some ⟨W.heap.size,0,none⟩)],.int .i64 2,f,.int .i64 4] 92):=⟨_,rfl⟩
 have hB3:Below w2.heap.size w2 W3:=by rw[hW3];exact(Below.refl _ _).alloc (zG _) _
 have hin3:InG W3 W3.heap.size 2 (some ⟨w2.heap.size,0,none⟩) xs.length xs.length (pasksC xs):=by
  have:=pasks_new w2 xs hone 92 (by rw[hxs];simp)
  rw[hW3]
  subst hxs
  exact this
 have h3:=h2.grow hB3
 have b3:=b2.below hB3 b2.lt
 have ha:∀x∈xs,PAskIs W3 x:=fun x hx=>by
  rw[hxs] at hx
  simp only[List.mem_cons,List.not_mem_nil,or_false] at hx
  rcases hx with rfl|rfl
  ·refine PAskIs.one 2 ⟨enters_of Tryz.func56 (by kernel_rfl) rfl,fun W4 hW4 => ?_⟩
   refine(psetroot1_ask (bi:=W.heap.size) (i:=0) ((b3.below hW4 b3.lt).boxed)).mono ?_
   rintro e w' ⟨rfl,rfl⟩
   exact⟨rfl,Below.refl _ _⟩
  ·have:=hA2 p st.size rfl (h.grow hB1).szc
   rw[hd] at this
   exact PAskIs.later this hB3
 have HA:=h3.asked true (some ⟨w2.heap.size,0,none⟩) xs.length xs hin3 (by rw[hxs];simp) ha
 have hE:(if (true != true)=true then 191 else askE xs)=0:=by rw[hxs];rfl
 have hxl:xs.length=2:=by rw[hxs];rfl
 rw[hE,hxl] at HA
 rw[<-hW3]
 refine HA.mono ?_
 rintro e w4 ⟨rfl,hB4⟩
 have b4:=b3.below hB4 b3.lt
 have hBB:Below W.heap.size W w4:=((hB1.trans (hB2.mono hB1.size)).trans (hB3.mono (by have:=hB1.size;have:=hB2.size;omega))).trans (hB4.mono (by have:=hB1.size;have:=hB2.size;have:=hB3.size;omega))
 have hBD:Below W.heap.size W w4.drew:=hBB.trans ((Below.refl _ _).drew.mono hBB.size)
 have h4d:PaIs W0 K p v st last true mk w4.drew:=h.grow hBD
 have hS0:w4.drew.cell? ⟨W.heap.size,0,none⟩=some (.int .i64 0):=b4.boxed
 clear ha hin3 HA hE hxl hA2 hone h2 h3 b2 b3 hB3 hW3 hxs b1 b4 hBB hB4
 go_wp2_with fail
 refine RegF.start (fun W':World=>W'.cell? ⟨W.heap.size,0,none⟩=some (.int .i64 0)) 99 (by kernel_rfl) ?_
 refine RegF.t0 0 (.pointer (some ⟨p,0,none⟩)) rfl hS0 (fun W hW=>by obtain e0:=hW;go_simp) ?_
 simp only[zD,zB,Act.put,zA,zF,zE]
 refine RegF.t0 1 (.int .i64 0) rfl hS0 (fun W hW=>by obtain e0:=hW;go_simp) ?_
 simp only[zD,zC,zB,Act.put,zA,zF,zE]
 refine RegF.t0 2 (.int .i64 n) rfl hS0 (fun W hW=>by obtain e0:=hW;go_simp) ?_
 simp only[zD,zC,zB,Act.put,zA,zF,zE]
 refine RegF.t0 3 (.pointer (some ⟨p,0,none⟩)) rfl hS0 (fun W hW=>by obtain e0:=hW;go_simp) ?_
 simp only[zD,zC,zB,Act.put,zA,zF,zE]
 refine RegF.t0 4 (.pointer (some ⟨p,0,none⟩)) rfl hS0 (fun W hW=>by obtain e0:=hW;go_simp) ?_
 simp only[zD,zC,zB,Act.put,zA,zF,zE]
 refine RegF.t0 5 (.pointer (some ⟨p,3,none⟩)) rfl hS0 (fun W hW=>by obtain e0:=hW;go_simp) ?_
 simp only[zD,zC,zB,Act.put,zA,zF,zE]
 refine RegF.t0 6 (.pointer (some ⟨p,3,none⟩)) rfl hS0 (fun W hW=>by obtain e0:=hW;go_simp) ?_
 simp only[zD,zC,zB,Act.put,zA,zF,zE]
 have hl19:3<(psC st).length:=by rw[psC_length h.hs];decide
 have c3:w4.drew.cell? ⟨p,3,none⟩=some (psC st)[3]:=by have:=h4d.stRange 3 _ (zI hl19);simpa using this
 generalize (psC st)[3]=z3 at c3
 have f3:=h4d.pb.free 3
 obtain⟨h5,hG5⟩:=h4d.setRoot (i:=0) (by decide) n
 have hS7:(w4.drew.setCell ⟨p,3,none⟩ (.int .i64 n)).cell? ⟨W.heap.size,0,none⟩=some (.int .i64 0):=hG5.cell hS0 (cell_lt hS0) (fun e=>by have:=h.pb.lt;have e:W.heap.size=p:=e;omega)
 refine RegF.one 7 (by kernel_rfl) (RegF.opS (w':=w4.drew.setCell ⟨p,3,none⟩ (.int .i64 n)) rfl rfl (by go_simp) ⟨fun _=>hS7,RegF.done (by kernel_rfl) ?_⟩)
 simp only[zD,zC,zB,Act.put]
 clear hS7 hS0 h4d c3 f3
 go_wp2
 go_ret
 exact⟨rfl,h5,(GrowBut.below hBD).trans hG5⟩
end
theorem num9_gives (e:Int)(w:World):Calls Tryz.prog 10 #[.int .i64 e] w fun x w'=>x = .returned (.int .i64 e)/\w=w':=by
 go_enter Tryz.func10,Tryz.ntmps10
 go_wp2
 go_ret
 exact⟨rfl,rfl⟩
def Sup (D:Int->Option (List UInt8))(l:List Nat):Prop:=∀p b,D p=some b->p.toNat∈l
theorem Sup.none:Sup (fun _=>Option.none) []:=fun p b e=>by cases e
theorem Sup.put {D:Int->Option (List UInt8)}{l:List Nat}(h:Sup D l)(n:Int)(y:List UInt8):Sup (fun j=>if j=n then some y else D j) (n.toNat::l):=fun p b e=>by
 replace e:(if p=n then some y else D p)=some b:=e
 by_cases hp:p=n
 ·rw[hp];simp
 ·rw[if_neg hp] at e
  exact List.mem_cons_of_mem _ (h p b e)
theorem Sup.putIn {D:Int->Option (List UInt8)}{l:List Nat}(h:Sup D l){n:Int}(hn:n.toNat∈l)(y:List UInt8):Sup (fun j=>if j=n then some y else D j) l:=fun p b e=>by
 replace e:(if p=n then some y else D p)=some b:=e
 by_cases hp:p=n
 ·rw[hp];exact hn
 ·rw[if_neg hp] at e
  exact h p b e
theorem Sup.loose {K:PgK}{D:Int->Option (List UInt8)}{l:List Nat}(h:Sup D l)(hr:(l.length:Int)<K.room):¬ Tight K D:=fun ht=>by
 have:=ht l h
 omega
theorem cntD_all {P:Nat}{D:Int->Option (List UInt8)}(h:∀p:Nat,p<P->(D (p:Int)).isSome=true):cntD P D=P:=by
 unfold cntD
 rw[List.filter_eq_self.2 (fun x hx=>h x (List.mem_range.1 hx)),List.length_range]
section
variable {K:PgK}{v v':PgV}{st st':PgSt}{n x:Int}
theorem MkF.new (h:MkF K v v' st st' n x)(hf:st.first=0)(hs:st.size<K.pg)(ht:¬ Tight K v.D):x=0/\n=st.size/\st' = { st with size:=st.size+1 }/\v'.D=fun j=>if j=st.size then some zeroB else v.D j:=by
 rcases h.dd with⟨h1,_,h3,_,h5,h6⟩|⟨_,h2,_⟩|⟨_,_,_,_,h5⟩
 ·exact⟨h1,h3,h5,by rw[h6,h3]⟩
 ·exact absurd hf h2
 ·rcases h5 with⟨_,h6,_⟩|h6|⟨h6,_⟩
  ·omega
  ·exact absurd h6 ht
  ·exact absurd hf h6
theorem MkF.full (h:MkF K v v' st st' n x)(hf:st.first=0)(hs:¬ st.size<K.pg)(ht:¬ Tight K v.D):x=160/\n=0/\st'=st/\v'.D=v.D:=by
 rcases h.dd with⟨_,_,_,h4,_⟩|⟨_,h2,_⟩|⟨_,h2,h3,h4,h5⟩
 ·exact absurd h4 hs
 ·exact absurd hf h2
 ·rcases h5 with⟨_,_,h7⟩|h6|⟨h6,_⟩
  ·exact⟨h7,h2,h3,h4⟩
  ·exact absurd h6 ht
  ·exact absurd hf h6
theorem MkF.old (h:MkF K v v' st st' n x)(hf:st.first≠0){f:Int}(hv:v.view K st.first.toNat=linkB f)(hf2:0<=f/\f<st.size)(hs:st.size<=1000)(hm:1<=st.many)(ht:¬ Tight K v.D):x=0/\n=st.first/\st' = { st with first:=f,many:=st.many - 1 }/\v'.D=fun j=>if j=st.first then some zeroB else v.D j:=by
 have hx:=linkB_next (f:=f) ⟨hf2.1,by omega⟩
 rcases h.dd with⟨_,h2,_⟩|⟨h1,_,h3,h4,h5⟩|⟨_,_,_,_,h5⟩
 ·exact absurd h2 hf
 ·rw[hv,hx] at h4
  exact⟨h1,h3,h4,by rw[h5,h3]⟩
 ·rcases h5 with⟨h6,_⟩|h6|⟨_,h6⟩
  ·exact absurd h6 hf
  ·exact absurd h6 ht
  ·rw[hv,hx] at h6
   omega
end
def stW (n:Int):PgSt:=⟨n,0,0,zR 16 0⟩
def stR:PgSt:=⟨4,0,0,1::zR 15 0⟩
theorem head_ne:headPB st01≠headPB stR:=by decide +kernel
theorem works9_gives (w:World):Calls Tryz.prog 5 #[] w fun e w'=>e = .returned (.bool true)/\Below w.heap.size w w':=by
 have hpl:planOk 3 4=true:=by decide
 go_enter Tryz.func5,Tryz.ntmps5
 go_wp2_with fail
 refine(new_gives w 61 (by decide) (by decide)).mono ?_
 rintro e w1 ⟨d,rfl,hd1,hD1,hB1⟩
 go_wp2_with fail
 refine(fopen_new2 w1 d 61 3 4 hB1 hd1 hD1 hpl (by decide) (by decide)).mono ?_
 rintro e w2 ⟨f,l,rfl,hF2,hf2,hl2⟩
 go_wp2_with fail
 refine(popen_new (P:=4) (room:=4) hF2 hpl (by decide) (by decide) rfl (by decide)).mono ?_
 rintro e w3 (⟨_,p,a,r,v0,rfl,hp3,n0,i0,s0,d0,y0⟩|⟨h,_⟩)
 rotate_left
 ·exact absurd (by decide) h
 obtain⟨K,hKe⟩:∃K:PgK,K=⟨d,f,l,a,r,61,4,3,4,4⟩:=⟨_,rfl⟩
 rw[<-hKe] at hp3 y0
 have hK:K.Ok:=by rw[hKe];exact⟨hpl,rfl,by show 61<=100000;decide,rfl,by show 4<=200;decide,by show (2:Int)<=4/\(4:Int)<=2000;decide⟩
 have hKP:K.P=4:=by rw[hKe]
 have hKr:K.room=4:=by rw[hKe]
 have hKg:K.pg=4:=by rw[hKe]
 have hKf:K.fr=3:=by rw[hKe]
 have S0:Sup v0.D []:=by rw[d0];exact Sup.none
 clear hKe hF2 hD1 hB1
 -- Begin
 go_wp2_with fail
 refine(pbegin_gives hp3).mono ?_
 rintro e w4 ⟨rfl,hp4,_⟩
 clear hp3
 -- Make: page 1
 go_wp2_with fail
 refine(pmake_gives hp4 hK (by omega) ⟨by decide,by rw[hKP];decide⟩ ⟨by decide,by rw[hKP];decide⟩ ⟨by decide,by decide⟩).mono ?_
 rintro e w5 ⟨n1,x1,v1,st1,rfl,hp5,hM1,_,_⟩
 obtain⟨rfl,rfl,rfl,d1⟩:=hM1.new rfl (by rw[hKg];decide) (S0.loose (by rw[hKr];decide))
 have S1:Sup v1.D [1]:=by rw[d1];exact S0.put _ _
 have m1:=hM1.nn
 have j1:=hM1.ii
 have y1:=hM1.yy
 have s1:=hM1.sz
 replace hp5:PaIs w K p v1 (stW 2) st01 true (.slice none 0 0) w5:=hp5
 clear hp4 hM1
 rw[show st01.size=1 from rfl]
 replace d1:v1.D=fun j=>if j=1 then some zeroB else v0.D j:=d1
 -- Make: page 2
 go_wp2_with fail
 refine(pmake_gives hp5 hK (by omega) ⟨by decide,by rw[hKP];decide⟩ ⟨by decide,by rw[hKP];decide⟩ ⟨by decide,by decide⟩).mono ?_
 rintro e w6 ⟨n2,x2,v2,st2,rfl,hp6,hM2,_,_⟩
 obtain⟨rfl,rfl,rfl,d2⟩:=hM2.new rfl (by rw[hKg];decide) (S1.loose (by rw[hKr];decide))
 have S2:Sup v2.D [2,1]:=by rw[d2];exact S1.put _ _
 have m2:=hM2.nn
 have j2:=hM2.ii
 have y2:=hM2.yy
 have s2:=hM2.sz
 replace hp6:PaIs w K p v2 (stW 3) st01 true (.slice none 0 0) w6:=hp6
 rw[show (stW 2).size=2 from rfl]
 replace d2:v2.D=fun j=>if j=2 then some zeroB else v1.D j:=d2
 clear hp5 hM2
 -- Free: page 1
 go_wp2_with fail
 refine(pfree_gives hp6 hK (by omega) 1 ⟨by decide,by decide⟩ (by rw[hKP];decide) ⟨by decide,by decide⟩).mono ?_
 rintro e w7 ⟨x3,v3,rfl,hp7,hF3,_,_⟩
 have hx3:x3=0/\v3.D=fun j=>if j=1 then some (linkB 0) else v2.D j:=by
  rcases hF3.dd with h1|⟨_,h2,_⟩
  ·exact h1
  ·exact absurd (hp6.ca.tight h2) (S2.loose (by rw[hKr];decide))
 obtain⟨rfl,d3⟩:=hx3
 have S3:Sup v3.D [2,1]:=by rw[d3];exact S2.putIn (by decide) _
 have m3:=hF3.nn
 have j3:=hF3.ii
 have y3:=hF3.yy
 have s3:=hF3.sz
 replace hp7:PaIs w K p v3 ⟨3,1,1,zR 16 0⟩ st01 true (.slice none 0 0) w7:=hp7
 clear hp6 hF3
 -- Make: page 1, that is free
 go_wp2_with fail
 refine(pmake_gives hp7 hK (by omega) ⟨by decide,by rw[hKP];decide⟩ ⟨by decide,by rw[hKP];decide⟩ ⟨by decide,by decide⟩).mono ?_
 rintro e w8 ⟨n4,x4,v4,st4,rfl,hp8,hM4,_,_⟩
 have hv3:v3.view K 1=linkB 0:=by rw[PgV.view_eq,d3];rfl
 obtain⟨rfl,rfl,rfl,d4⟩:=hM4.old (by decide) hv3 ⟨by decide,by decide⟩ (by decide) (by decide) (S3.loose (by rw[hKr];decide))
 have S4:Sup v4.D [2,1]:=by rw[d4];exact S3.putIn (by decide) _
 have m4:=hM4.nn
 have j4:=hM4.ii
 have y4:=hM4.yy
 have s4:=hM4.sz
 replace hp8:PaIs w K p v4 (stW 3) st01 true (.slice none 0 0) w8:=hp8
 replace d4:v4.D=fun j=>if j=1 then some zeroB else v3.D j:=d4
 clear hp7 hM4 hv3
 -- Make: page 3
 go_wp2_with fail
 refine(pmake_gives hp8 hK (by omega) ⟨by decide,by rw[hKP];decide⟩ ⟨by decide,by rw[hKP];decide⟩ ⟨by decide,by decide⟩).mono ?_
 rintro e w9 ⟨n5,x5,v5,st5,rfl,hp9,hM5,_,_⟩
 obtain⟨rfl,rfl,rfl,d5⟩:=hM5.new rfl (by rw[hKg];decide) (S4.loose (by rw[hKr];decide))
 have S5:Sup v5.D [3,2,1]:=by rw[d5];exact S4.put _ _
 have m5:=hM5.nn
 have j5:=hM5.ii
 have y5:=hM5.yy
 have s5:=hM5.sz
 replace hp9:PaIs w K p v5 (stW 4) st01 true (.slice none 0 0) w9:=hp9
 rw[show (stW 3).size=3 from rfl]
 replace d5:v5.D=fun j=>if j=3 then some zeroB else v4.D j:=d5
 clear hp8 hM5
 -- Make: no more
 go_wp2_with fail
 refine(pmake_gives hp9 hK (by omega) ⟨by decide,by rw[hKP];decide⟩ ⟨by decide,by rw[hKP];decide⟩ ⟨by decide,by decide⟩).mono ?_
 rintro e w10 ⟨n6,x6,v6,st6,rfl,hp10,hM6,_,_⟩
 obtain⟨rfl,rfl,rfl,d6⟩:=hM6.full rfl (by rw[hKg];decide) (S5.loose (by rw[hKr];decide))
 have m6:=hM6.nn
 have j6:=hM6.ii
 have y6:=hM6.yy
 have s6:=hM6.sz
 clear hp9 hM6
 -- Size, SetRoot
 go_wp2_with fail
 refine(psize_gives hp10).mono ?_
 rintro e w' ⟨rfl,rfl⟩
 rw[show (stW 4).size=4 from rfl]
 go_wp2_with fail
 refine(psetroot_gives hp10 1 ⟨by decide,by decide⟩).mono ?_
 rintro e w11 ⟨rfl,hp11,_⟩
 replace hp11:PaIs w K p v6 stR st01 true (.slice none 0 0) w11:=hp11
 clear hp10
 -- Commit: 160
 go_wp2_with fail
 refine(pcommit_gives hp11 hK (by omega) (by omega) (by rw[hKP];decide)).mono ?_
 rintro e w12 ⟨x7,v7,last',under',mk',rfl,hp12,hC7,hq7,_,_⟩
 have hD6:∀q:Nat,1<=q->q<4->(v6.D (q:Int)).isSome=true:=fun q h1 h2=>by
  rw[d6,d5,d4,d3,d2,d1]
  rcases(show q=1∨q=2∨q=3 by omega) with rfl|rfl|rfl<;>rfl
 have hv0:v6.view K 0=headPB st01:=by
  rw[PgV.view_eq]
  have e0:v6.D ((0:Nat):Int)=none:=by
   rw[d6,d5,d4,d3,d2,d1,d0]
   rfl
  rw[e0,y6,y5,y4,y3,y2,y1]
  exact y0
 have hx7:x7=160:=by
  rcases hC7.why (fun e=>absurd (congrArg PgSt.size e) (by decide)) with h1|⟨u,h1,_,_,h4,h5,h6⟩
  ·exact h1
  ·have hu:=h4 (by rw[hv0];exact head_ne)
   have hc:cntD K.P u.D=4:=by
    rw[hKP]
    refine cntD_all fun q hq => ?_
    rw[hu]
    show (if (q:Int)=0 then some (headPB stR) else v6.D (q:Int)).isSome=true
    by_cases e:(q:Int)=0
    ·rw[if_pos e];rfl
    ·rw[if_neg e];exact hD6 q (by omega) hq
   rcases h6.dirty hK (by rw[hc];decide) ⟨by decide,by rw[hKg];decide⟩ with h7|h7
   ·have:=h7.1
    rw[hc,hKf] at this
    exact absurd this (by decide)
   ·exact h7.2
 subst hx7
 obtain⟨rfl,rfl,rfl⟩:last'=st01/\under'=true/\mk' = .slice none 0 0:=by
  rcases hq7 with⟨h1,_⟩|⟨_,h2⟩
  ·exact absurd h1 (by decide)
  ·exact h2
 clear hp11 hC7 hq7 hD6 hv0
 have HR:=prollback_gives hp12
 go_wp2_with (first
  | (go_at_call 10;refine(num9_gives _ _).mono ?_;rintro e w' ⟨rfl,rfl⟩)
  | (go_at_call 18;refine HR.mono ?_;rintro e w13 ⟨v8,rfl,hp13,_,_,_,_,_,_,_⟩;have HS:=psize_gives hp13)
  | (revert HS;intro HS;go_at_call 20;refine HS.mono ?_;rintro e w' ⟨rfl,rfl⟩))
 go_ret
 exact⟨rfl,hp13.ca.cs.fh.up⟩
def NoneP (w:World)(P:Option Addr):Prop:=P=none∨∃p,P=some ⟨p,0,none⟩/\w.cell? ⟨p,19,none⟩=some (.pointer none)
theorem NoneP.ans {w:World}{P:Option Addr}(h:NoneP w P):AnsF w 46 #[.pointer P] true:=by
 rcases h with rfl|⟨p,rfl,hc⟩
 ·exact ansNil w
 ·exact ansEmpty hc (cell_lt hc)
theorem NoneP.grow {w w':World}{P:Option Addr}(h:NoneP w P)(hB:Below w.heap.size w w'):NoneP w' P:=by
 rcases h with rfl|⟨p,rfl,hc⟩
 ·exact .inl rfl
 ·exact .inr ⟨p,rfl,(hB.cell (p:=⟨p,19,none⟩) (cell_lt hc)).trans hc⟩
theorem NoneP.none {w:World}{P:Option Addr}(h:NoneP w P):Calls Tryz.prog 46 #[.pointer P] w fun e w'=>e = .returned (.bool true)/\Below w.heap.size w w':=h.ans.2 w (Below.refl _ _)
theorem NoneP.asked {w:World}{P:Option Addr}(h:NoneP w P)(u:Bool)(A:Option Addr)(c:Nat)(xs:List PAsk)(hin:InG w w.heap.size 2 A xs.length c (pasksC xs))(hl:xs.length<=900) :
  Calls Tryz.prog 41 #[.pointer P,.bool u,.slice A xs.length c] w fun e w'=>e = .returned (.int .i64 1)/\Below w.heap.size w w' :=
 (pasked_gives w P true false u h.ans (fun h=>by cases h) A c xs hin hl (fun h=>by cases h)).mono fun e w' h=>⟨by rw[h.1];rfl,h.2⟩
theorem NoneP.asked0 {w:World}{P:Option Addr}(h:NoneP w P)(u:Bool) :
  Calls Tryz.prog 41 #[.pointer P,.bool u,.slice .none 0 0] w fun e w'=>e = .returned (.int .i64 1)/\Below w.heap.size w w':=h.asked u .none 0 [] (inG_none _ _ _) (by simp)
section
variable {w:World}{P:Option Addr}
theorem nmark_gives (h:NoneP w P):Calls Tryz.prog 15 #[.pointer P] w fun e w'=>e = .returned (.tuple #[.int .i64 0,.int .i64 1])/\Below w.heap.size w w':=by
 have HA:=h.asked0 true
 go_enter Tryz.func15,Tryz.ntmps15
 go_wp2_with (go_at_call 41;refine HA.mono ?_;rintro e w1 ⟨rfl,hB1⟩)
 exact bodyPost_ret (results_tmp2 rfl _ _ _) rfl ⟨rfl,hB1⟩
theorem nmake_gives (h:NoneP w P):Calls Tryz.prog 12 #[.pointer P] w fun e w'=>e = .returned (.tuple #[.int .i64 0,.int .i64 1])/\Below w.heap.size w w':=by
 have HA:=h.asked0 true
 go_enter Tryz.func12,Tryz.ntmps12
 go_wp2_with (go_at_call 41;refine HA.mono ?_;rintro e w1 ⟨rfl,hB1⟩)
 exact bodyPost_ret (results_tmp2 rfl _ _ _) rfl ⟨rfl,hB1⟩
theorem nbegin_gives (h:NoneP w P):Calls Tryz.prog 11 #[.pointer P] w fun e w'=>e = .returned (.int .i64 1)/\Below w.heap.size w w':=by
 have HA:=h.asked0 false
 go_enter Tryz.func11,Tryz.ntmps11
 go_wp2_with (go_at_call 41;refine HA.mono ?_;rintro e w1 ⟨rfl,hB1⟩)
 go_ret
 exact⟨rfl,hB1⟩
theorem ncommit_gives (h:NoneP w P):Calls Tryz.prog 17 #[.pointer P] w fun e w'=>e = .returned (.int .i64 1)/\Below w.heap.size w w':=by
 have HA:=h.asked0 true
 go_enter Tryz.func17,Tryz.ntmps17
 go_wp2_with (go_at_call 41;refine HA.mono ?_;rintro e w1 ⟨rfl,hB1⟩)
 go_ret
 exact⟨rfl,hB1⟩
theorem nrollback_gives (h:NoneP w P):Calls Tryz.prog 18 #[.pointer P] w fun e w'=>e = .returned (.int .i64 1)/\Below w.heap.size w w':=by
 have HA:=h.asked0 true
 go_enter Tryz.func18,Tryz.ntmps18
 go_wp2_with (go_at_call 41;refine HA.mono ?_;rintro e w1 ⟨rfl,hB1⟩)
 go_ret
 exact⟨rfl,hB1⟩
theorem nread_gives (h:NoneP w P):Calls Tryz.prog 23 #[.pointer P,.int .i64 1] w fun e w'=>e = .returned (.tuple #[.slice .none 0 0,.int .i64 1])/\Below w.heap.size w w':=by
 go_enter Tryz.func23,Tryz.ntmps23
 go_wp2_with (go_at_call 46;refine h.none.mono ?_;rintro e w1 ⟨rfl,hB1⟩)
 exact bodyPost_ret (results_tmp2 rfl _ _ _) rfl ⟨rfl,hB1⟩
theorem nroot_gives (h:NoneP w P):Calls Tryz.prog 24 #[.pointer P,.int .i64 0] w fun e w'=>e = .returned (.tuple #[.int .i64 0,.int .i64 1])/\Below w.heap.size w w':=by
 go_enter Tryz.func24,Tryz.ntmps24
 go_wp2_with (go_at_call 46;refine h.none.mono ?_;rintro e w1 ⟨rfl,hB1⟩)
 exact bodyPost_ret (results_tmp2 rfl _ _ _) rfl ⟨rfl,hB1⟩
theorem nsize_gives (h:NoneP w P):Calls Tryz.prog 20 #[.pointer P] w fun e w'=>e = .returned (.int .i64 0)/\Below w.heap.size w w':=by
 go_enter Tryz.func20,Tryz.ntmps20
 go_wp2_with (go_at_call 46;refine h.none.mono ?_;rintro e w1 ⟨rfl,hB1⟩)
 go_ret
 exact⟨rfl,hB1⟩
theorem nspare_gives (h:NoneP w P):Calls Tryz.prog 21 #[.pointer P] w fun e w'=>e = .returned (.int .i64 0)/\Below w.heap.size w w':=by
 go_enter Tryz.func21,Tryz.ntmps21
 go_wp2_with (go_at_call 46;refine h.none.mono ?_;rintro e w1 ⟨rfl,hB1⟩)
 go_ret
 exact⟨rfl,hB1⟩
theorem nunder_gives (h:NoneP w P):Calls Tryz.prog 30 #[.pointer P] w fun e w'=>e = .returned (.bool false)/\Below w.heap.size w w':=by
 go_enter Tryz.func30,Tryz.ntmps30
 go_wp2_with (go_at_call 46;refine h.none.mono ?_;rintro e w1 ⟨rfl,hB1⟩)
 go_ret
 exact⟨rfl,hB1⟩
theorem nback_gives (h:NoneP w P):Calls Tryz.prog 16 #[.pointer P,.int .i64 0] w fun e w'=>e = .returned (.int .i64 1)/\Below w.heap.size w w':=by
 have hB1:Below w.heap.size w w:=Below.refl _ _
 have h1:=h
 go_enter Tryz.func16,Tryz.ntmps16
 go_wp2_with (go_at_call 49;refine(pmarked_gives w P 0).mono ?_;rintro e w2 ⟨f,rfl,hf1,hB2,hA2⟩)
 obtain⟨xs,hxs⟩:∃xs:List PAsk,xs=[⟨f,2,false⟩]:=⟨_,rfl⟩
 have hone:∀v∈pasksC xs,v.oneCell'=true:=fun v hv=>by
  rw[hxs] at hv
  simp only[pasksC,paskC,zK,zL,List.flatten_cons,List.flatten_nil,zW,zQ,List.mem_cons,List.not_mem_nil,or_false] at hv
  rcases hv with rfl|rfl
  ·exact hf1
  ·rfl
 obtain⟨W3,hW3⟩:∃W3,W3=w2.alloc (.cells #[f,.int .i64 2] 92):=⟨_,rfl⟩
 have hB3:Below w2.heap.size w2 W3:=by rw[hW3];exact(Below.refl _ _).alloc (zG _) _
 have hin3:InG W3 W3.heap.size 2 (some ⟨w2.heap.size,0,none⟩) xs.length xs.length (pasksC xs):=by
  have:=pasks_new w2 xs hone 92 (by rw[hxs];simp)
  rw[hW3]
  subst hxs
  exact this
 have hs1:=hB1.size
 have hs2:=hB2.size
 have hs3:=hB3.size
 have h3:=(h1.grow hB2).grow hB3
 have HA:=h3.asked true (some ⟨w2.heap.size,0,none⟩) xs.length xs hin3 (by rw[hxs];simp)
 have hxl:xs.length=1:=by rw[hxs];rfl
 rw[hxl] at HA
 rw[<-hW3]
 refine HA.mono ?_
 rintro e w4 ⟨rfl,hB4⟩
 have hBB:Below w.heap.size w w4:=((hB1.trans (hB2.mono hs1)).trans (hB3.mono (by omega))).trans (hB4.mono (by omega))
 clear hin3 HA hA2 hone hxs hxl hW3 h3 h1
 go_wp2
 go_ret
 exact⟨rfl,hBB⟩
theorem nforget_gives (h:NoneP w P):Calls Tryz.prog 26 #[.pointer P,.int .i64 0] w fun e w'=>e = .returned (.int .i64 1)/\Below w.heap.size w w':=by
 have hB1:Below w.heap.size w w:=Below.refl _ _
 have h1:=h
 go_enter Tryz.func26,Tryz.ntmps26
 go_wp2_with (go_at_call 49;refine(pmarked_gives w P 0).mono ?_;rintro e w2 ⟨f,rfl,hf1,hB2,hA2⟩)
 obtain⟨xs,hxs⟩:∃xs:List PAsk,xs=[⟨f,2,false⟩]:=⟨_,rfl⟩
 have hone:∀v∈pasksC xs,v.oneCell'=true:=fun v hv=>by
  rw[hxs] at hv
  simp only[pasksC,paskC,zK,zL,List.flatten_cons,List.flatten_nil,zW,zQ,List.mem_cons,List.not_mem_nil,or_false] at hv
  rcases hv with rfl|rfl
  ·exact hf1
  ·rfl
 obtain⟨W3,hW3⟩:∃W3,W3=w2.alloc (.cells #[f,.int .i64 2] 92):=⟨_,rfl⟩
 have hB3:Below w2.heap.size w2 W3:=by rw[hW3];exact(Below.refl _ _).alloc (zG _) _
 have hin3:InG W3 W3.heap.size 2 (some ⟨w2.heap.size,0,none⟩) xs.length xs.length (pasksC xs):=by
  have:=pasks_new w2 xs hone 92 (by rw[hxs];simp)
  rw[hW3]
  subst hxs
  exact this
 have hs1:=hB1.size
 have hs2:=hB2.size
 have hs3:=hB3.size
 have h3:=(h1.grow hB2).grow hB3
 have HA:=h3.asked true (some ⟨w2.heap.size,0,none⟩) xs.length xs hin3 (by rw[hxs];simp)
 have hxl:xs.length=1:=by rw[hxs];rfl
 rw[hxl] at HA
 rw[<-hW3]
 refine HA.mono ?_
 rintro e w4 ⟨rfl,hB4⟩
 have hBB:Below w.heap.size w w4:=((hB1.trans (hB2.mono hs1)).trans (hB3.mono (by omega))).trans (hB4.mono (by omega))
 clear hin3 HA hA2 hone hxs hxl hW3 h3 h1
 go_wp2
 go_ret
 exact⟨rfl,hBB⟩
theorem nwrite_gives (h:NoneP w P)(A:Option Addr)(c:Nat):Calls Tryz.prog 27 #[.pointer P,.int .i64 1,.slice A 512 c] w fun e w'=>e = .returned (.int .i64 1)/\Below w.heap.size w w':=by
 obtain⟨W1,hW1⟩:∃W1,W1=w.alloc (.cells #[.slice A 512 c] 22):=⟨_,rfl⟩
 have hB1:Below w.heap.size w W1:=by rw[hW1];exact(Below.refl _ _).alloc (zG _) _
 have h1:=h.grow hB1
 have HW1:=Lib.hid hW1.symm
 clear hW1
 go_enter Tryz.func27,Tryz.ntmps27
 go_wp2_with (go_at_call 53;rw[HW1.out];refine(pthere_gives W1 P 1 1).mono ?_;rintro e w2 ⟨f,rfl,hf1,hB2,hA2⟩)
 obtain⟨xs,hxs⟩:∃xs:List PAsk,xs=[⟨.func (.func 55) #[] #[.pointer (some ⟨w.heap.size,0,none⟩)],2,false⟩,⟨f,4,false⟩]:=⟨_,rfl⟩
 have hone:∀v∈pasksC xs,v.oneCell'=true:=fun v hv=>by
  rw[hxs] at hv
  simp only[pasksC,paskC,zK,zL,List.flatten_cons,List.flatten_nil,zW,zQ,List.mem_cons,List.not_mem_nil,or_false] at hv
  rcases hv with rfl|rfl|rfl|rfl
  ·rfl
  ·rfl
  ·exact hf1
  ·rfl
 obtain⟨W3,hW3⟩:∃W3,W3=w2.alloc (.cells #[.func (.func 55) #[] #[.pointer (some ⟨w.heap.size,0,none⟩)],.int .i64 2,f,.int .i64 4] 92):=⟨_,rfl⟩
 have hB3:Below w2.heap.size w2 W3:=by rw[hW3];exact(Below.refl _ _).alloc (zG _) _
 have hin3:InG W3 W3.heap.size 2 (some ⟨w2.heap.size,0,none⟩) xs.length xs.length (pasksC xs):=by
  have:=pasks_new w2 xs hone 92 (by rw[hxs];simp)
  rw[hW3]
  subst hxs
  exact this
 have hs1:=hB1.size
 have hs2:=hB2.size
 have hs3:=hB3.size
 have h3:=(h1.grow hB2).grow hB3
 have HA:=h3.asked true (some ⟨w2.heap.size,0,none⟩) xs.length xs hin3 (by rw[hxs];simp)
 have hxl:xs.length=2:=by rw[hxs];rfl
 rw[hxl] at HA
 rw[<-hW3]
 refine HA.mono ?_
 rintro e w4 ⟨rfl,hB4⟩
 have hBB:Below w.heap.size w w4:=((hB1.trans (hB2.mono hs1)).trans (hB3.mono (by omega))).trans (hB4.mono (by omega))
 clear hin3 HA hA2 hone hxs hxl hW3 h3 h1
 go_wp2
 go_ret
 exact⟨rfl,hBB⟩
theorem nsetroot_gives (h:NoneP w P):Calls Tryz.prog 29 #[.pointer P,.int .i64 0,.int .i64 0] w fun e w'=>e = .returned (.int .i64 1)/\Below w.heap.size w w':=by
 obtain⟨W1,hW1⟩:∃W1,W1=w.alloc (.cells #[.int .i64 0] 3):=⟨_,rfl⟩
 have hB1:Below w.heap.size w W1:=by rw[hW1];exact(Below.refl _ _).alloc (zG _) _
 have h1:=h.grow hB1
 have HW1:=Lib.hid hW1.symm
 clear hW1
 go_enter Tryz.func29,Tryz.ntmps29
 go_wp2_with (go_at_call 53;rw[HW1.out];refine(pthere_gives W1 P 0 0).mono ?_;rintro e w2 ⟨f,rfl,hf1,hB2,hA2⟩)
 obtain⟨xs,hxs⟩:∃xs:List PAsk,xs=[⟨.func (.func 56) #[] #[.pointer (some ⟨w.heap.size,0,none⟩)],2,false⟩,⟨f,4,false⟩]:=⟨_,rfl⟩
 have hone:∀v∈pasksC xs,v.oneCell'=true:=fun v hv=>by
  rw[hxs] at hv
  simp only[pasksC,paskC,zK,zL,List.flatten_cons,List.flatten_nil,zW,zQ,List.mem_cons,List.not_mem_nil,or_false] at hv
  rcases hv with rfl|rfl|rfl|rfl
  ·rfl
  ·rfl
  ·exact hf1
  ·rfl
 obtain⟨W3,hW3⟩:∃W3,W3=w2.alloc (.cells #[.func (.func 56) #[] #[.pointer (some ⟨w.heap.size,0,none⟩)],.int .i64 2,f,.int .i64 4] 92):=⟨_,rfl⟩
 have hB3:Below w2.heap.size w2 W3:=by rw[hW3];exact(Below.refl _ _).alloc (zG _) _
 have hin3:InG W3 W3.heap.size 2 (some ⟨w2.heap.size,0,none⟩) xs.length xs.length (pasksC xs):=by
  have:=pasks_new w2 xs hone 92 (by rw[hxs];simp)
  rw[hW3]
  subst hxs
  exact this
 have hs1:=hB1.size
 have hs2:=hB2.size
 have hs3:=hB3.size
 have h3:=(h1.grow hB2).grow hB3
 have HA:=h3.asked true (some ⟨w2.heap.size,0,none⟩) xs.length xs hin3 (by rw[hxs];simp)
 have hxl:xs.length=2:=by rw[hxs];rfl
 rw[hxl] at HA
 rw[<-hW3]
 refine HA.mono ?_
 rintro e w4 ⟨rfl,hB4⟩
 have hBB:Below w.heap.size w w4:=((hB1.trans (hB2.mono hs1)).trans (hB3.mono (by omega))).trans (hB4.mono (by omega))
 clear hin3 HA hA2 hone hxs hxl hW3 h3 h1
 go_wp2
 go_ret
 exact⟨rfl,hBB⟩
theorem nfree_gives (h:NoneP w P):Calls Tryz.prog 14 #[.pointer P,.int .i64 1] w fun e w'=>e = .returned (.int .i64 1)/\Below w.heap.size w w':=by
 go_enter Tryz.func14,Tryz.ntmps14
 go_wp2_with (first
  | (go_at_call 46;refine h.none.mono ?_;rintro e w1 ⟨rfl,hB1⟩)
  | (revert hB1;intro hB1;go_at_call 44;refine(ppage_gives (ls:=[[]]) (Lists.new (w:=w1) [((Option.none,0),[])] (by intro x hx;simp only[List.mem_cons,List.not_mem_nil,or_false] at hx;subst hx;exact⟨zG _,by decide,fun _=>rfl,fun h=>absurd h (by simp)⟩)) (by simp) (by simp)).mono ?_;rintro e w3 ⟨v3,rfl,own3,hB3⟩;obtain⟨A3,c3,rfl,hin3⟩:=own3.inB))
 have hs1:=hB1.size
 have hB03:Below w.heap.size w w3:=hB1.trans (((Below.refl _ w1).alloc (zG _) (.cells #[.slice Option.none 0 0] 22)).trans (hB3.mono (by simp)) |>.mono hs1)
 have hlen:(padB ([]:List UInt8)).length=512:=padB_length (by simp)
 rw[hlen]
 refine(nwrite_gives (h.grow hB03) A3 c3).mono ?_
 rintro e w4 ⟨rfl,hB4⟩
 go_wp2
 go_ret
 exact⟨rfl,hB03.trans (hB4.mono hB03.size)⟩
end
end Go.Proofs.YtnlimngkagmjpaaGreat
namespace Go.Proofs.YtnlimngkagmjpaaGreat
open Go Go.RowKit Lou Go.Shelf
attribute [local go_sem] Oper.semAt_some
@[local go_sem] theorem run_eqFseq (w:World) (f:Fn) (xs ys:Array Value):(binOp .eql 60 (.func f xs ys) .nilFunc).run Tryz.prog w = .ok (.bool false) w:=by
 have h:=run_eqF_nil (P:=Tryz.prog) 9999 60 w f xs ys Tryz.underlying60
 have e:binOp .eql 60 (.func f xs ys) .nilFunc=(do pure (.bool (<-Op.equalIn (9999+1) 60 (.func f xs ys) .nilFunc))):=rfl
 rw[e]
 simp only[Sem.run_bind,h,Result.andThen,Sem.run_pure]
structure Pl (B:Nat)(fr pg:Int)(W:World):Prop where
 b0:BlkIs W B 25 #[.int .i64 fr,.int .i64 pg]
 b1:BlkIs W (B+1) 4 #[.bool false]
theorem Pl.grow {B:Nat}{fr pg:Int}{W W':World}(h:Pl B fr pg W)(hB:Below W.heap.size W W'):Pl B fr pg W':=⟨h.b0.below hB h.b0.lt,h.b1.below hB h.b1.lt⟩
theorem Pl.c0 {B:Nat}{fr pg:Int}{W:World}(h:Pl B fr pg W):W.cell? ⟨B,0,none⟩=some (.int .i64 fr):=by rw[h.b0.cell];rfl
theorem Pl.c1 {B:Nat}{fr pg:Int}{W:World}(h:Pl B fr pg W):W.cell? ⟨B,1,none⟩=some (.int .i64 pg):=by rw[h.b0.cell];rfl
theorem wpIn_rangeFunc_no {F:Fence}{n:Nat}{P:Program}{w:World}{g:Operand}{ps:Array Tmp}{body:Code}{Q:Exit->Act->World->Prop}{a:Act}
  (hro:F.round=none) (h1:1<=n) {gf:Nat} {lb:Array Value} (hg:a.eval g = .func (.func gf) #[] lb) (hFg:F.fn gf) (eg:∀args w,(callFunc gf args).run P w = .ok (.enter gf args) w)
  {encs:Unit->Array Value} (hseq:SeqR F (n - 1) P gf lb encs (fun _=>False) (fun _ _ _=>False) (fun ys=>ys=[]) (fun _=>False) w) (hps:∀x,(encs x).size=ps.size)
  (hdone:∀(D:Nat) (V:World),w.heap.size<=D->Below w.heap.size w V->V.heap[D]? = some (.deferred (some []))->Q .normal { a with defers:={ target:=.collected D,args:=#[] }::a.defers } V) :
  (Code.rangeFunc g ps .skip body).wpIn F n P Q a w:=by
 refine wpIn_rangeFunc_R hro h1 hg hFg eg hseq (Below.refl _ _) hps
  (fun pre V=>Below w.heap.size w V) (fun _ _ _=>False)
  (fun pre X Y row h hgr hr=>below_abN (B:=w.heap.size) (zG _) h.size h hgr hr) (fun c pre X Y row h _ _=>h) (fun pre x s X Y row h _ _=>h) (Below.refl _ _)
  (fun x => { tmps:=(ps.zip (encs x)).foldl (fun t (p,v)=>t.setIfInBounds p v) a.tmps,defers:=[] }) ?_ ?_ ?_ ?_
 ·intro l1 x V K hK
  gi_wp2
  simpa[hps x] using hK
 ·intro l1 pre x V hI hR
  exact hR.elim
 ·intro D xs V hD hS hI hK
  exact hdone D V hD hI hK
 ·intro D c pre V hD hS h
  exact h.elim
end Go.Proofs.YtnlimngkagmjpaaGreat
namespace Go.Proofs.YtnlimngkagmjpaaGreat
open Go Go.RowKit Lou Go.Shelf
attribute [local go_sem] Oper.semAt_some
theorem fdisk_nil (w:World):Calls Tryz.prog 62 #[.pointer none] w fun e w'=>e = .returned (.pointer none)/\Below w.heap.size w w':=by
 have HN:Calls Tryz.prog 63 #[.pointer none] w fun e w'=>e = .returned (.bool true)/\w=w':=by
  go_enter Tryz.func63,Tryz.ntmps63
  go_wp2
  go_ret
  exact⟨rfl,rfl⟩
 go_enter Tryz.func62,Tryz.ntmps62
 go_wp2_with (go_at_call 63;refine HN.mono ?_;rintro e w' ⟨rfl,rfl⟩)
 go_ret
 exact⟨rfl,Below.refl _ _⟩
theorem cnew_nil (w:World)(room:Int):Calls Tryz.prog 32 #[.pointer none,.int .i64 room] w fun e w'=>e = .returned (.tuple #[.pointer none,.int .i64 1])/\Below w.heap.size w w':=by
 go_enter Tryz.func32,Tryz.ntmps32
 go_wp2_with (go_at_call 62;refine(fdisk_nil _).mono ?_;rintro e w' ⟨rfl,hB⟩)
 exact bodyPost_ret (results_tmp2 rfl _ _ _) rfl ⟨rfl,hB⟩
theorem popen_nil (W:World)(room:Int):Calls Tryz.prog 9 #[.pointer none,.int .i64 room] W fun e w'=>e = .returned (.tuple #[.pointer none,.int .i64 1])/\Below W.heap.size W w':=by
 have HNEW:=cnew_nil W room
 go_enter Tryz.func9,Tryz.ntmps9
 go_wp2_with fail
 refine wp_scope_jumps (rest:=?rest) 0 (fun a w'=>(∃s:Nat,a = { tmps:=#[.pointer none,.int .i64 room,undef,undef,.pointer none,.int .i64 0,.pointer none,.int .i64 1,.pointer (some ⟨s,0,none⟩),.slice none 0 0,undef,.tuple #[.pointer none,.int .i64 1],.pointer none,.int .i64 room,.tuple #[.pointer none,.int .i64 1],.pointer none,.int .i64 1,.pointer none,.agg #[.int .i64 0,.int .i64 0,.int .i64 0,.int .i64 0,.int .i64 0,.int .i64 0,.int .i64 0,.int .i64 0,.int .i64 0,.int .i64 0,.int .i64 0,.int .i64 0,.int .i64 0,.int .i64 0,.int .i64 0,.int .i64 0,.int .i64 0,.int .i64 0,.int .i64 0,.pointer none,.int .i64 0,.int .i64 0,.int .i64 0,.int .i64 0,.int .i64 0,.int .i64 0,.int .i64 0,.int .i64 0,.int .i64 0,.int .i64 0,.int .i64 0,.int .i64 0,.int .i64 0,.int .i64 0,.int .i64 0,.int .i64 0,.int .i64 0,.int .i64 0,.int .i64 0,.bool false,.slice none 0 0],.pointer (some ⟨s,0,none⟩),.int .i64 1,.bool true,undef,undef,undef,undef,undef,undef,undef,undef,undef,undef,undef,undef,undef,undef,undef,undef,undef,undef,undef,undef,undef,undef,undef,undef,undef,undef,undef,undef,undef,undef,undef,undef,undef,undef,undef,undef,undef,undef,undef,undef,undef,undef,undef,undef,undef,undef,undef,undef,undef,undef,undef,undef,undef,undef,undef,undef,undef,undef,undef,undef,undef,undef,undef,undef,undef,undef,undef,undef,undef,undef,undef,undef,undef,undef,undef,undef,undef,undef,undef,undef,undef,undef,undef,undef,undef,undef,undef,undef,undef,undef,undef,undef,undef,undef,undef,undef,undef,undef,undef,undef,undef],defers:=[] })/\Below W.heap.size W w') (fun _ _=>0) ?hf ?first ?pass
 case hf=>exact rfl
 case pass =>
  rintro a w' ⟨⟨s,rfl⟩,hB⟩
  go_wp2
  simp only[Exit.jump]
  exact bodyPost_ret (results_tmp2 rfl _ _ _) rfl ⟨rfl,hB⟩
 case first =>
  go_wp2_with (go_at_call 32;refine HNEW.mono ?_;rintro e w1 ⟨rfl,hB1⟩)
  go_step3
  exact⟨rfl,⟨_,rfl⟩,hB1.alloc hB1.size _⟩
section
variable {w:World}{P:Option Addr}
theorem npages_gives (w:World)(P:Option Addr):Calls Tryz.prog 25 #[.pointer P] w fun e w'=>∃q,e = .returned (.func (.func 54) #[] #[.pointer (some ⟨q,0,none⟩)])/\BlkIs w' q 34 #[.pointer P]/\Below w.heap.size w w':=by
 go_enter Tryz.func25,Tryz.ntmps25
 go_wp2
 go_ret
 exact⟨_,rfl,BlkIs.new w _ _,(Below.refl _ _).alloc (zG _) _⟩
theorem pages1N_seq (n:Nat)(hn:6<=n)(q:Nat)(hq:BlkIs w q 34 #[.pointer P])(hN:NoneP w P) :
  SeqR Fence.wide n Tryz.prog 54 #[.pointer (some ⟨q,0,none⟩)] (fun _:Unit=>#[.int .i64 0,.slice none 0 0]) (fun _=>False) (fun _ _ _=>False) (fun ys=>ys=[]) (fun _=>False) w:=by
 intro l J Jx W hW hJ _ _ h0
 have h1:1<=n:=by omega
 have hqW:=hq.below hW hq.lt
 have kq:=hqW.boxed
 have HS:=nsize_gives (hN.grow hW)
 refine callsIn_of_wp Tryz.func54 rfl trivial ?_ rfl
 simp only[Tryz.ntmps54,zS,zN,qB,qH,qI,zU,zV,zZ,zX,zQ,zW]
 gi_wp2
 refine wpIn_scope_wide ?_
 gi_wp2
 refine wpIn_label ?_
 gi_wp2
 gi_loopw [3] (fun i wr=>i = .int .i64 1/\wr=W) (fun _ _=>0)
 case atStart=>exact⟨rfl,rfl⟩
 case round =>
  obtain⟨rfl,rfl⟩:=hrel
  gi_wp2_with (refine⟨trivial,?_⟩;gi_at_call 20;refine(callsIn_wide.2 HS).mono ?_;rintro e w1 ⟨rfl,hB⟩)
  simp only[Exit.noGoto]
  go_end0
  exact⟨⟨_,rfl⟩,.inl ⟨[],rfl,hJ.grow h0 hB⟩⟩
end
end Go.Proofs.YtnlimngkagmjpaaGreat
namespace Go.Proofs.YtnlimngkagmjpaaGreat
open Go Go.RowKit Lou Go.Shelf
theorem page9_gives (w:World)(v:UInt8):Calls Tryz.prog 28 #[.int .u8 (v.toNat:Int)] w (GivesB w (pgL v)):=by
 have hv:=v.toNat_lt
 have hu:UInt8.ofNat v.toNat=v:=by simp
 obtain⟨F,hF⟩:∃F:Nat->List UInt8,F=fun k=>zR k v++zR (512 - k) 0:=⟨_,rfl⟩
 have hF0:F 0=zR 512 0:=by rw[hF];rfl
 have hFn:F 512=pgL v:=by rw[hF];simp[pgL]
 have hFs:Hid (∀k,k<512->(F k).set k (UInt8.ofNat v.toNat)=F (k+1)):=Lib.hid (by rw[hF,hu];exact fun k h=>fill_nextP v k h)
 have hFl:Hid (∀k,k<=512->(F k).length=512):=Lib.hid (by rw[hF];intro k h;simp;omega)
 obtain⟨x,hx⟩:∃x,x=v.toNat:=⟨_,rfl⟩
 rw[<-hx] at hFs hv ⊢
 rw[<-hFn]
 clear hF hu hx hFn
 go_enter Tryz.func28,Tryz.ntmps28
 go_wp2_with (refine wp_makeB rfl _ _ rfl w.heap.size .i64 .i64 512 rfl rfl (by omega) (zG _) ?_;intro w1 own1 hg1;have hB1:Below w.heap.size w w1:=grown_below hg1 (zG _) (fun r hr=>by cases hr))
 rw[<-hF0] at own1
 have hgw:w.heap.size<w1.heap.size:=by
  rcases own1.form with⟨h1,_⟩|⟨g',cap',h1,h2,h3,h4⟩
  ·cases h1
  ·exact ownG_lt own1 w.heap.size rfl
 clear hF0
 go_loopw [4] (fun i wr=>∃k:Nat,k<=512/\i = .int .i64 k/\OwnB wr w.heap.size (.slice (some ⟨w.heap.size,0,none⟩) 512 512) (F k)/\Below w.heap.size w wr) (fun i _=>512 - (intOf i).toNat)
 case atStart=>exact⟨0,by omega,rfl,own1,hB1⟩
 case round =>
  obtain⟨k,hk,rfl,ownr,hBr⟩:=hrel
  by_cases hlt:k<512
  ·have hwk:IntKind.i64.wrap ((k:Int)+1)=(k:Int)+1:=wrap_i64_fr _ (by omega) (by omega)
   have hc:=ownr.cell k (by rw[hFl.out k hk];exact hlt)
   have hfz:=ownr.free k
   have own2:=ownr.set k x hv
   rw[hFs.out k hlt] at own2
   go_wp2
   exact⟨⟨k+1,by omega,by simp,own2,hBr.setCell (p:=⟨w.heap.size,k,none⟩) (zG _) _⟩,by simp[intOf];omega⟩
  ·obtain rfl:k=512:=by omega
   go_wp2
   go_ret
   exact⟨_,rfl,ownr,hBr⟩
theorem pgL0_length:(pgL 0).length=512:=List.length_replicate
theorem GrU.two {a b c:World}(h:Below a.heap.size a b)(k:Below b.heap.size b c):Below a.heap.size a c:=h.trans (k.mono h.size)
theorem GrU.chain6 {a b c d e f g:World}(h1:Below a.heap.size a b)(h2:Below b.heap.size b c)(h3:Below c.heap.size c d)(h4:Below d.heap.size d e)(h5:Below e.heap.size e f)(h6:Below f.heap.size f g):Below a.heap.size a g:=GrU.two (GrU.two (GrU.two (GrU.two (GrU.two h1 h2) h3) h4) h5) h6
theorem GrU.chain {a b c d e f g h i j k l m n:World}(h1:Below a.heap.size a b)(h2:Below b.heap.size b c)(h3:Below c.heap.size c d)(h4:Below d.heap.size d e)(h5:Below e.heap.size e f)(h6:Below f.heap.size f g)(h7:Below g.heap.size g h)(h8:Below h.heap.size h i)(h9:Below i.heap.size i j)(h10:Below j.heap.size j k)(h11:Below k.heap.size k l)(h12:Below l.heap.size l m)(h13:Below m.heap.size m n):Below a.heap.size a n :=
 GrU.two (GrU.chain6 h1 h2 h3 h4 h5 h6) (GrU.two (GrU.chain6 h7 h8 h9 h10 h11 h12) h13)
theorem run_eqFseq9 (w:World)(f:Fn)(xs ys:Array Value):(binOp .eql 60 (.func f xs ys) .nilFunc).run Tryz.prog w = .ok (.bool false) w:=by
 have h:=run_eqF_nil (P:=Tryz.prog) 9999 60 w f xs ys Tryz.underlying60
 have e:binOp .eql 60 (.func f xs ys) .nilFunc=(do pure (.bool (<-Op.equalIn (9999+1) 60 (.func f xs ys) .nilFunc))):=rfl
 rw[e]
 simp only[Sem.run_bind,h,Result.andThen,Sem.run_pure]
attribute [local go_sem] Oper.semAt_some
theorem lawPN_out (m:Nat)(hm:8<=m)(w:World)(fr pg room:Int)(h:¬ (planOk fr pg=true/\fr<=8/\pg<=7)) :
  CallsIn Fence.wide m Tryz.prog 4 #[.agg #[.int .i64 fr,.int .i64 pg],.int .i64 room] w fun e w'=>e = .returned (.bool true)/\Below w.heap.size w w':=by
 obtain⟨V0,hV0⟩:∃V0,V0=(w.alloc (.cells #[.int .i64 fr,.int .i64 pg] 25)).alloc (.cells #[.bool false] 4):=⟨_,rfl⟩
 have P0:Pl w.heap.size fr pg V0:=by
  have b1:=BlkIs.new (w.alloc (.cells #[.int .i64 fr,.int .i64 pg] 25)) 4 #[.bool false]
  rw[World.size_alloc] at b1
  rw[hV0]
  exact⟨(BlkIs.new w _ _).alloc _,b1⟩
 have hB0:Below w.heap.size w V0:=by rw[hV0];exact((Below.refl _ w).alloc (zG _) _).alloc (by simp) _
 have hm1:1<=m:=by omega
 have HRt:∀W,Calls Tryz.prog 22 #[.agg #[.int .i64 fr,.int .i64 pg]] W fun e w'=>e = .returned (.bool (planOk fr pg))/\Below W.heap.size W w':=fun W=>refRight_gives fr pg W
 have hcase:planOk fr pg=false∨(planOk fr pg=true/\8<fr)∨(planOk fr pg=true/\¬ 8<fr/\7<pg):=by
  by_cases h1:planOk fr pg=true
  ·by_cases h2:8<fr
   ·exact .inr (.inl ⟨h1,h2⟩)
   ·exact .inr (.inr ⟨h1,h2,Int.not_le.1 (fun h3=>h ⟨h1,by omega,h3⟩)⟩)
  ·exact .inl (by simpa using h1)
 clear h
 refine callsIn_of_wp_marks Tryz.func4 rfl trivial ?_ rfl
 simp only[Tryz.ntmps4,zS,zN,qB,qH,qI,zU,zV,zZ,zX,zQ,zW]
 rcases hcase with hpl|⟨hpl,h1⟩|⟨hpl,h1,h2⟩
 all_goals
  rw[hpl] at HRt
  clear hpl
  gi_wp2_with (first
   | (refine⟨trivial,?_⟩;gi_at_call 22;rw[<-hV0];refine(callsIn_wide.2 (HRt _)).mono ?_;rintro e W1 ⟨rfl,hB1⟩;have P1:=P0.grow hB1;have x0:=P1.c0;have x1:=P1.c1)
   | (refine⟨trivial,?_⟩;gi_at_call 5;refine(callsIn_wide.2 (works9_gives _)).mono ?_;rintro e W2 ⟨rfl,hB2⟩;have P2:=P1.grow hB2;have k2:=P2.b1.boxed;have f2:=P2.b1.free 0))
  have b3:=P2.b1.set 0 (.bool true)
  have hB3:=((hB0.trans (hB1.mono hB0.size)).trans (hB2.mono (by have:=hB0.size;have:=hB1.size;omega))).setCell (p:=⟨w.heap.size+1,0,none⟩) (by simp) (.bool true)
  exact⟨.bool true,results_cellQ (p:=⟨w.heap.size+1,0,none⟩) 4 rfl rfl (by simp[go_sem]) b3.boxed,rfl,hB3⟩
end Go.Proofs.YtnlimngkagmjpaaGreat
namespace Go.Proofs.YtnlimngkagmjpaaGreat
open Go Go.RowKit Lou Go.Shelf
attribute [local go_sem] run_eqFseq9 Oper.semAt_some
theorem lawPN_in1 (m:Nat)(hm:10<=m)(w:World)(fr pg room:Int)(hpl:planOk fr pg=true)(h8:fr<=8)(h7:pg<=7)(hr:2<=room/\room<=2000)(hpar:Int.tmod room 2=1) :
  CallsIn Fence.wide m Tryz.prog 4 #[.agg #[.int .i64 fr,.int .i64 pg],.int .i64 room] w fun e w'=>e = .returned (.bool true)/\Below w.heap.size w w':=by
 obtain⟨V0,hV0⟩:∃V0,V0=(w.alloc (.cells #[.int .i64 fr,.int .i64 pg] 25)).alloc (.cells #[.bool false] 4):=⟨_,rfl⟩
 have P0:Pl w.heap.size fr pg V0:=by
  have b1:=BlkIs.new (w.alloc (.cells #[.int .i64 fr,.int .i64 pg] 25)) 4 #[.bool false]
  rw[World.size_alloc] at b1
  rw[hV0]
  exact⟨(BlkIs.new w _ _).alloc _,b1⟩
 have hB0:Below w.heap.size w V0:=by rw[hV0];exact((Below.refl _ w).alloc (zG _) _).alloc (by simp) _
 have hm1:1<=m:=by omega
 have hfp:=(planOk_iff fr pg).1 hpl
 obtain⟨k,hk⟩:∃k:Nat,(k:Int)=2+9*fr+8*pg:=⟨(2+9*fr+8*pg).toNat,by omega⟩
 obtain⟨Pn,hPn⟩:∃Pn:Nat,(Pn:Int)=pg:=⟨pg.toNat,by omega⟩
 have HRt:∀W,Calls Tryz.prog 22 #[.agg #[.int .i64 fr,.int .i64 pg]] W fun e w'=>e = .returned (.bool true)/\Below W.heap.size W w':=fun W=>by
  have:=refRight_gives fr pg W
  rw[hpl] at this
  exact this
 have HSec:∀W,Calls Tryz.prog 7 #[.agg #[.int .i64 fr,.int .i64 pg]] W fun e w'=>e = .returned (.int .i64 (k:Int))/\Below W.heap.size W w':=fun W=>by rw[hk];exact refSectors_gives fr pg W hfp.1 hfp.2
 have HND:∀W,Calls Tryz.prog 6 #[.int .i64 (k:Int)] W fun e w'=>∃p,e = .returned (.tuple #[.pointer (some ⟨p,0,none⟩),.int .i64 0])/\W.heap.size<=p/\DkIs w' p k (fun _=>zer64) [] 0 false/\Below W.heap.size W w':=fun W=>new_gives W k (by omega) (by omega)
 have HFO:∀d W,Below V0.heap.size V0 W->V0.heap.size<=d->DkIs W d k (fun _=>zer64) [] 0 false->Calls Tryz.prog 8 #[.pointer (some ⟨d,0,none⟩),.agg #[.int .i64 fr,.int .i64 pg]] W fun e w'=>∃f l,e = .returned (.tuple #[.pointer (some ⟨f,0,none⟩),.int .i64 0])/\FhIs V0 d f l k fr pg ⟨laid (fun _=>zer64) (wrL 1 (hEnc 1 1 0 0) 1),[],0,false⟩ ⟨1,1,0,[]⟩ w':=fun d W hB hd hD =>
  (fopen_new2 W d k fr pg hB hd hD hpl hk (by omega)).mono fun e w' h=>by
   obtain⟨f,l,h1,h2,_⟩:=h
   exact⟨f,l,h1,h2⟩
 have HPO:∀d f l W,FhIs V0 d f l k fr pg ⟨laid (fun _=>zer64) (wrL 1 (hEnc 1 1 0 0) 1),[],0,false⟩ ⟨1,1,0,[]⟩ W->Calls Tryz.prog 9 #[.pointer (some ⟨f,0,none⟩),.int .i64 room] W (OpOut V0 d f l k Pn fr pg room W):=fun d f l W hF=>popen_new hF hpl hk (by omega) hPn (by omega)
 have c8:¬ 8<fr:=by omega
 have c7:¬ 7<pg:=by omega
 have HR:=Lib.hid hr
 have HPR:=Lib.hid hpar
 clear hfp hk hPn hr hpar
 refine callsIn_of_wp_marks Tryz.func4 rfl trivial ?_ rfl
 simp only[Tryz.ntmps4,zS,zN,qB,qH,qI,zU,zV,zZ,zX,zQ,zW]
 gi_wp2_with (first
  | (refine⟨trivial,?_⟩;gi_at_call 22;rw[<-hV0];refine(callsIn_wide.2 (HRt _)).mono ?_;rintro e W1 ⟨rfl,hB1⟩;have P1:=P0.grow hB1;have x0:=P1.c0;have x1:=P1.c1)
  | (refine⟨trivial,?_⟩;gi_at_call 7;refine(callsIn_wide.2 (HSec _)).mono ?_;rintro e W2 ⟨rfl,hB2⟩)
  | (refine⟨trivial,?_⟩;gi_at_call 6;refine(callsIn_wide.2 (HND _)).mono ?_;rintro e W3 ⟨d,rfl,hd,hD,hB3⟩;have P3:=(P1.grow hB2).grow hB3;have x0:=P3.c0;have x1:=P3.c1;have hB03:Below V0.heap.size V0 W3:=(hB1.trans (hB2.mono hB1.size)).trans (hB3.mono (by have:=hB1.size;have:=hB2.size;omega));have hd0:V0.heap.size<=d:=(by have:=hB1.size;have:=hB2.size;omega))
  | (refine⟨trivial,?_⟩;gi_at_call 8;refine(callsIn_wide.2 (HFO d _ hB03 hd0 hD)).mono ?_;rintro e W4 ⟨f,l,rfl,hF⟩)
  | (refine⟨trivial,?_⟩;gi_at_call 9;fail))
 have hup4:=hF.up
 refine⟨trivial,(callsIn_wide.2 (HPO d f l _ hF)).mono ?_⟩
 rintro e W5 hO
 clear HPO HFO HND HSec HRt hF hD hB03 hd0 hd hB1 hB2 hB3 P1 P3 x0 x1 c8 c7
 have hr:=HR.out
 have hpar:=HPR.out
 clear HR HPR
 obtain⟨qv,rfl,hB5⟩:∃qv,e = .returned (.tuple #[.pointer qv,.int .i64 0])/\Below V0.heap.size V0 W5:=by
  rcases hO with⟨_,p,a,r,v,h1,hp,_⟩|⟨h1,_⟩
  ·exact⟨_,h1,hp.ca.cs.fh.up⟩
  ·exact absurd hr h1
 have P5:=P0.grow hB5
 have hr1:=hr.1
 have hr2:=hr.2
 clear hO hr P0
 gi_wp2_with (first
  | (refine⟨trivial,?_⟩;gi_at_call 10;refine(callsIn_wide.2 (num9_gives _ _)).mono ?_;rintro e W' ⟨rfl,rfl⟩)
  | (refine⟨trivial,?_⟩;fail_if_success (refine callsIn_wide.2 ?_)))
 have hB56:Below W5.heap.size W5 (W5.alloc (.cells #[.int .i64 0,.int .i64 0,.int .i64 0,.int .i64 0,.int .i64 0,.int .i64 0,.int .i64 0,.int .i64 0,.int .i64 0,.int .i64 0,.int .i64 0,.int .i64 0,.int .i64 0,.int .i64 0,.int .i64 0,.int .i64 0,.int .i64 0,.int .i64 0,.int .i64 0,.pointer none,.int .i64 0,.int .i64 0,.int .i64 0,.int .i64 0,.int .i64 0,.int .i64 0,.int .i64 0,.int .i64 0,.int .i64 0,.int .i64 0,.int .i64 0,.int .i64 0,.int .i64 0,.int .i64 0,.int .i64 0,.int .i64 0,.int .i64 0,.int .i64 0,.int .i64 0,.bool false,.slice none 0 0] 55)):=(Below.refl _ _).alloc (zG _) _
 obtain⟨W6,hW6⟩:∃W6,W6=W5.alloc (.cells #[.int .i64 0,.int .i64 0,.int .i64 0,.int .i64 0,.int .i64 0,.int .i64 0,.int .i64 0,.int .i64 0,.int .i64 0,.int .i64 0,.int .i64 0,.int .i64 0,.int .i64 0,.int .i64 0,.int .i64 0,.int .i64 0,.int .i64 0,.int .i64 0,.int .i64 0,.pointer none,.int .i64 0,.int .i64 0,.int .i64 0,.int .i64 0,.int .i64 0,.int .i64 0,.int .i64 0,.int .i64 0,.int .i64 0,.int .i64 0,.int .i64 0,.int .i64 0,.int .i64 0,.int .i64 0,.int .i64 0,.int .i64 0,.int .i64 0,.int .i64 0,.int .i64 0,.bool false,.slice none 0 0] 55):=⟨_,rfl⟩
 have hN:NoneP W6 (some ⟨W5.heap.size,0,none⟩):=.inr ⟨_,rfl,by rw[hW6,(BlkIs.new W5 _ _).cell];rfl⟩
 rw[<-hW6] at hB56 ⊢
 clear hW6
 have P6:=P5.grow hB56
 have hB06:Below w.heap.size w W6:=(hB0.trans (hB5.mono hB0.size)).trans (hB56.mono (by have:=hB0.size;have:=hB5.size;omega))
 clear P5 hB5 hB56 hr1 hpar hup4 hB0
 gi_wp2_with (first
  | (refine⟨trivial,?_⟩;gi_at_call 15;refine(callsIn_wide.2 (nmark_gives hN)).mono ?_;rintro e U1 ⟨rfl,hU1⟩;have N1:=hN.grow hU1)
  | (refine⟨trivial,?_⟩;gi_at_call 23;refine(callsIn_wide.2 (nread_gives N1)).mono ?_;rintro e U2 ⟨rfl,hU2⟩;have N2:=N1.grow hU2)
  | (refine⟨trivial,?_⟩;gi_at_call 12;refine(callsIn_wide.2 (nmake_gives N2)).mono ?_;rintro e U3 ⟨rfl,hU3⟩;have N3:=N2.grow hU3)
  | (refine⟨trivial,?_⟩;gi_at_call 24;refine(callsIn_wide.2 (nroot_gives N3)).mono ?_;rintro e U4 ⟨rfl,hU4⟩;have N4:=N3.grow hU4)
  | (refine⟨trivial,?_⟩;gi_at_call 9;refine(callsIn_wide.2 (popen_nil _ 4)).mono ?_;rintro e U5 ⟨rfl,hU5⟩;have N5:=N4.grow hU5)
  | (refine⟨trivial,?_⟩;gi_at_call 25;refine(callsIn_wide.2 (npages_gives _ _)).mono ?_;rintro e U6 ⟨q,rfl,hq,hU6⟩;have N6:=N5.grow hU6)
  | (refine⟨trivial,?_⟩;fail_if_success (refine callsIn_wide.2 ?_)))
 have hBU:=GrU.chain6 hU1 hU2 hU3 hU4 hU5 hU6
 have P7:=P6.grow hBU
 have hB07:=hB06.trans (hBU.mono hB06.size)
 clear hU1 hU2 hU3 hU4 hU5 hU6 hBU N1 N2 N3 N4 N5 P6 hB06 hN
 refine wpI_stopB (fun a0 a V=>∃D,a = { a0 with defers:={ target:=.collected D,args:=#[] }::a0.defers }/\V.heap[D]? = some (.deferred (some []))/\U6.heap.size<=D/\Below U6.heap.size U6 V) ?_ ?_
 ·intro Q' hQ
  exact wpIn_rangeFunc_no rfl hm1 (gf:=54) (lb:=#[.pointer (some ⟨q,0,none⟩)]) rfl trivial (enters_of Tryz.func54 (by kernel_rfl) rfl)
   (pages1N_seq (m - 1) (by omega) q hq N6) (fun _=>rfl) (fun D V hD hB hK=>hQ _ _ ⟨D,rfl,hK,hD,hB⟩)
 rintro a V ⟨D,rfl,hK,hD,hBV⟩
 have PV:=P7.grow hBV
 have NV:=N6.grow hBV
 have hBwV:=hB07.trans (hBV.mono hB07.size)
 gi_wp2_with (first
  | (refine⟨trivial,?_⟩;gi_at_call 10;refine(callsIn_wide.2 (num9_gives _ _)).mono ?_;rintro e W' ⟨rfl,rfl⟩)
  | (refine⟨trivial,?_⟩;gi_at_call 11;refine(callsIn_wide.2 (nbegin_gives NV)).mono ?_;rintro e U11 ⟨rfl,hU11⟩;have N11:=NV.grow hU11)
  | (refine⟨trivial,?_⟩;gi_at_call 17;refine(callsIn_wide.2 (ncommit_gives N11)).mono ?_;rintro e U12 ⟨rfl,hU12⟩;have N12:=N11.grow hU12)
  | (refine⟨trivial,?_⟩;gi_at_call 18;refine(callsIn_wide.2 (nrollback_gives N12)).mono ?_;rintro e U13 ⟨rfl,hU13⟩;have N13:=N12.grow hU13)
  | (refine⟨trivial,?_⟩;gi_at_call 16;refine(callsIn_wide.2 (nback_gives N13)).mono ?_;rintro e U14 ⟨rfl,hU14⟩;have N14:=N13.grow hU14)
  | (refine⟨trivial,?_⟩;gi_at_call 26;refine(callsIn_wide.2 (nforget_gives N14)).mono ?_;rintro e U15 ⟨rfl,hU15⟩;have N15:=N14.grow hU15)
  | (refine⟨trivial,?_⟩;gi_at_call 28;refine(callsIn_wide.2 (page9_gives _ 0)).mono ?_;rintro e U20 ⟨v20,rfl,own20,hU20⟩;obtain⟨A20,c20,rfl,hin20⟩:=own20.inB;rw[pgL0_length];have N20:=N15.grow hU20)
  | (refine⟨trivial,?_⟩;gi_at_call 27;refine(callsIn_wide.2 (nwrite_gives N20 A20 c20)).mono ?_;rintro e U21 ⟨rfl,hU21⟩;have N21:=N20.grow hU21)
  | (refine⟨trivial,?_⟩;gi_at_call 14;refine(callsIn_wide.2 (nfree_gives N21)).mono ?_;rintro e U22 ⟨rfl,hU22⟩;have N22:=N21.grow hU22)
  | (refine⟨trivial,?_⟩;gi_at_call 29;refine(callsIn_wide.2 (nsetroot_gives N22)).mono ?_;rintro e U23 ⟨rfl,hU23⟩;have N23:=N22.grow hU23)
  | (refine⟨trivial,?_⟩;gi_at_call 20;refine(callsIn_wide.2 (nsize_gives N23)).mono ?_;rintro e U24 ⟨rfl,hU24⟩;have N24:=N23.grow hU24)
  | (refine⟨trivial,?_⟩;gi_at_call 21;refine(callsIn_wide.2 (nspare_gives N24)).mono ?_;rintro e U25 ⟨rfl,hU25⟩;have N25:=N24.grow hU25)
  | (refine⟨trivial,?_⟩;gi_at_call 30;refine(callsIn_wide.2 (nunder_gives N25)).mono ?_;rintro e U26 ⟨rfl,hU26⟩;have N26:=N25.grow hU26)
  | (refine⟨trivial,?_⟩;gi_at_call 5;refine(callsIn_wide.2 (works9_gives _)).mono ?_;rintro e U30 ⟨rfl,hU30⟩;have hBZ:=GrU.chain hU11 hU12 hU13 hU14 hU15 hU20 hU21 hU22 hU23 hU24 hU25 hU26 hU30;have PZ:=PV.grow hBZ;have kZ:=PZ.b1.boxed;have fZ:=PZ.b1.free 0))
 have b10:=PZ.b1.set 0 (.bool true)
 have hBf:Below w.heap.size w (U30.setCell ⟨w.heap.size+1,0,none⟩ (.bool true)):=(hBwV.trans (hBZ.mono hBwV.size)).setCell (p:=⟨w.heap.size+1,0,none⟩) (by simp) _
 have hK8:U30.heap[D]? = some (.deferred (some [])):=(Below.block hBZ D (zH.1 hK).1).trans hK
 have hDw:w.heap.size+1<D:=by have:=P7.b1.lt;omega
 have hE1:=(Below.heap_setCell U30 ⟨w.heap.size+1,0,none⟩ (.bool true) D (by simp;omega)).trans hK8
 clear kZ fZ hK8 hK
 generalize U30.setCell ⟨w.heap.size+1,0,none⟩ (.bool true)=Z at *
 refine⟨by simp,.inl ⟨D,_,rfl,run_takeDeferred hE1,?_⟩⟩
 have b11:BlkIs (Z.putObj D (.deferred none)) (w.heap.size+1) 4 #[.bool true]:=(putObj_oth Z D (.deferred none) (g:=w.heap.size+1) (by omega)).trans b10
 exact⟨.bool true,results_cellQ (p:=⟨w.heap.size+1,0,none⟩) 4 rfl rfl (by simp[go_sem]) b11.boxed,rfl,hBf.trans (belowK_b (w:=w) (zG _) Z D _ _ (by omega) hE1 rfl rfl)⟩
end Go.Proofs.YtnlimngkagmjpaaGreat
