/- Texts that the proof of PagerNone leans on, part 4. -/
import Derived.Deep.OwnRows
import Derived.Deep.DeepCutAuto
import Derived.Deep.CutBlock
import Derived.Test.YtnlimngkagmjpaaGreatPagerNoneB3
open List renaming length_cons → zN, length_map → qD, map_toArray → zJ, map_cons → zK, map_nil → zL, getElem_toArray → zD, getElem_cons_zero → zB, setIfInBounds_toArray → zA, set_cons_zero → zF, set_cons_succ → zE, getElem_cons_succ → zC, size_toArray → zS, length_nil → qB, push_toArray → zZ, append_toArray → zX, nil_append → zQ, cons_append → zW, getElem_mem → qJ, getElem?_eq_getElem → zI, length_append → zY, all_eq_true → qG
open Nat renaming zero_add → qK, le_refl → zG, lt_of_lt_of_le → zO, le_trans → zP, reduceAdd → qH, reduceSub → qI
open Array renaming getElem?_setIfInBounds → zM, getElem?_eq_some_iff → zH, replicate_succ → zU, replicate_zero → zV, getD_eq_getD_getElem? → zT
set_option linter.unusedVariables false
set_option maxRecDepth 100000
set_option maxHeartbeats 8000000

namespace Go.Proofs.YtnlimngkagmjpaaGreat
open Go Go.RowKit Lou
section
variable {w:World}{o:Oper}{ρ:Operand->Value}{x y:Operand}
theorem fold_get (off:Nat):∀(vs:List Value) (k:Nat) (arr:Array Value) (j:Nat),((vs.zipIdx k).foldl (fun cs x=>cs.setIfInBounds (off+x.snd) x.fst) arr)[j]? = if off+k<=j/\j<off+k+vs.length/\j<arr.size then vs[j - (off+k)]? else arr[j]?
 | [],k,arr,j=>by
  rw[if_neg (by simp;omega)]
  rfl
 | v::vs,k,arr,j=>by
  rw[List.zipIdx_cons,List.foldl_cons,fold_get off vs (k+1)]
  simp only[Array.size_setIfInBounds,zN,zM]
  by_cases h1:off+(k+1)<=j/\j<off+(k+1)+vs.length/\j<arr.size
  ·rw[if_pos h1,if_pos (by omega),show j - (off+k)=(j - (off+(k+1)))+1 from by omega]
   rfl
  ·rw[if_neg h1]
   by_cases h2:off+k=j
   ·subst h2
    by_cases h3:off+k<arr.size
    ·rw[if_pos rfl,if_pos h3,if_pos (by omega),Nat.sub_self]
     rfl
    ·rw[if_pos rfl,if_neg h3,if_neg (by omega)]
     rw[Array.getElem?_eq_none (by omega)]
   ·rw[if_neg h2,if_neg (by omega)]
theorem fold0 (vs:List Value)(arr:Array Value)(hs:arr.size=vs.length):vs.zipIdx.foldl (fun cs x=>cs.setIfInBounds x.snd x.fst) arr=vs.toArray:=by
 apply Array.ext_getElem?
 intro j
 have h:=fold_get 0 vs 0 arr j
 simp only[qK] at h
 rw[h]
 by_cases hj:j<vs.length
 ·rw[if_pos (by omega)]
  simp
 ·rw[if_neg (by omega),Array.getElem?_eq_none (by omega),Array.getElem?_eq_none (by simp;omega)]
theorem fold1 (u:Value)(vs:List Value)(arr:Array Value)(hs:arr.size=vs.length+1):vs.zipIdx.foldl (fun cs x=>cs.setIfInBounds (1+x.snd) x.fst) (arr.setIfInBounds 0 u)=(u::vs).toArray:=by
 apply Array.ext_getElem?
 intro j
 rw[fold_get 1 vs 0]
 simp only[Array.size_setIfInBounds,zM]
 rcases j with _|j
 ·rw[if_neg (by omega),if_pos rfl,if_pos (by omega)]
  rfl
 ·by_cases hj:j<vs.length
  ·rw[if_pos (by omega),show j+1 - (1+0)=j from by omega]
   simp
  ·rw[if_neg (by omega),if_neg (by omega),Array.getElem?_eq_none (by omega),Array.getElem?_eq_none (by simp;omega)]
theorem x_buildLs (k:Nat)(l:List UInt8)(ho:o.op = .build 239 #[(0,x),(1,y)])(h1:ρ x = .int .i64 (k:Int))(h2:ρ y = .agg (l.map b8).toArray)(hl:l.length=64):(execOp ρ o).run Tryz.prog w = .ok (.value (.agg (lsC (k,l)).toArray)) w:=by
 have hz:Tryz.zeroCells239.size=65:=by kernel_rfl
 have key:=fold1 (.int .i64 (k:Int)) (l.map b8) Tryz.zeroCells239 (by rw[hz,qD,hl])
 simp[execOp,ho,h1,h2,go_sem,lsC,Result.andThen,hl,key]
theorem x_sliceLs (k:Nat)(l:List UInt8)(hl:l.length=64)(ho:o.op = .buildSlice 68 1 #[(0,x)])(h1:ρ x = .agg (lsC (k,l)).toArray):(execOp ρ o).run Tryz.prog w = .ok (.value (.slice (some ⟨w.heap.size,0,none⟩) 1 1)) (w.alloc (.cells (lsC (k,l)).toArray 239)):=by
 have h65:=lsC_length (x:=(k,l)) hl
 have key:=fun arr hs=>fold0 (lsC (k,l)) arr hs
 rw[h65] at key
 simp[execOp,ho,h1,go_sem,Result.andThen,h65,key]
theorem row_new (w:World)(k:Nat)(l:List UInt8)(hl:l.length=64):InG (w.alloc (.cells (lsC (k,l)).toArray 239)) (w.alloc (.cells (lsC (k,l)).toArray 239)).heap.size 65 (some ⟨w.heap.size,0,none⟩) 1 1 (lsC (k,l)) :=
 ⟨zG _,by omega,(fun e=>by cases e),by rw[lsC_length hl],lsC_one _,fun _=>⟨w.heap.size,0,rfl,by simp,fun j v hj=>by
  rw[(BlkIs.new w 239 (lsC (k,l)).toArray).cell,qK]
  simpa using hj⟩⟩
end
section
variable {w:World}{ops:Array Oper}{i:Nat}{o:Oper}{a:Act}{Q:Exit->Act->World->Prop}{K:Act->World->Prop}
theorem opApp (ho:ops[i]? = some o)(hgd:o.guard=none){S T:TypeId}{sz by_:Nat}{z:Value}(hT:ElT S T sz by_ z)(s x:Operand)(hc:o.op = .call { callee:=.builtin .append,args:=#[s,x],argTypes:=#[S,S] })
  (base:Nat) (v:Value) (n:Nat) (cs:List Value) (hs:a.eval s=v) (hown:w.ownsRow base T sz v n cs) (B:Nat) (A:Option Addr) (m c:Nat) (cs2:List Value) (hx:a.eval x = .slice A m c) (hin:InG w B sz A m c cs2)
  (hm:n+m<=maxLen) (hbytes:(n+m)*by_<=140737488355328) (hbase:base<=w.heap.size)
  (h:∀v' w',w'.ownsRow base T sz v' (n+m) (cs++cs2)->w.grownBy w' v.ownBlock->K (a.put o.dst v') w'):wpOp Tryz.prog ops Q i K a w:=by
 obtain⟨v',w',hr,h2,h3⟩:=run_appG (w:=w) o.type hT base v n cs hown B A m c cs2 hin hm hbytes hbase
 refine RegF.opV v' ho hgd (w':=w') ?_ (h v' w' h2 h3)
 unfold execOp
 simp only[hc,resolve,invoke,builtin,Sem.run_bind,Sem.run_pure,Result.andThen_ok,zJ,zK,zL,hs,hx,hr]
end
section
variable (w:World)(p many:Nat)(g:Nat->List UInt8)(xs:List (Nat×List UInt8))(left:Int)(stops:Bool)
def wrE (stops:Bool)(left:Int):Int:=if stops && left == 0 then 140 else 0
theorem wr_asks (hD:DkIs w p many g xs left stops)(k:Nat)(hk:k<many)(A:Option Addr)(c:Nat)(w0 w1 w2:World)(s:Nat)(hs:BlkIs w0 s 22 #[.slice A 64 c])(hB0:Below w.heap.size w w0)(hB1:Below w0.heap.size w0 w1)(hB2:Below w1.heap.size w1 w2)
  (b0:BlkIs w1 w0.heap.size 26 #[.pointer (some ⟨p,0,none⟩)]) (b1:BlkIs w1 (w0.heap.size+1) 3 #[.int .i64 (k:Int)]) :
  Calls Tryz.prog 140 #[.pointer (some ⟨p,0,none⟩),.slice (some ⟨w2.heap.size,0,none⟩) 3 3] (w2.alloc (.cells #[.func (.func 185) #[] #[.pointer (some ⟨s,0,none⟩)],.int .i64 2,.func (.func 194) #[] #[.pointer (some ⟨w0.heap.size+1,0,none⟩),.pointer (some ⟨w0.heap.size,0,none⟩)],.int .i64 4,.func (.func 180) #[.pointer (some ⟨p,0,none⟩)] #[],.int .i64 140] 208))
   fun e w'=>e = .returned (.int .i64 (wrE stops left))/\Below w2.heap.size w2 w':=by
 have h1:=hD.grow (hB0.trans ((hB1.trans (hB2.mono hB1.size)).mono hB0.size))
 have h12:=hB1.trans (hB2.mono hB1.size)
 have e3:=asked3_gives w2 p many g xs left stops h1 (askLen s 64) (askThere w0.heap.size (w0.heap.size+1) many k) (askGoes p left stops)
  (ans_len w2 s A 64 c (hs.below h12 hs.lt)) (ans_there w2 p many g xs left stops k _ _ h1 (b0.below hB2 b0.lt) (b1.below hB2 b1.lt)) (ans_goes w2 p many g xs left stops h1)
 have hf:firstE [askLen s 64,askThere w0.heap.size (w0.heap.size+1) many k,askGoes p left stops]=wrE stops left:=by
  have a1:decide ((k:Int)<0)=false:=by simp
  have a2:¬ many<=k:=by omega
  unfold wrE
  cases stops<;>by_cases hl:left=0<;>simp[firstE,askLen,askThere,askGoes,hl,a1,a2]
 rw[hf] at e3
 exact e3
theorem write_stop (hD:DkIs w p many g xs left stops)(hs:(stops && left == 0)=true)(k:Nat)(hk:k<many)(A:Option Addr)(c:Nat) :
  Calls Tryz.prog 145 #[.pointer (some ⟨p,0,none⟩),.int .i64 (k:Int),.slice A 64 c] w fun e w'=>e = .returned (.int .i64 140)/\Below w.heap.size w w':=by
 have hB0:Below w.heap.size w (w.alloc (.cells #[.slice A 64 c] 22)):=(Below.refl _ w).alloc (zG _) _
 have b0:=BlkIs.new w 22 #[.slice A 64 c]
 have HT:=there_gives (w.alloc (.cells #[.slice A 64 c] 22)) p k
 have HA:=fun w1 w2 hB1 hB2 b0' b1'=>wr_asks w p many g xs left stops hD k hk A c (w.alloc (.cells #[.slice A 64 c] 22)) w1 w2 w.heap.size b0 hB0 hB1 hB2 b0' b1'
 have hE:wrE stops left=140:=by unfold wrE;rw[hs];rfl
 rw[hE] at HA
 have hs0:(w.alloc (.cells #[.slice A 64 c] 22)).heap.size=w.heap.size+1:=World.size_alloc _ _
 rw[hs0] at HT
 simp only[hs0] at HA
 have HS0:=Lib.hid hs0
 clear hs hE hs0
 go_enter Tryz.func145,Tryz.ntmps145
 go_wp2_with (first
  | (go_at_call 169;refine HT.mono ?_;rintro e w1 ⟨rfl,s1,s2,hB1⟩)
  | (go_at_call 141;refine(goes_gives w1 p).mono ?_;rintro e w2 ⟨rfl,hB2⟩)
  | (go_at_call 140;refine(HA w1 w2 hB1 hB2 s1 s2).mono ?_;rintro e w3 ⟨rfl,hB3⟩))
 go_ret
 have s0:=hB0.size
 have s1:=HS0.out▸hB1.size
 exact⟨rfl,hB0.trans ((hB1.trans ((hB2.trans (hB3.mono hB2.size)).mono s1)).mono (by omega))⟩
theorem write_ok (hD:DkIs w p many g xs left stops)(hs:(stops && left == 0)=false)(k:Nat)(hk:k<many)(A:Option Addr)(c:Nat)(l:List UInt8)(hl:l.length=64)(hin:InB w w.heap.size A c l)(hx1:xs.length<=1000000)(h1 : -1000000<=left)(h2:left<=9223372036854775807) :
  Calls Tryz.prog 145 #[.pointer (some ⟨p,0,none⟩),.int .i64 (k:Int),.slice A 64 c] w fun e w'=>e = .returned (.int .i64 0)/\DkIs w' p many g (xs++[(k,l)]) (lft stops left) stops/\w.grownBy w' (some p)/\∃b c,w'.cell? ⟨p,2,none⟩=some (.slice (some ⟨b,0,none⟩) (xs.length+1) c)/\w.heap.size<=b:=by
 have hB0:Below w.heap.size w (w.alloc (.cells #[.slice A 64 c] 22)):=(Below.refl _ w).alloc (zG _) _
 have b0:=BlkIs.new w 22 #[.slice A 64 c]
 have HT:=there_gives (w.alloc (.cells #[.slice A 64 c] 22)) p k
 have HA:=fun w1 w2 hB1 hB2 b0' b1'=>wr_asks w p many g xs left stops hD k hk A c (w.alloc (.cells #[.slice A 64 c] 22)) w1 w2 w.heap.size b0 hB0 hB1 hB2 b0' b1'
 have hE:wrE stops left=0:=by unfold wrE;rw[hs];rfl
 rw[hE] at HA
 have hs0:(w.alloc (.cells #[.slice A 64 c] 22)).heap.size=w.heap.size+1:=World.size_alloc _ _
 rw[hs0] at HT
 simp only[hs0] at HA
 have HS0:=Lib.hid hs0
 have HL:=Lib.hid hl
 obtain⟨gb,ob,rfl,hgb,hcb⟩:=hin.lies (by omega)
 clear hs hE hs0 hl
 go_enter Tryz.func145,Tryz.ntmps145
 go_wp2_with (first
  | (go_at_call 169;refine HT.mono ?_;rintro e w1 ⟨rfl,s1,s2,hB1⟩)
  | (go_at_call 141;refine(goes_gives w1 p).mono ?_;rintro e w2 ⟨rfl,hB2⟩)
  | (go_at_call 140;refine(HA w1 w2 hB1 hB2 s1 s2).mono ?_;rintro e w3 ⟨rfl,hB3⟩))
 have z1:w.heap.size+1<=w1.heap.size:=HS0.out▸hB1.size
 have hB13:=hB1.trans ((hB2.trans (hB3.mono hB2.size)).mono z1)
 have hB03:Below w.heap.size w w3:=hB0.trans (hB13.mono (by omega))
 have b3:=b0.below hB13 (Nat.lt_succ_self _)
 have hD3:=hD.grow hB03
 obtain⟨r,A3,c3,hb,hm,hx⟩:=hD3.has
 have k2:w3.cell? ⟨p,2,none⟩=some (.slice A3 xs.length c3):=by rw[hb.cell];rfl
 have k5:w3.cell? ⟨w.heap.size,0,none⟩=some (.slice (some ⟨gb,ob,none⟩) 64 c):=by rw[b3.cell];rfl
 have hp3:=hb.lt
 have hw3:=b3.lt
 have hr3:w3.rangeAt gb ob (l.map b8):=fun j v hj=>by
  have hj2:j<l.length:=by have:=(List.getElem?_eq_some_iff.1 hj).1;simpa using this
  rw[hB03.cell (p:=⟨gb,ob+j,none⟩) hgb,hcb j hj2]
  simpa[hj2,b8] using hj
 have hgb3:gb<w3.heap.size:=zO hgb hB03.size
 have HLD:∀W,Below w3.heap.size w3 W->(Instr.loadAt 227 (.pointer (some ⟨gb,ob,none⟩))).run Tryz.prog W = .ok (.agg (l.map b8).toArray) W:=by
  intro W hW
  obtain⟨d,hu,hd⟩:=rowDSec.desc
  exact run_loadAt_mid (P:=Tryz.prog) W gb ob 227 (l.map b8) d (fun j v hj=>(hW.cell (p:=⟨gb,ob+j,none⟩) hgb3).trans (hr3 j v hj)) hu hd (by rw[rowDSec.size,qD,HL.out])
 have HLV:∀W,Below w3.heap.size w3 W->(loadVar 227 ⟨gb,ob,none⟩).run Tryz.prog W = .ok (.agg (l.map b8).toArray) W:=by
  intro W hW
  obtain⟨d,hu,hd⟩:=rowDSec.desc
  exact run_loadVar_mid (P:=Tryz.prog) W gb ob 227 (l.map b8) d (fun j v hj=>(hW.cell (p:=⟨gb,ob+j,none⟩) hgb3).trans (hr3 j v hj)) hu hd (by rw[rowDSec.size,qD,HL.out])
 have HAR:∀W,(Instr.arrayAt 227 (.slice (some ⟨gb,ob,none⟩) 64 c)).run Tryz.prog W = .ok (.pointer (some ⟨gb,ob,none⟩)) W:=fun W=>by
  simp[Instr.arrayAt,run_underlying Tryz.underlying227,go_sem]
 have HC2:∀W,Below w3.heap.size w3 W->W.cell? ⟨p,2,none⟩=some (.slice A3 xs.length c3):=fun W hW=>(hW.cell (p:=⟨p,2,none⟩) hp3).trans k2
 have HC5:∀W,Below w3.heap.size w3 W->W.cell? ⟨w.heap.size,0,none⟩=some (.slice (some ⟨gb,ob,none⟩) 64 c):=fun W hW=>(hW.cell (p:=⟨w.heap.size,0,none⟩) hw3).trans k5
 have HCL:∀W,Below w3.heap.size w3 W->Calls Tryz.prog 186 #[.slice A3 xs.length c3] W fun e w'=>∃v,e = .returned v/\w'.ownsRow W.heap.size 239 65 v xs.length (flC xs)/\Below W.heap.size W w':=fun W hW=>lclone_gives W A3 c3 xs (hx.grow hW) hx1
 have hBd:Below w3.heap.size w3 w3.drew:=(Below.refl _ w3).drew
 have HBa:∀W cs T,Below w3.heap.size w3 W->Below w3.heap.size w3 (W.alloc (.cells cs T)):=fun W cs T h=>h.alloc h.size _
 clear HT HA hB1 hB2 hB3 hB13 k2 k5
 refine RegF.start (fun W=>Below w3.heap.size w3 W) 15 (by kernel_rfl) ?_
 refine RegF.t 0 (.pointer (some ⟨p,0,none⟩)) rfl hBd (fun W hW=>by go_simp) ?_
 simp only[zD,zB,Act.put,zA,zF,zE]
 refine RegF.t 1 (.pointer (some ⟨p,0,none⟩)) rfl hBd (fun W hW=>by go_simp) ?_
 simp only[zD,zC,zB,Act.put,zA,zF,zE]
 refine RegF.t 2 (.pointer (some ⟨p,0,none⟩)) rfl hBd (fun W hW=>by go_simp) ?_
 simp only[zD,zC,zB,Act.put,zA,zF,zE]
 refine RegF.t 3 (.pointer (some ⟨p,2,none⟩)) rfl hBd (fun W hW=>by go_simp) ?_
 simp only[zD,zC,zB,Act.put,zA,zF,zE]
 refine RegF.t 6 (.int .i64 (k:Int)) rfl hBd (fun W hW=>by go_simp) ?_
 simp only[zD,zC,zB,Act.put,zA,zF,zE]
 refine RegF.t 7 (.slice (some ⟨gb,ob,none⟩) 64 c) rfl hBd (fun W hW=>by have e:=HC5 W hW;go_simp) ?_
 simp only[zD,zC,zB,Act.put,zA,zF,zE]
 refine RegF.t 8 (.pointer (some ⟨gb,ob,none⟩)) rfl hBd (fun W hW=>by have e:=HAR W;go_simp) ?_
 simp only[zD,zC,zB,Act.put,zA,zF,zE]
 refine RegF.t 9 (.agg (l.map b8).toArray) rfl hBd (fun W hW=>x_loadM rowDSec (fun j v hj=>(hW.cell (p:=⟨gb,ob+j,none⟩) hgb3).trans (hr3 j v hj)) (by rw[qD,HL.out]) rfl rfl) ?_
 simp only[zD,zC,zB,Act.put,zA,zF,zE]
 refine RegF.t 10 (.agg (lsC (k,l)).toArray) rfl hBd (fun W hW=>x_buildLs k l rfl rfl rfl HL.out) ?_
 simp only[zD,zC,zB,Act.put,zA,zF,zE]
 refine RegF.t 4 (.slice A3 xs.length c3) rfl hBd (fun W hW=>by have e:=HC2 W hW;go_simp) ?_
 simp only[zD,zC,zB,Act.put,zA,zF,zE]
 refine RegF.two 5 11 (by kernel_rfl) ?_ ?_
 case' refine_1 =>
  refine RegF.opC 186 #[.tmp 24] #[68] rfl rfl rfl (enters_of Tryz.func186 (by kernel_rfl) rfl) #[.slice A3 xs.length c3] (by simp only[zJ,zK,zL];rfl) ((HCL _ hBd).mono ?_)
  rintro e w4 ⟨v4,rfl,own4,hB4⟩
  have hB4w:Below w3.heap.size w3 w4:=hBd.trans (hB4.mono hBd.size)
  refine⟨v4,rfl,fun _=>hB4w,?_⟩
  simp only[zD,zC,zB,Act.put,zA,zF,zE]
  refine RegF.one 11 (by kernel_rfl) ?_
  refine RegF.opV _ rfl rfl (x_sliceLs k l HL.out rfl rfl) ⟨fun _=>HBa _ _ _ hB4w,?_⟩
  simp only[zD,zC,zB,Act.put,zA,zF,zE]
  refine RegF.one 12 (by kernel_rfl) ?_
  refine opApp rfl rfl elLoose (.tmp 25) (.tmp 31) rfl w3.heap.size v4 xs.length (flC xs) rfl (ownG_grow (ownG_base own4 (zG _)) ((Below.refl _ w4).alloc (zG _) _)) _ _ 1 1 (lsC (k,l)) rfl (row_new w4 k l HL.out) (by unfold maxLen;omega) (by omega) (HBa _ _ _ hB4w).size ?_
  intro v5 w5 own5 hg5
  have hB5:Below w3.heap.size w3 w5:=(HBa _ _ _ hB4w).trans (grown_below hg5 (HBa _ _ _ hB4w).size (ownG_ge (ownG_base own4 (zG _))))
  refine⟨fun _=>hB5,?_⟩
  simp only[zD,zC,zB,Act.put,zA,zF,zE]
  clear hg5 own4 hB4 hB4w
 case' refine_2 =>
  refine RegF.opV _ rfl rfl (x_sliceLs k l HL.out rfl rfl) ⟨fun _=>HBa _ _ _ hBd,?_⟩
  simp only[zD,zC,zB,Act.put,zA,zF,zE]
  refine RegF.one 5 (by kernel_rfl) ?_
  refine RegF.opC 186 #[.tmp 24] #[68] rfl rfl rfl (enters_of Tryz.func186 (by kernel_rfl) rfl) #[.slice A3 xs.length c3] (by simp only[zJ,zK,zL];rfl) ((HCL _ (HBa _ _ _ hBd)).mono ?_)
  rintro e w4 ⟨v4,rfl,own4,hB4⟩
  have hB4w:Below w3.heap.size w3 w4:=(HBa _ _ _ hBd).trans (hB4.mono (HBa _ _ _ hBd).size)
  refine⟨v4,rfl,fun _=>hB4w,?_⟩
  simp only[zD,zC,zB,Act.put,zA,zF,zE]
  refine RegF.one 12 (by kernel_rfl) ?_
  refine opApp rfl rfl elLoose (.tmp 25) (.tmp 31) rfl w3.heap.size v4 xs.length (flC xs) rfl (ownG_base own4 (HBa _ _ _ hBd).size) _ _ 1 1 (lsC (k,l)) rfl ((row_new w3.drew k l HL.out).grow hB4) (by unfold maxLen;omega) (by omega) hB4w.size ?_
  intro v5 w5 own5 hg5
  have hB5:Below w3.heap.size w3 w5:=hB4w.trans (grown_below hg5 hB4w.size (ownG_ge (ownG_base own4 (HBa _ _ _ hBd).size)))
  refine⟨fun _=>hB5,?_⟩
  simp only[zD,zC,zB,Act.put,zA,zF,zE]
  clear hg5 own4 hB4 hB4w
 all_goals
  have hb5:=hb.below hB5 hp3
  have c5:w5.cell? ⟨p,2,none⟩=some (.slice A3 xs.length c3):=HC2 _ hB5
  have f5:=hb5.free 2
  have own6:(w5.setCell ⟨p,2,none⟩ v5).ownsRow w3.heap.size 239 65 v5 (xs.length+1) (flC xs++lsC (k,l)):=ownG_later own5 fun r hr=>Below.heap_setCell w5 ⟨p,2,none⟩ v5 r (fun e=>by have:=ownG_ge own5 r hr;simp at e;omega)
  obtain⟨A5,cc5,rfl,hin5⟩:=ownG_in own6 (fun v hv=>by rcases List.mem_append.1 hv with h|h;exact flC_one _ v h;exact lsC_one _ v h)
  refine RegF.one 13 (by kernel_rfl) ?_
  refine RegF.opV (.pointer (some ⟨p,0,none⟩)) rfl rfl (by go_simp) ⟨fun _=>hB5,?_⟩
  simp only[zD,zC,zB,Act.put,zA,zF,zE]
  refine RegF.one 14 (by kernel_rfl) ?_
  refine RegF.opV (.pointer (some ⟨p,2,none⟩)) rfl rfl (by go_simp) ⟨fun _=>hB5,?_⟩
  simp only[zD,zC,zB,Act.put,zA,zF,zE]
  refine RegF.one 15 (by kernel_rfl) ?_
  refine RegF.opS (w':=w5.setCell ⟨p,2,none⟩ (.slice A5 (xs.length+1) cc5)) rfl rfl (by go_simp) ⟨fun h=>absurd rfl h,?_⟩
  simp only[zD,zC,zB,Act.put]
  refine RegF.done (by kernel_rfl) ?_
  have hwx:Wide (xs++[(k,l)]):=fun x hx'=>by
   rcases List.mem_append.1 hx' with h|h
   ·exact hx.1 x h
   ·obtain rfl:x=(k,l):=by simpa using h
    exact HL.out
  have hfl:flC (xs++[(k,l)])=flC xs++lsC (k,l):=by rw[flC_append];simp[flC]
  have hln:(xs++[(k,l)]).length=xs.length+1:=by simp
  have hD6:DkIs (w5.setCell ⟨p,2,none⟩ (.slice A5 (xs.length+1) cc5)) p many g (xs++[(k,l)]) left stops:=by
   refine⟨r,A5,cc5,?_,(hm.grow hB5).setCell _ _,hwx,?_⟩
   ·rw[hln]
    exact hb5.set 2 _
   ·rw[hln,hfl]
    exact hin5
  have hg6:w.grownBy (w5.setCell ⟨p,2,none⟩ (.slice A5 (xs.length+1) cc5)) (some p):=grownBy_trans (below_grownBy (hB03.trans (hB5.mono hB03.size)) p) (setCell_grownBy w5 ⟨p,2,none⟩ _)
  obtain⟨g9,h9,hg9⟩:∃g9,A5=some ⟨g9,0,none⟩/\w.heap.size<=g9:=by
   rcases own6.2 with⟨_,e⟩|⟨g9,cap,cur,e,hb9,_⟩
   ·omega
   ·injection e with e1
    exact⟨g9,e1,zP hB03.size hb9⟩
  have hc6:(w5.setCell ⟨p,2,none⟩ (.slice A5 (xs.length+1) cc5)).cell? ⟨p,2,none⟩=some (.slice (some ⟨g9,0,none⟩) (xs.length+1) cc5):=by rw[<-h9];exact World.cell?_setCell_same _ _ _ c5
  clear own5 own6 hin5 hb5 c5 f5 hB5 HC2 HC5 HLD HLV HAR HCL HBa hwx hfl hln
  generalize w5.setCell ⟨p,2,none⟩ (.slice A5 (xs.length+1) cc5)=w6 at *
  go_wp2_with (go_at_call 143;refine(done_gives _ p many _ _ left stops hD6 h1 h2).mono ?_;rintro e w7 ⟨⟨v,rfl⟩,hD7,hg7,hc7⟩)
  go_ret
  exact⟨rfl,hD7,grownBy_trans hg6 hg7,g9,cc5,hc7.trans hc6,hg9⟩
end
section
variable (w:World)(p many:Nat)(g:Nat->List UInt8)(xs:List (Nat×List UInt8))(left:Int)(stops:Bool)
end

section
variable (w:World)(p many:Nat)(g:Nat->List UInt8)(xs:List (Nat×List UInt8))(left:Int)(stops:Bool)
end
def prC (x:UInt8×UInt8):List Value:=[b8 x.1,b8 x.2]
def fpC (ls:List (UInt8×UInt8)):List Value:=(ls.map prC).flatten
theorem fpC_at:∀(ls:List (UInt8×UInt8)) (j:Nat) (h:j<ls.length),(fpC ls)[j*2]? = some (b8 ls[j].1)/\(fpC ls)[j*2+1]? = some (b8 ls[j].2)
 | x::ls,0,_=>⟨rfl,rfl⟩
 | x::ls,j+1,h=>by
  have e:fpC (x::ls)=b8 x.1::b8 x.2::fpC ls:=rfl
  have:=fpC_at ls j (by simpa using h)
  rw[e,show (j+1)*2=(j*2+1)+1 from by omega,List.getElem?_cons_succ,List.getElem?_cons_succ,List.getElem?_cons_succ]
  exact this
def InP (w:World)(B:Nat)(A:Option Addr)(c:Nat)(ls:List (UInt8×UInt8)):Prop:=InG w B 2 A ls.length c (fpC ls)
theorem InP.lies {w:World}{B:Nat}{A:Option Addr}{c:Nat}{ls:List (UInt8×UInt8)}(h:InP w B A c ls)(h0:0<ls.length):∃g o,A=some ⟨g,o,none⟩/\g<B/\∀j,(hj:j<ls.length)->w.cell? ⟨g,o+j*2,none⟩=some (.int .u8 (ls[j].1.toNat:Int))/\w.cell? ⟨g,o+j*2+1,none⟩=some (.int .u8 (ls[j].2.toNat:Int)):=by
 obtain⟨g,o,e,hg,hr⟩:=InG.lies h h0
 refine⟨g,o,e,hg,fun j hj => ?_⟩
 obtain⟨h1,h2⟩:=fpC_at ls j hj
 exact⟨hr _ _ h1,hr _ _ h2⟩

section
variable {w:World}{ops:Array Oper}{i:Nat}{o:Oper}{a:Act}{Q:Exit->Act->World->Prop}{K:Act->World->Prop}
end

def relL (stops:Bool)(left:Int):Int:=if stops then left else -1
theorem relL_stopped (stops:Bool)(left:Int):(stops && left == 0)=decide (relL stops left=0):=by
 cases stops
 ·rfl
 ·by_cases h:left=0<;>simp[relL,h]
section
variable (w:World)(p many:Nat)(g:Nat->List UInt8)(xs:List (Nat×List UInt8))(left:Int)(stops:Bool)
theorem sync_bad (hD:DkIs w p many g xs left stops)(hs:relL stops left=0) :
  Calls Tryz.prog 96 #[.pointer (some ⟨p,0,none⟩)] w fun e w'=>e = .returned (.int .i64 140)/\Below w.heap.size w w':=by
 have hs2:(stops && left == 0)=true:=by rw[relL_stopped];exact decide_eq_true hs
 have HG:=goes_gives w p
 have HA:∀W,Below w.heap.size w W->Calls Tryz.prog 140 #[.pointer (some ⟨p,0,none⟩),.slice (some ⟨W.heap.size,0,none⟩) 1 1] (W.alloc (.cells #[.func (.func 180) #[.pointer (some ⟨p,0,none⟩)] #[],.int .i64 140] 208)) fun e w'=>e = .returned (.int .i64 140)/\Below W.heap.size W w':=by
  intro W hB
  have:=asked1_gives W p many g xs left stops (hD.grow hB) (askGoes p left stops) (ans_goes W p many g xs left stops (hD.grow hB))
  have hf:firstE [askGoes p left stops]=140:=by simp only[firstE,askGoes,hs2];rfl
  rw[hf] at this
  exact this
 clear hs hs2
 go_enter Tryz.func96,Tryz.ntmps96
 go_wp2_with (first
  | (go_at_call 141;refine HG.mono ?_;rintro e w1 ⟨rfl,hB1⟩)
  | (go_at_call 140;refine(HA _ hB1).mono ?_;rintro e w2 ⟨rfl,hB2⟩))
 go_ret
 exact⟨rfl,hB1.trans (hB2.mono hB1.size)⟩
theorem len_gives (h:DkIs w p many g xs left stops):Calls Tryz.prog 58 #[.pointer (some ⟨p,0,none⟩)] w fun e w'=>e = .returned (.int .i64 (many:Int))/\w=w':=by
 have HN:=none_gives w p many g xs left stops h
 obtain⟨r,A,c,hb,hm,hx⟩:=h.has
 have c1:w.cell? ⟨p,1,none⟩=some (.int .i64 (many:Int)):=by rw[hb.cell];rfl
 go_enter Tryz.func58,Tryz.ntmps58
 go_wp2_with (go_at_call 90;refine HN.mono ?_;rintro e w' ⟨rfl,rfl⟩)
 go_ret
 exact⟨rfl,rfl⟩
end
end Go.Proofs.YtnlimngkagmjpaaGreat
namespace Go.Proofs.YtnlimngkagmjpaaGreat
open Go Go.RowKit Go.Shelf
attribute [local go_sem] Oper.semAt_some
def AbNew {β : Type}(B:Nat)(I : β -> World->Prop):Prop:=∀s X Y row,I s X->X.grownBy Y row->(∀r,row=some r->B<=r)->I s Y
theorem AbNew.alloc {β : Type}{B:Nat}{I : β -> World->Prop}(h:AbNew B I){s : β}{X:World}(o:Obj)(hs:I s X):I s (X.alloc o) :=
 h s X _ none hs ⟨rfl,rfl,rfl,by simp,fun k hk _=>Below.heap_alloc X o k hk⟩ (fun r e=>by cases e)
theorem AbNew.putObj {β : Type}{B:Nat}{I : β -> World->Prop}(h:AbNew B I){s : β}{X:World}{l:Nat}(o:Obj)(hs:I s X)(hl:B<=l):I s (X.putObj l o):=h s X _ (some l) hs (grownBy_putObj' X l o) (fun r e=>by cases e;exact hl)
theorem AbNew.grow {β : Type}{B:Nat}{I : β -> World->Prop}(h:AbNew B I){s : β}{X Y:World}(hs:I s X)(hg:Below X.heap.size X Y):I s Y:=h s X Y none hs ⟨hg.os,hg.tape,hg.output,hg.size,fun k hk _=>hg.block k hk⟩ (fun r e=>by cases e)
def KeepOut (Mu:Nat->Prop)(B:Nat)(W W':World):Prop:=W.heap.size<=W'.heap.size/\∀k o,W.heap[k]? = some o->(k<B->¬ Mu k)->W'.heap[k]? = some o
theorem KeepOut.refl (Mu:Nat->Prop)(B:Nat)(W:World):KeepOut Mu B W W:=⟨zG _,fun _ _ h _=>h⟩
theorem KeepOut.trans {Mu:Nat->Prop}{B:Nat}{X Y Z:World}(h:KeepOut Mu B X Y)(k:KeepOut Mu B Y Z):KeepOut Mu B X Z:=⟨zP h.1 k.1,fun i o hi hm=>k.2 i o (h.2 i o hi hm) hm⟩
theorem KeepOut.any {Mu:Nat->Prop}{B:Nat}{X Y:World}(h:KeepOut Mu B X Y):KeepOut (fun _=>True) B X Y:=⟨h.1,fun k o hk hm=>h.2 k o hk (fun hb=>absurd trivial (hm hb))⟩
theorem KeepOut.grow (Mu:Nat->Prop)(B:Nat){X Y:World}(h:Below X.heap.size X Y):KeepOut Mu B X Y:=⟨h.size,fun k o hk _=>(h.block k (zH.1 hk).1).trans hk⟩
theorem KeepOut.setCell {Mu:Nat->Prop}{B:Nat}(X:World)(p:Addr)(v:Value)(hp:p.block<B)(hm:Mu p.block):KeepOut Mu B X (X.setCell p v) :=
 ⟨by simp,fun k o hk hn=>(Below.heap_setCell X p v k (fun e=>hn (by rw[e];exact hp) (by rw[e];exact hm))).trans hk⟩
theorem KeepOut.cell {Mu:Nat->Prop}{B:Nat}{X Y:World}(h:KeepOut Mu B X Y){p:Addr}{v:Value}(hc:X.cell? p=some v)(hm:p.block<B->¬ Mu p.block):Y.cell? p=some v:=by
 have hb:∃o,X.heap[p.block]? = some o:=by
  cases ho:X.heap[p.block]? with
  | none=>simp[World.cell?,ho] at hc
  | some o=>exact⟨o,rfl⟩
 obtain⟨o,ho⟩:=hb
 rw[World.cell?_of_block ((h.2 _ o ho hm).trans ho.symm)]
 exact hc
theorem KeepOut.blk {Mu:Nat->Prop}{B:Nat}{X Y:World}(h:KeepOut Mu B X Y){g:Nat}{t:TypeId}{cs:Array Value}(hb:BlkIs X g t cs)(hm:g<B->¬ Mu g):BlkIs Y g t cs:=h.2 _ _ hb hm
def SeqR {α : Type}(F:Fence)(n:Nat)(P:Program)(g:Nat)(lb:Array Value)(encs : α -> Array Value)(Mu:Nat->Prop)(Rd:List α -> α -> World->Prop)(S Sp:List α -> Prop)(w:World):Prop :=
 ∀(l:Nat) (J Jx:List α -> World->Prop) (W:World),Below w.heap.size w W->AbNew W.heap.size J->AbNew W.heap.size Jx ->
  (∀pre x W1,J pre W1->Rd pre x W1->YieldAt F (n - 1) P l (encs x) W1 fun e W' =>
   (e = .returned (.bool true)/\J (pre++[x]) W'/\KeepOut Mu W.heap.size W1 W')∨(e = .returned (.bool false)/\Jx (pre++[x]) W'/\KeepOut (fun _=>True) W.heap.size W1 W')) ->
  J [] W ->
  CallsIn F n P g (#[.func (.yield l) #[] #[]] ++ lb) W fun e W'=>(∃v,e = .returned v)/\((∃xs,S xs/\J xs W')∨(∃pre,Sp pre/\Jx pre W'))
def postR {α : Type}(Mu:Nat->Prop)(B:Nat)(I:List α -> World->Prop)(Ix:Code->List α -> World->Prop)(xs:List α)(W:World):Exit->Act->World->Prop
 | .normal,_,W'=>KeepOut Mu B W W'/\I xs W'
 | .ret,_,W'=>KeepOut (fun _=>True) B W W'/\Ix .ret xs W'
 | .exit id,_,W'=>KeepOut (fun _=>True) B W W'/\Ix (.exit id) xs W'
 | .goto t,_,W'=>KeepOut (fun _=>True) B W W'/\Ix (.goto t) xs W'
 | .panic _,_,_=>False
 | .outgrown,_,_=>False
section
variable {F:Fence}{n:Nat}{P:Program}{w:World}
theorem wpIn_rangeFunc_R {α : Type}{g:Operand}{ps:Array Tmp}{assign body:Code}{Q:Exit->Act->World->Prop}{a:Act}
  (hro:F.round=none) (h1:1<=n) {gf:Nat} {lb:Array Value} (hg:a.eval g = .func (.func gf) #[] lb) (hFg:F.fn gf) (eg:∀args w,(callFunc gf args).run P w = .ok (.enter gf args) w)
  {encs : α -> Array Value} {Mu:Nat->Prop} {Rd:List α -> α -> World->Prop} {S Sp:List α -> Prop} {w0:World} (hseq:SeqR F (n - 1) P gf lb encs Mu Rd S Sp w0)
  (hb0:Below w0.heap.size w0 w) (hps:∀x,(encs x).size=ps.size)
  (I:List α -> World->Prop) (Ix:Code->List α -> World->Prop) (hI:AbNew w.heap.size I) (hIx:∀c,AbNew w.heap.size (Ix c)) (hRd:∀pre x,OwnFrom w.heap.size (fun (_:Unit) W=>Rd pre x W)) (h0:I [] w) (a₁ : α -> Act)
  (hassign:∀(l:Nat) (x : α) (W:World) (K:Act->World->Prop),K (a₁ x) W ->
   assign.wpIn (F.inRound l) (n - 1 - 1) P (Exit.then K (fun _ _ _=>False)) { tmps:=(ps.zip (encs x)).foldl (fun t (p,v)=>t.setIfInBounds p v) a.tmps,defers:=[] } W)
  (hbody:∀(l:Nat) (pre:List α) (x : α) (W:World),I pre W->Rd pre x W->body.wpIn (F.inRound l) (n - 1 - 1) P (postR Mu w.heap.size I Ix (pre++[x]) W) (a₁ x) W)
  (hdone:∀(D:Nat) (xs:List α) (W:World),w.heap.size<=D->S xs->I xs W->W.heap[D]? = some (.deferred (some []))->Q .normal { a with defers:={ target:=.collected D,args:=#[] }::a.defers } W)
  (hstop:∀(D:Nat) (c:Code) (pre:List α) (W:World),w.heap.size<=D->Sp pre->Ix c pre W->W.heap[D]? = some (.deferred (some []))->c.wpIn F n P Q { a with defers:={ target:=.collected D,args:=#[] }::a.defers } W) :
  (Code.rangeFunc g ps assign body).wpIn F n P Q a w:=by
 refine wpIn_rangeFunc fun fn hfn => ?_
 rw[hro]
 -- the loop's record, and the world that bears it and the block for deferred calls
 obtain⟨rec,hrec⟩:∃rec:LoopState->Option Code->Loop,rec=fun st pe => { state:=st,pending:=pe,fn,tmps:=a.tmps,params:=ps,assign,body,defers:=w.heap.size }:=⟨_,rfl⟩
 obtain⟨V,hV⟩:∃V,(w.alloc (.deferred (some []))).alloc (.loop (rec .ready none))=V:=⟨_,rfl⟩
 have vL:V.heap[w.heap.size+1]? = some (.loop (rec .ready none)):=by
  subst hV
  have:=World.alloc_heap_new (w.alloc (.deferred (some []))) (.loop (rec .ready none))
  rwa [World.size_alloc] at this
 have vD:V.heap[w.heap.size]? = some (.deferred (some [])):=by
  subst hV
  exact(Below.heap_alloc _ _ _ (by simp)).trans (World.alloc_heap_new w _)
 have vI:I [] V:=by subst hV;exact hI.alloc _ (hI.alloc _ h0)
 have vS:V.heap.size=w.heap.size+2:=by subst hV;simp
 have vB:Below w0.heap.size w0 V:=by
  subst hV
  exact hb0.trans ((((Below.refl _ w).alloc (zG _) _).alloc (by simp) _).mono hb0.size)
 refine⟨w.heap.size+1,[{ target:=.collected w.heap.size,args:=#[] }],V,{ target:=.fn (.func gf) lb,args:=#[.func (.yield (w.heap.size+1)) #[] #[]] },V,gf,#[.func (.yield (w.heap.size+1)) #[] #[]] ++ lb,V,?_,?_,?_,?_,fun _=>h1,?_⟩
 ·rw[<-hV,hrec];exact run_enterLoop_outer _ _ _ _ _
 ·simp only[resolve,hg]
  simp[go_sem]
 ·intro f' hf'
  simp[Target.leads] at hf'
  subst hf'
  exact hFg
 ·simp[invoke,go_sem,eg]
 have apart:∀{A B:World} {row:Option Nat} {k:Nat} {o:Obj},A.heap[k]? = some o->A.grownBy B row->(∀r,row=some r->V.heap.size<=r)->k<V.heap.size->B.heap[k]? = some o:=fun hk hg hr hlt =>
  (hg.block _ (zH.1 hk).1 (fun e=>by have:=hr _ e.symm;omega)).trans hk
 refine(hseq (w.heap.size+1)
  (fun pre W=>I pre W/\W.heap[w.heap.size+1]? = some (.loop (rec .ready none))/\W.heap[w.heap.size]? = some (.deferred (some [])))
  (fun pre W=>∃c,Ix c pre W/\W.heap[w.heap.size+1]? = some (.loop (rec .done (some c)))/\W.heap[w.heap.size]? = some (.deferred (some [])))
  V vB
  (fun s A B row hs hg' hr=>⟨hI s A B row hs.1 hg' (fun r e=>by have:=hr r e;omega),apart hs.2.1 hg' hr (by omega),apart hs.2.2 hg' hr (by omega)⟩)
  (fun s A B row hs hg' hr=>by
   obtain⟨c,hc,hl,hk⟩:=hs
   exact⟨c,hIx c s A B row hc hg' (fun r e=>by have:=hr r e;omega),apart hl hg' hr (by omega),apart hk hg' hr (by omega)⟩)
  ?round ⟨vI,vL,vD⟩).mono ?behind
 case round =>
  rintro pre x W ⟨hi,hl,hk⟩ hrd
  have hlt:w.heap.size+1<W.heap.size:=(zH.1 hl).1
  have hy:=run_yield (P:=P) (args:=encs x) hl (by rw[hrec];exact hps x)
  rw[hrec] at hy
  refine⟨fn,_,assign,body,hy,roundIn_of_wpIn hfn (hassign _ x W _ ⟨_,run_beginRound hl (by rw[hrec]),?_⟩)⟩
  clear hy
  have bL:(W.putObj (w.heap.size+1) (.loop { rec .ready none with state:=.busy })).heap[w.heap.size+1]? = some (.loop { rec .ready none with state:=.busy }):=World.putObj_heap_same hlt
  have bD:(W.putObj (w.heap.size+1) (.loop { rec .ready none with state:=.busy })).heap[w.heap.size]? = some (.deferred (some [])):=(World.putObj_heap_other (by omega)).trans hk
  refine wpIn_mono (hbody _ pre x _ (hI.putObj _ hi (by omega)) ((hRd pre x).putObj (s:=()) _ hrd (by omega) hl rfl)) ?_
  -- the round's end
  have fin:∀(jump:Option Code) (U:World),KeepOut (fun _=>True) w.heap.size (W.putObj (w.heap.size+1) (.loop { rec .ready none with state:=.busy })) U ->
    (Instr.endRound (w.heap.size+1) jump).run P U = .ok (.bool jump.isNone) (U.putObj (w.heap.size+1) (.loop (rec (if jump.isNone then .ready else .done) jump))) /\
    U.heap[w.heap.size+1]? = some (.loop { rec .ready none with state:=.busy }) /\
    (U.putObj (w.heap.size+1) (.loop (rec (if jump.isNone then .ready else .done) jump))).heap[w.heap.size+1]? = some (.loop (rec (if jump.isNone then .ready else .done) jump)) /\
    (U.putObj (w.heap.size+1) (.loop (rec (if jump.isNone then .ready else .done) jump))).heap[w.heap.size]? = some (.deferred (some [])):=fun jump U hkU=>by
   have uL:=hkU.2 _ _ bL (fun h=>by omega)
   have:=run_endRound (P:=P) jump uL
   rw[hrec] at this ⊢
   exact⟨this,by rw[hrec] at uL;exact uL,World.putObj_heap_same (zH.1 uL).1,(World.putObj_heap_other (by omega)).trans (hkU.2 _ _ bD (fun h=>by omega))⟩
  have out:∀(c:Code) (U:World),KeepOut (fun _=>True) w.heap.size (W.putObj (w.heap.size+1) (.loop { rec .ready none with state:=.busy })) U->Ix c (pre++[x]) U ->
    (∃c',Ix c' (pre++[x]) (U.putObj (w.heap.size+1) (.loop (rec .done (some c))))/\(U.putObj (w.heap.size+1) (.loop (rec .done (some c)))).heap[w.heap.size+1]? = some (.loop (rec .done (some c')))/\(U.putObj (w.heap.size+1) (.loop (rec .done (some c)))).heap[w.heap.size]? = some (.deferred (some [])))/\KeepOut (fun _=>True) V.heap.size W (U.putObj (w.heap.size+1) (.loop (rec .done (some c)))):=fun c U hkU hix=>by
   obtain⟨_,h3,h4,h5⟩:=fin (some c) U hkU
   refine⟨⟨c,(hIx c).putObj _ hix (by omega),h4,h5⟩,by have:=hkU.1;simpa using this,fun k o hk hm => ?_⟩
   have hkl:k≠w.heap.size+1:=fun e=>hm (by omega) trivial
   rw[World.putObj_heap_other hkl]
   exact hkU.2 k o (by rw[World.putObj_heap_other hkl];exact hk) (fun h=>hm (by omega))
  rintro e a3 U hp
  cases e with
  | normal =>
   obtain⟨hk3,hi3⟩:=hp
   obtain⟨hr,h3,h4,h5⟩:=fin none U hk3.any
   refine⟨_,_,hr,.inl ⟨rfl,⟨hI.putObj _ hi3 (by omega),h4,h5⟩,by have:=hk3.1;simpa using this,fun k o hk hm => ?_⟩⟩
   by_cases hkl:k=w.heap.size+1
   ·subst hkl
    rw[hl] at hk
    rw[<-hk]
    exact h4
   ·rw[World.putObj_heap_other hkl]
    exact hk3.2 k o (by rw[World.putObj_heap_other hkl];exact hk) (fun h=>hm (by omega))
  | ret=>exact⟨_,_,(fin (some .ret) U hp.1).1,.inr ⟨rfl,out .ret U hp.1 hp.2⟩⟩
  | exit id=>exact⟨_,_,(fin (some (.exit id)) U hp.1).1,.inr ⟨rfl,out (.exit id) U hp.1 hp.2⟩⟩
  | goto t=>exact⟨_,_,(fin (some (.goto t)) U hp.1).1,.inr ⟨rfl,out (.goto t) U hp.1 hp.2⟩⟩
  | panic ch=>exact hp.elim
  | outgrown=>exact hp.elim
 case behind =>
  rintro e U ⟨⟨v,rfl⟩,(⟨xs,hS,hi,hl,hk⟩|⟨pre,hSp,c,hi,hl,hk⟩)⟩
  ·have hr:=run_endLoop (P:=P) hl (by rw[hrec];simp)
   rw[hrec] at hr
   exact⟨none,_,hr,hdone _ xs _ (zG _) hS (hI.putObj _ hi (by omega)) ((World.putObj_heap_other (by omega)).trans hk)⟩
  ·have hr:=run_endLoop (P:=P) hl (by rw[hrec];simp)
   rw[hrec] at hr
   exact⟨some c,_,hr,hstop _ c pre _ (zG _) hSp ((hIx c).putObj _ hi (by omega)) ((World.putObj_heap_other (by omega)).trans hk)⟩
end
theorem InB.ownFrom {B:Nat}(A:Option Addr)(c:Nat)(l:List UInt8):OwnFrom B (fun (_:Unit) W=>InB W W.heap.size A c l):=fun _ X Y row hs hg hr =>
 ⟨hs.le,hs.max,hs.nil,fun hl=>by
  obtain⟨g,o,hA,hgb,hc⟩:=hs.lies hl
  exact⟨g,o,hA,zO hgb hg.size,fun j hj=>cell_kept (hc j hj) hg (fun r e=>(hr r e).2)⟩⟩
end Go.Proofs.YtnlimngkagmjpaaGreat
namespace Lou
inductive Run (l:List UInt8):List (Nat×Nat)->Nat->Prop
 | nil:Run l [] 0
 | snoc {pre:List (Nat×Nat)} {p v u:Nat}:Run l pre p->rd (l.drop p)=some (v,u)->Run l (pre++[(p,v)]) (p+u)
theorem Run.le {l:List UInt8}{pre:List (Nat×Nat)}{p:Nat}(h:Run l pre p):pre.length<=p/\p<=l.length:=by
 induction h with
 | nil=>simp
 | snoc _ hr ih =>
  have:=rd_bound hr
  simp at this ⊢
  omega
end Lou
namespace Go.Proofs.YtnlimngkagmjpaaGreat
open Go Go.RowKit Lou Go.Shelf
attribute [local go_sem] Oper.semAt_some
theorem wrap_i64_id' (n:Int)(h0 : -9223372036854775808<=n)(h1:n<9223372036854775808):IntKind.i64.wrap n=n:=by
 simp[IntKind.wrap,IntKind.bits,IntKind.signed]
 split<;>omega
theorem wpIn_scope_wide {P:Program}{n:Nat}{c:Code}{Q:Exit->Act->World->Prop}{a:Act}{w:World}(h:c.wpIn Fence.wide n P (Exit.noGoto Q) a w):(Code.scope c).wpIn Fence.wide n P Q a w:=wpIn_wide.2 (wp_scope_straight (wpIn_wide.1 h))
section
variable {w0:World}{n₀:Nat}
end
end Go.Proofs.YtnlimngkagmjpaaGreat
namespace Go.Proofs.YtnlimngkagmjpaaGreat
open Go Go.RowKit Lou Go.Shelf
attribute [local go_sem] Oper.semAt_some
def chLen (L k:Nat):Nat:=min 64 (L - 64*k)
def chAll (L:Nat):Nat:=(L+63) / 64
def Keep2 (Bs Bn:Nat)(W W':World):Prop:=W'.cell? ⟨Bs,0,none⟩=W.cell? ⟨Bs,0,none⟩/\W'.cell? ⟨Bn,0,none⟩=W.cell? ⟨Bn,0,none⟩
theorem chunk_in (n:Nat)(A:Option Addr)(len cap:Nat)(w:World) :
  CallsIn Fence.wide n Tryz.prog 184 #[.slice A len cap,.int .i64 64] w fun e w'=>e = .returned (.func (.func 214) #[] #[.pointer (some ⟨w.heap.size,0,none⟩),.pointer (some ⟨w.heap.size+1,0,none⟩)])/\(w.alloc (.cells #[.slice A len cap] 22)).alloc (.cells #[.int .i64 64] 3)=w':=by
 refine callsIn_of_wp Tryz.func184 rfl trivial ?_ rfl
 simp only[Tryz.ntmps184,zS,zN,qB,qH,qI,zU,zV,zZ,zX,zQ,zW]
 gi_wp2
 go_ret
 exact⟨rfl,rfl⟩
theorem cut_gives (w:World)(A:Option Addr)(c:Nat)(b:List UInt8)(h:InB w w.heap.size A c b)(hl:b.length<=1000000) :
  Calls Tryz.prog 144 #[.slice A b.length c] w fun e w'=>∃g A2 c2,e = .returned (.func (.func 183) #[] #[.pointer (some ⟨g,0,none⟩)])/\BlkIs w' g 22 #[.slice A2 b.length c2]/\InB w' w'.heap.size A2 c2 b/\Below w.heap.size w w':=by
 go_enter Tryz.func144,Tryz.ntmps144
 go_wp2_with (go_at_call 67;refine(clone_gives w A c b h (by omega)).mono ?_;rintro x w1 ⟨v,rfl,own,hB⟩;obtain⟨A2,c2,rfl,hin⟩:=own.inB)
 go_ret
 have ha:=(Below.refl w1.heap.size w1).alloc (zG _) (.cells #[.slice A2 b.length c2] 22)
 exact⟨_,A2,c2,rfl,BlkIs.new _ _ _,(hin.below ha).more ha.size,hB.trans (ha.mono hB.size)⟩
def chunkB (b:List UInt8)(k:Nat):List UInt8:=(b.drop (64*k)).take 64
theorem chunkB_length (b:List UInt8)(k:Nat):(chunkB b k).length=chLen b.length k:=by simp[chunkB,chLen]
theorem BlkIs.abNew {B g:Nat}{t:TypeId}{cs:Array Value}(hg:g<B){W W':World}{row:Option Nat}(h:BlkIs W g t cs)(hgr:W.grownBy W' row)(hr:∀r,row=some r->B<=r):BlkIs W' g t cs :=
 h.grown hgr (fun e=>by have:=hr g e.symm;omega)
theorem below_abNew {B n₀:Nat}{w:World}(hB:n₀<=B){W W':World}{row:Option Nat}(hw:n₀<=W.heap.size)(h:Below n₀ w W)(hgr:W.grownBy W' row)(hr:∀r,row=some r->B<=r):Below n₀ w W' :=
 h.trans (grown_below hgr hw (fun r e=>zP hB (hr r e)))
theorem RoundIn.anyRound {n m l l':Nat}{P:Program}{f:FuncId}{tmps:Array Value}{assign body:Code}{w:World}{R:Ending->World->Prop}(h:RoundIn Fence.wide n P l f tmps assign body w R):RoundIn (Fence.wide.inRound l') m P l f tmps assign body w R :=
 ⟨h.1,fun c cs _=>h.2 c cs (room_wide _)⟩
theorem chunk_inB {W:World}{B g o c k:Nat}{b:List UInt8}(h:InB W B (some ⟨g,o,none⟩) c b)(hk:64*k<b.length):InB W B (some ⟨g,o+64*k,none⟩) (chLen b.length k) (chunkB b k):=by
 have hl:=chunkB_length b k
 refine⟨by omega,by unfold chLen;omega,(fun h=>by cases h),fun _ => ?_⟩
 obtain⟨g',o',e,hg,hc⟩:=h.lies (by omega)
 injection e with e
 injection e with e1 e2
 subst e1 e2
 refine⟨g,o+64*k,rfl,hg,fun j hj => ?_⟩
 have hj2:64*k+j<b.length:=by rw[hl] at hj;unfold chLen at hj;omega
 have:=hc (64*k+j) hj2
 rw[Nat.add_assoc,this]
 simp[chunkB]
theorem KeepOut.inB2 {Mu Nu:Nat->Prop}{B n₀:Nat}{X Y:World}(h:KeepOut Mu B X Y){A:Option Addr}{c:Nat}{l:List UInt8}(hb:InB X n₀ A c l)(hm:0<l.length->∀g o,A=some ⟨g,o,none⟩->¬ Nu g)(hs:∀g,g<n₀->g<B->¬ Nu g->¬ Mu g:=by first|exact fun g _ _ h=>h|(intro g h1 h2 h3;simp only at *;omega)):InB Y n₀ A c l :=
 ⟨hb.le,hb.max,hb.nil,fun hl=>by
  obtain⟨g,o,e,hg,hc⟩:=hb.lies hl
  exact⟨g,o,e,hg,fun j hj=>h.cell (hc j hj) (fun hB=>hs g hg hB (hm hl g o e))⟩⟩
theorem yield_out {e:Ending}{p q:Prop}(h:(e = .returned (.bool true)/\p)∨(e = .returned (.bool false)/\q)):∃r,e = .returned (.bool r)/\((r=true/\p)∨(r=false/\q)):=by
 rcases h with⟨rfl,h⟩|⟨rfl,h⟩
 ·exact⟨true,rfl,.inl ⟨rfl,h⟩⟩
 ·exact⟨false,rfl,.inr ⟨rfl,h⟩⟩
section
variable {n₀:Nat}
def cutEnc (L:Nat)(x:Nat×(Option Addr×Nat)):Array Value:=#[.int .i64 (x.1:Int),.slice x.2.1 (chLen L x.1) x.2.2]
def CutRd (b:List UInt8)(pre:List (Nat×(Option Addr×Nat)))(x:Nat×(Option Addr×Nat))(W:World):Prop:=x.1=pre.length/\64*x.1<b.length/\InB W W.heap.size x.2.1 x.2.2 (chunkB b x.1)
end
end Go.Proofs.YtnlimngkagmjpaaGreat
namespace Go.Proofs.YtnlimngkagmjpaaGreat
open Go Go.RowKit Go.Shelf
attribute [local go_sem] Oper.semAt_some
section
variable {F:Fence}{n:Nat}{P:Program}{w:World}
theorem wpIn_rangeFunc_A {α : Type}{g:Operand}{ps:Array Tmp}{assign body:Code}{Q:Exit->Act->World->Prop}{a:Act}
  (hro:F.round=none) (h1:1<=n) {gf:Nat} {lb:Array Value} (hg:a.eval g = .func (.func gf) #[] lb) (hFg:F.fn gf) (eg:∀args w,(callFunc gf args).run P w = .ok (.enter gf args) w)
  {encs : α -> Array Value} {Mu:Nat->Prop} {Rd:List α -> α -> World->Prop} {S Sp:List α -> Prop} {w0:World} (hseq:SeqR F (n - 1) P gf lb encs Mu Rd S Sp w0)
  (hb0:Below w0.heap.size w0 w) (hps:∀x,(encs x).size=ps.size)
  (I:List α -> World->Prop) (Ix:Code->List α -> World->Prop) (hI:AbNew w.heap.size I) (hIx:∀c,AbNew w.heap.size (Ix c)) (hRd:∀pre x,OwnFrom w.heap.size (fun (_:Unit) W=>Rd pre x W)) (h0:I [] w) (As : α -> Act->World->Prop) (hAs:∀x a,OwnFrom w.heap.size (fun (_:Unit) W=>As x a W))
  (hassign:∀(l:Nat) (x : α) (W:World) (K:Act->World->Prop),w.heap.size<=W.heap.size->(∀a W',Below W.heap.size W W'->As x a W'->K a W') ->
   assign.wpIn (F.inRound l) (n - 1 - 1) P (Exit.then K (fun _ _ _=>False)) { tmps:=(ps.zip (encs x)).foldl (fun t (p,v)=>t.setIfInBounds p v) a.tmps,defers:=[] } W)
  (hbody:∀(l:Nat) (pre:List α) (x : α) (W:World) (a:Act),w.heap.size<=W.heap.size->I pre W->Rd pre x W->As x a W->body.wpIn (F.inRound l) (n - 1 - 1) P (postR Mu w.heap.size I Ix (pre++[x]) W) a W)
  (hdone:∀(D:Nat) (xs:List α) (W:World),w.heap.size<=D->S xs->I xs W->W.heap[D]? = some (.deferred (some []))->Q .normal { a with defers:={ target:=.collected D,args:=#[] }::a.defers } W)
  (hstop:∀(D:Nat) (c:Code) (pre:List α) (W:World),w.heap.size<=D->Sp pre->Ix c pre W->W.heap[D]? = some (.deferred (some []))->c.wpIn F n P Q { a with defers:={ target:=.collected D,args:=#[] }::a.defers } W) :
  (Code.rangeFunc g ps assign body).wpIn F n P Q a w:=by
 refine wpIn_rangeFunc fun fn hfn => ?_
 rw[hro]
 -- the loop's record, and the world that bears it and the block for deferred calls
 obtain⟨rec,hrec⟩:∃rec:LoopState->Option Code->Loop,rec=fun st pe => { state:=st,pending:=pe,fn,tmps:=a.tmps,params:=ps,assign,body,defers:=w.heap.size }:=⟨_,rfl⟩
 obtain⟨V,hV⟩:∃V,(w.alloc (.deferred (some []))).alloc (.loop (rec .ready none))=V:=⟨_,rfl⟩
 have vL:V.heap[w.heap.size+1]? = some (.loop (rec .ready none)):=by
  subst hV
  have:=World.alloc_heap_new (w.alloc (.deferred (some []))) (.loop (rec .ready none))
  rwa [World.size_alloc] at this
 have vD:V.heap[w.heap.size]? = some (.deferred (some [])):=by
  subst hV
  exact(Below.heap_alloc _ _ _ (by simp)).trans (World.alloc_heap_new w _)
 have vI:I [] V:=by subst hV;exact hI.alloc _ (hI.alloc _ h0)
 have vS:V.heap.size=w.heap.size+2:=by subst hV;simp
 have vB:Below w0.heap.size w0 V:=by
  subst hV
  exact hb0.trans ((((Below.refl _ w).alloc (zG _) _).alloc (by simp) _).mono hb0.size)
 refine⟨w.heap.size+1,[{ target:=.collected w.heap.size,args:=#[] }],V,{ target:=.fn (.func gf) lb,args:=#[.func (.yield (w.heap.size+1)) #[] #[]] },V,gf,#[.func (.yield (w.heap.size+1)) #[] #[]] ++ lb,V,?_,?_,?_,?_,fun _=>h1,?_⟩
 ·rw[<-hV,hrec];exact run_enterLoop_outer _ _ _ _ _
 ·simp only[resolve,hg]
  simp[go_sem]
 ·intro f' hf'
  simp[Target.leads] at hf'
  subst hf'
  exact hFg
 ·simp[invoke,go_sem,eg]
 have apart:∀{A B:World} {row:Option Nat} {k:Nat} {o:Obj},A.heap[k]? = some o->A.grownBy B row->(∀r,row=some r->V.heap.size<=r)->k<V.heap.size->B.heap[k]? = some o:=fun hk hg hr hlt =>
  (hg.block _ (zH.1 hk).1 (fun e=>by have:=hr _ e.symm;omega)).trans hk
 refine(hseq (w.heap.size+1)
  (fun pre W=>I pre W/\W.heap[w.heap.size+1]? = some (.loop (rec .ready none))/\W.heap[w.heap.size]? = some (.deferred (some [])))
  (fun pre W=>∃c,Ix c pre W/\W.heap[w.heap.size+1]? = some (.loop (rec .done (some c)))/\W.heap[w.heap.size]? = some (.deferred (some [])))
  V vB
  (fun s A B row hs hg' hr=>⟨hI s A B row hs.1 hg' (fun r e=>by have:=hr r e;omega),apart hs.2.1 hg' hr (by omega),apart hs.2.2 hg' hr (by omega)⟩)
  (fun s A B row hs hg' hr=>by
   obtain⟨c,hc,hl,hk⟩:=hs
   exact⟨c,hIx c s A B row hc hg' (fun r e=>by have:=hr r e;omega),apart hl hg' hr (by omega),apart hk hg' hr (by omega)⟩)
  ?round ⟨vI,vL,vD⟩).mono ?behind
 case round =>
  rintro pre x W0 ⟨hi0,hl0,hk0⟩ hrd0
  have hlt0:w.heap.size+1<W0.heap.size:=(zH.1 hl0).1
  have hy:=run_yield (P:=P) (args:=encs x) hl0 (by rw[hrec];exact hps x)
  rw[hrec] at hy
  refine⟨fn,_,assign,body,hy,roundIn_of_wpIn hfn (hassign _ x W0 _ (by omega) (fun a2 W hBW hA2=>⟨_,run_beginRound ((hBW.block _ hlt0).trans hl0) (by rw[hrec]),?_⟩))⟩
  clear hy
  have hl:=(hBW.block _ hlt0).trans hl0
  have hk:=(hBW.block _ (show w.heap.size<W0.heap.size by omega)).trans hk0
  have hi:=hI.grow hi0 hBW
  have hrd:=(hRd pre x) () W0 W none hrd0 ⟨hBW.os,hBW.tape,hBW.output,hBW.size,fun k hk _=>hBW.block k hk⟩ (fun r e=>by cases e)
  have hlt:w.heap.size+1<W.heap.size:=(zH.1 hl).1
  have bL:(W.putObj (w.heap.size+1) (.loop { rec .ready none with state:=.busy })).heap[w.heap.size+1]? = some (.loop { rec .ready none with state:=.busy }):=World.putObj_heap_same hlt
  have bD:(W.putObj (w.heap.size+1) (.loop { rec .ready none with state:=.busy })).heap[w.heap.size]? = some (.deferred (some [])):=(World.putObj_heap_other (by omega)).trans hk
  refine wpIn_mono (hbody _ pre x _ _ (by simp;omega) (hI.putObj _ hi (by omega)) ((hRd pre x).putObj (s:=()) _ hrd (by omega) hl rfl) ((hAs x a2).putObj (s:=()) _ hA2 (by omega) hl rfl)) ?_
  -- the round's end
  have fin:∀(jump:Option Code) (U:World),KeepOut (fun _=>True) w.heap.size (W.putObj (w.heap.size+1) (.loop { rec .ready none with state:=.busy })) U ->
    (Instr.endRound (w.heap.size+1) jump).run P U = .ok (.bool jump.isNone) (U.putObj (w.heap.size+1) (.loop (rec (if jump.isNone then .ready else .done) jump))) /\
    U.heap[w.heap.size+1]? = some (.loop { rec .ready none with state:=.busy }) /\
    (U.putObj (w.heap.size+1) (.loop (rec (if jump.isNone then .ready else .done) jump))).heap[w.heap.size+1]? = some (.loop (rec (if jump.isNone then .ready else .done) jump)) /\
    (U.putObj (w.heap.size+1) (.loop (rec (if jump.isNone then .ready else .done) jump))).heap[w.heap.size]? = some (.deferred (some [])):=fun jump U hkU=>by
   have uL:=hkU.2 _ _ bL (fun h=>by omega)
   have:=run_endRound (P:=P) jump uL
   rw[hrec] at this ⊢
   exact⟨this,by rw[hrec] at uL;exact uL,World.putObj_heap_same (zH.1 uL).1,(World.putObj_heap_other (by omega)).trans (hkU.2 _ _ bD (fun h=>by omega))⟩
  have out:∀(c:Code) (U:World),KeepOut (fun _=>True) w.heap.size (W.putObj (w.heap.size+1) (.loop { rec .ready none with state:=.busy })) U->Ix c (pre++[x]) U ->
    (∃c',Ix c' (pre++[x]) (U.putObj (w.heap.size+1) (.loop (rec .done (some c))))/\(U.putObj (w.heap.size+1) (.loop (rec .done (some c)))).heap[w.heap.size+1]? = some (.loop (rec .done (some c')))/\(U.putObj (w.heap.size+1) (.loop (rec .done (some c)))).heap[w.heap.size]? = some (.deferred (some [])))/\KeepOut (fun _=>True) V.heap.size W0 (U.putObj (w.heap.size+1) (.loop (rec .done (some c)))):=fun c U hkU hix=>by
   obtain⟨_,h3,h4,h5⟩:=fin (some c) U hkU
   refine⟨⟨c,(hIx c).putObj _ hix (by omega),h4,h5⟩,(KeepOut.grow _ _ hBW).trans ⟨by have:=hkU.1;simpa using this,fun k o hk hm => ?_⟩⟩
   have hkl:k≠w.heap.size+1:=fun e=>hm (by omega) trivial
   rw[World.putObj_heap_other hkl]
   exact hkU.2 k o (by rw[World.putObj_heap_other hkl];exact hk) (fun h=>hm (by omega))
  rintro e a3 U hp
  cases e with
  | normal =>
   obtain⟨hk3,hi3⟩:=hp
   obtain⟨hr,h3,h4,h5⟩:=fin none U hk3.any
   refine⟨_,_,hr,.inl ⟨rfl,⟨hI.putObj _ hi3 (by omega),h4,h5⟩,(KeepOut.grow _ _ hBW).trans ⟨by have:=hk3.1;simpa using this,fun k o hk hm => ?_⟩⟩⟩
   by_cases hkl:k=w.heap.size+1
   ·subst hkl
    rw[hl] at hk
    rw[<-hk]
    exact h4
   ·rw[World.putObj_heap_other hkl]
    exact hk3.2 k o (by rw[World.putObj_heap_other hkl];exact hk) (fun h=>hm (by omega))
  | ret=>exact⟨_,_,(fin (some .ret) U hp.1).1,.inr ⟨rfl,out .ret U hp.1 hp.2⟩⟩
  | exit id=>exact⟨_,_,(fin (some (.exit id)) U hp.1).1,.inr ⟨rfl,out (.exit id) U hp.1 hp.2⟩⟩
  | goto t=>exact⟨_,_,(fin (some (.goto t)) U hp.1).1,.inr ⟨rfl,out (.goto t) U hp.1 hp.2⟩⟩
  | panic ch=>exact hp.elim
  | outgrown=>exact hp.elim
 case behind =>
  rintro e U ⟨⟨v,rfl⟩,(⟨xs,hS,hi,hl,hk⟩|⟨pre,hSp,c,hi,hl,hk⟩)⟩
  ·have hr:=run_endLoop (P:=P) hl (by rw[hrec];simp)
   rw[hrec] at hr
   exact⟨none,_,hr,hdone _ xs _ (zG _) hS (hI.putObj _ hi (by omega)) ((World.putObj_heap_other (by omega)).trans hk)⟩
  ·have hr:=run_endLoop (P:=P) hl (by rw[hrec];simp)
   rw[hrec] at hr
   exact⟨some c,_,hr,hstop _ c pre _ (zG _) hSp ((hIx c).putObj _ hi (by omega)) ((World.putObj_heap_other (by omega)).trans hk)⟩
end
end Go.Proofs.YtnlimngkagmjpaaGreat
namespace Go.Proofs.YtnlimngkagmjpaaGreat
open Go Go.RowKit Lou Go.Shelf
section
variable {F:Fence}{n:Nat}{P:Program}{w w':World}{ops:Array Oper}{rest:List Oper}{o:Oper}{a:Act}{Q:Exit->Act->World->Prop}
theorem wpIn_loadX {v:Value}(hg:o.guard=none)(T:TypeId)(x:Operand)(hop:o.op = .load T x)(hr:(execOp a.eval o).run P w = .ok (.value v) w')(h:wpListIn F n P ops Q rest (a.put o.dst v) w'):wpListIn F n P ops Q (o::rest) a w :=
 wpListIn_plain hg fun K' hK'=>by
  unfold Oper.wpIn
  refine⟨by simp[Oper.about,hop],?_⟩
  rw[Oper.semAt_plain F _ _ (by rw[hop];intro c hc';cases hc'),hr]
  exact hK' _ _ h
theorem wpIn_allocX {v:Value}(hg:o.guard=none)(T:TypeId)(hop:o.op = .alloc T)(hr:(execOp a.eval o).run P w = .ok (.value v) w')(h:wpListIn F n P ops Q rest (a.put o.dst v) w'):wpListIn F n P ops Q (o::rest) a w :=
 wpListIn_plain hg fun K' hK'=>by
  unfold Oper.wpIn
  refine⟨by simp[Oper.about,hop],?_⟩
  rw[Oper.semAt_plain F _ _ (by rw[hop];intro c hc';cases hc'),hr]
  exact hK' _ _ h
theorem wpIn_storeX (hg:o.guard=none)(T:TypeId)(x y:Operand)(hop:o.op = .store T x y)(g:Nat){t:TypeId}{cs cs':Array Value}(hx:a.eval x = .pointer (some ⟨g,0,none⟩))(hy:a.eval y = .agg cs'){m:Nat}(hT:RowTy P T m)(hb:BlkIs w g t cs)(hn:cs.size=m)
  (hs:cs'.size=cs.size) (h1:∀v∈cs'.toList,v.oneCell'=true) (h:wpListIn F n P ops Q rest (a.put o.dst undef) (w.setRow g cs')):wpListIn F n P ops Q (o::rest) a w :=
 wpListIn_plain hg fun K' hK'=>by
  unfold Oper.wpIn
  refine⟨by simp[Oper.about,hop],?_⟩
  rw[Oper.semAt_plain F _ _ (by rw[hop];intro c hc';cases hc')]
  unfold execOp
  simp only[hop,hx,hy,Instr.storeAt,Instr.sureAddr,Sem.run_bind,Sem.run_pure,Result.andThen_ok,run_storeW (hn▸hT) hb hs h1]
  exact hK' _ _ h
end
attribute [local go_sem] Oper.semAt_some
def backX (xs:List (Nat×List UInt8))(k:Nat):Nat×List UInt8:=xs.getD (xs.length - 1 - k) (0,zer64)
theorem back1_in (n:Nat)(hn2:2<=n)(l Bs g o c:Nat)(xs:List (Nat×List UInt8))(hw:Wide xs)(A:Option Addr)(hA:0<xs.length->A=some ⟨g,o,none⟩)(hLc:xs.length<=c)(hL:xs.length<=1000000)(J Jx:List Nat->World->Prop)(BE:Nat)
  (hY:∀pre k W,J pre W->(k=pre.length/\k<xs.length)->YieldAt Fence.wide (n - 1) Tryz.prog l #[.int .i64 ((xs.length:Int) - 1 - k),.agg (lsC (backX xs k)).toArray] W fun e W' =>
   (e = .returned (.bool true)/\J (pre++[k]) W'/\KeepOut (fun _=>False) BE W W')∨(e = .returned (.bool false)/\Jx (pre++[k]) W'/\KeepOut (fun _=>True) BE W W'))
  (W:World) (hcs:W.cell? ⟨Bs,0,none⟩=some (.slice A xs.length c)) (hr:∀k,(h:k<xs.length)->W.rangeAt g (o+k*65) (lsC xs[k])) (h0:J [] W) :
  CallsIn Fence.wide n Tryz.prog 227 #[.func (.yield l) #[] #[],.pointer (some ⟨Bs,0,none⟩)] W fun e W'=>(∃v,e = .returned v) /\
   ((∃ys,ys.length=xs.length/\J ys W')∨(∃pre,(pre.length<=xs.length/\0<pre.length)/\Jx pre W')):=by
 have h1:1<=n:=by omega
 have hw0:IntKind.i64.wrap ((xs.length:Int) - 1)=(xs.length:Int) - 1:=wrap_i64_fr _ (by omega) (by omega)
 refine callsIn_of_wp Tryz.func227 rfl trivial ?_ rfl
 simp only[Tryz.ntmps227,zS,zN,qB,qH,qI,zU,zV,zZ,zX,zQ,zW]
 gi_wp2
 gi_loopw [3] (fun i wr=>∃(q:Int) (pre:List Nat),i = .int .i64 q/\q=(xs.length:Int) - 1 - pre.length/\pre.length<=xs.length/\J pre wr/\KeepOut (fun _=>False) 0 W wr)
  (fun i _=>(intOf i+1).toNat)
 case atStart=>exact⟨(xs.length:Int) - 1,[],rfl,by simp,by simp,h0,KeepOut.refl _ _ _⟩
 case round =>
  obtain⟨q,pre,rfl,hq,hb,hJs,hnx⟩:=hrel
  have hc1:wr.cell? ⟨Bs,0,none⟩=some (.slice A xs.length c):=hnx.cell (p:=⟨Bs,0,none⟩) hcs (fun h=>by simp)
  by_cases hlt:0<=q
  ·have hk:xs.length - 1 - pre.length<xs.length:=by omega
   obtain rfl:=hA (by omega)
   obtain⟨m,hm⟩:∃m:Nat,m=xs.length - 1 - pre.length:=⟨_,rfl⟩
   rw[<-hm] at hk
   have hqm:q=(m:Int):=by omega
   subst hqm
   have hrk:wr.rangeAt g (o+m*65) (lsC xs[m]):=fun j v hj=>hnx.cell (p:=⟨g,o+m*65+j,none⟩) (hr m hk j v hj) (fun h=>by simp)
   have h65:(lsC xs[m]).length=65:=lsC_length (hw _ (qJ hk))
   obtain⟨fn,tmps,assign,body,hy,hR⟩:=hY pre pre.length wr hJs ⟨rfl,by omega⟩
   have hbx:backX xs pre.length=xs[m]:=by
    unfold backX
    rw[<-hm,List.getD_eq_getElem?_getD,zI hk]
    rfl
   rw[hbx,show (xs.length:Int) - 1 - (pre.length:Int)=(m:Int) from by omega] at hy
   obtain⟨x,hxe⟩:∃x,x=xs[m]:=⟨_,rfl⟩
   rw[<-hxe] at hy hrk h65
   have hwm:IntKind.i64.wrap ((m:Int) - 1)=(m:Int) - 1:=wrap_i64_fr _ (by omega) (by omega)
   have HQ:=Lib.hid hq
   have H65:=Lib.hid h65
   clear hq hxe hbx hm h65
   gi_wp2_with (refine wpIn_loadX rfl _ _ rfl (x_loadM rowLoose hrk H65.out rfl rfl) ?_)
   refine hR.mono ?_
   have hQ:=HQ.out
   rintro e W3 (⟨rfl,hJ3,hk3⟩|⟨rfl,hJx3,_⟩)
   ·have hnx3:KeepOut (fun _=>False) 0 W W3:=hnx.trans ⟨hk3.1,fun k o hk hm=>hk3.2 k o hk (fun h=>by simp)⟩
    clear hQ
    gi_wp2
    go_roundw
    case rel=>exact⟨(m:Int) - 1,pre++[pre.length],rfl,by simp;have:=HQ.out;omega,by simp;have:=HQ.out;omega,hJ3,hnx3⟩
    case measure=>simp[intOf]
   ·have hl:(pre++[pre.length]).length<=xs.length/\0<(pre++[pre.length]).length:=by simp;omega
    clear hQ
    gi_wp2
    exact bodyPost_ret (results_none rfl _ _ _) rfl ⟨⟨_,rfl⟩,.inr ⟨_,hl,hJx3⟩⟩
  ·obtain⟨hs⟩:Nonempty (pre.length=xs.length):=⟨by omega⟩
   gi_wp2
   go_end0
   exact⟨⟨_,rfl⟩,.inl ⟨pre,hs,hJs⟩⟩
theorem back1_seq (n:Nat)(hn2:2<=n)(Bs g o c:Nat)(xs:List (Nat×List UInt8))(hw:Wide xs)(A:Option Addr)(hA:0<xs.length->A=some ⟨g,o,none⟩)(hLc:xs.length<=c)(hL:xs.length<=1000000)(w:World)(hBs:Bs<w.heap.size)
  (hcs:w.cell? ⟨Bs,0,none⟩=some (.slice A xs.length c)) (hg:0<xs.length->g<w.heap.size) (hr:∀k,(h:k<xs.length)->w.rangeAt g (o+k*65) (lsC xs[k])) :
  SeqR Fence.wide n Tryz.prog 227 #[.pointer (some ⟨Bs,0,none⟩)] (fun k:Nat=>#[.int .i64 ((xs.length:Int) - 1 - k),.agg (lsC (backX xs k)).toArray]) (fun _=>False)
   (fun pre k _=>k=pre.length/\k<xs.length) (fun ys=>ys.length=xs.length) (fun pre=>pre.length<=xs.length/\0<pre.length) w:=fun l J Jx W hW _ _ hY h0 =>
 back1_in n hn2 l Bs g o c xs hw A hA hLc hL J Jx W.heap.size hY W ((hW.cell (p:=⟨Bs,0,none⟩) hBs).trans hcs) (fun k h j v hj=>(hW.cell (p:=⟨g,o+k*65+j,none⟩) (hg (by omega))).trans (hr k h j v hj)) h0
end Go.Proofs.YtnlimngkagmjpaaGreat
namespace Go.Proofs.YtnlimngkagmjpaaGreat
open Go Go.RowKit Lou Go.Shelf
attribute [local go_sem] Oper.semAt_some
theorem laid_none (g:Nat->List UInt8)(xs:List (Nat×List UInt8))(k:Nat):∀m,m<=xs.length->(∀j,(h:j<xs.length)->j<m->xs[j].1≠k)->laid g (xs.take m) k=g k
 | 0,_,_=>rfl
 | m+1,hm,hno=>by
  rw[laid_snoc g xs m (by omega)]
  unfold gset
  rw[if_neg (fun e=>hno m (by omega) (by omega) e.symm)]
  exact laid_none g xs k m (by omega) (fun j h hj=>hno j h (by omega))
theorem laid_last (g:Nat->List UInt8)(xs:List (Nat×List UInt8))(k i:Nat)(hi:i<xs.length)(hk:xs[i].1=k):∀m,i+1+m<=xs.length->(∀j,(h:j<xs.length)->i<j->j<i+1+m->xs[j].1≠k)->laid g (xs.take (i+1+m)) k=xs[i].2
 | 0,_,_=>by
  rw[Nat.add_zero,laid_snoc g xs i hi]
  unfold gset
  rw[if_pos hk.symm]
 | m+1,hm,hno=>by
  rw[<-Nat.add_assoc,laid_snoc g xs (i+1+m) (by omega)]
  unfold gset
  rw[if_neg (fun e=>hno (i+1+m) (by omega) (by omega) (by omega) e.symm)]
  exact laid_last g xs k i hi hk m (by omega) (fun j h h1 hj=>hno j h h1 (by omega))
theorem backX_at (xs:List (Nat×List UInt8))(j:Nat)(h:j<xs.length):backX xs j=xs[xs.length - 1 - j]:=by
 unfold backX
 rw[List.getD_eq_getElem?_getD,zI (by omega)]
 rfl
theorem back_none (g:Nat->List UInt8)(xs:List (Nat×List UInt8))(k:Nat)(h:∀j,j<xs.length->(backX xs j).1≠k):laid g xs k=g k:=by
 have:=laid_none g xs k xs.length (zG _) (fun j hj _=>by
  have h1:=h (xs.length - 1 - j) (by omega)
  rw[backX_at _ _ (by omega)] at h1
  have e:xs.length - 1 - (xs.length - 1 - j)=j:=by omega
  simpa only[e] using h1)
 rwa [List.take_length] at this
theorem back_found (g:Nat->List UInt8)(xs:List (Nat×List UInt8))(k m:Nat)(hm:m<xs.length)(h:∀j,j<m->(backX xs j).1≠k)(hk:(backX xs m).1=k):laid g xs k=(backX xs m).2:=by
 rw[backX_at _ _ hm] at hk ⊢
 have:=laid_last g xs k (xs.length - 1 - m) (by omega) hk m (by omega) (fun j hj h1 h2=>by
  have h3:=h (xs.length - 1 - j) (by omega)
  rw[backX_at _ _ (by omega)] at h3
  have e:xs.length - 1 - (xs.length - 1 - j)=j:=by omega
  simpa only[e] using h3)
 have e:xs.length - 1 - m+1+m=xs.length:=by omega
 rwa [e,List.take_length] at this
section
variable {w:World}{o:Oper}{ρ:Operand->Value}
theorem x_allocSec (ho:o.op = .alloc 227):(execOp ρ o).run Tryz.prog w = .ok (.value (.pointer (some ⟨w.heap.size,0,none⟩))) (w.alloc (.cells (zer64.map b8).toArray 227)):=by
 simp[execOp,ho,Instr.alloc,newVar,newRow,go_sem,Result.andThen]
 rfl
theorem x_storeW (T:TypeId)(x y:Operand)(ho:o.op = .store T x y)(g:Nat){t:TypeId}{cs cs':Array Value}(hx:ρ x = .pointer (some ⟨g,0,none⟩))(hy:ρ y = .agg cs'){m:Nat}(hT:RowTy Tryz.prog T m)(hb:BlkIs w g t cs)(hn:cs.size=m)(hs:cs'.size=cs.size)(h1:∀v∈cs'.toList,v.oneCell'=true) :
  (execOp ρ o).run Tryz.prog w = .ok .skip (w.setRow g cs'):=by
 unfold execOp
 simp only[ho,hx,hy,Instr.storeAt,Instr.sureAddr,Sem.run_bind,Sem.run_pure,Result.andThen_ok,run_storeW (hn▸hT) hb hs h1]
end
theorem fold2 (t:Array Value)(i j:Tmp)(a b:Value):((#[i,j]:Array Tmp).zip #[a,b]).foldl (fun t (p,v)=>t.setIfInBounds p v) t=(t.setIfInBounds i a).setIfInBounds j b:=by
 simp
theorem laid_len:∀(xs:List (Nat×List UInt8)) (g:Nat->List UInt8),(∀m,(g m).length=64)->Wide xs->∀k,(laid g xs k).length=64
 | [],g,hg,_,k=>hg k
 | x::xs,g,hg,hw,k=>laid_len xs (gset g x.1 x.2) (fun m=>by
   unfold gset
   split
   ·exact hw x (by simp)
   ·exact hg m) (fun y hy=>hw y (by simp[hy])) k
theorem backX_wide {xs:List (Nat×List UInt8)}(hw:Wide xs)(j:Nat):(backX xs j).2.length=64:=by
 unfold backX
 rw[List.getD_eq_getElem?_getD]
 cases h:xs[xs.length - 1 - j]? with
 | none=>decide
 | some x=>exact hw x (List.mem_of_getElem? h)
theorem below_putObj {B:Nat}{w V:World}(h:Below B w V)(D:Nat)(o:Obj)(hD:B<=D):Below B w (V.putObj D o) :=
 h.trans ⟨rfl,rfl,rfl,by simp,fun k hk=>World.putObj_heap_other (by omega)⟩
theorem blk_putObj {V:World}{g:Nat}{t:TypeId}{cs:Array Value}(h:BlkIs V g t cs)(D:Nat)(o:Obj)(hD:g≠D):BlkIs (V.putObj D o) g t cs:=(World.putObj_heap_other hD).trans h
abbrev actF (p k hs g6 len c:Nat)(A:Option Addr)(d m:Value):Act :=
 { tmps:=#[.pointer (some ⟨p,0,none⟩),.int .i64 (k:Int),undef,.pointer (some ⟨hs,0,none⟩),.pointer (some ⟨hs+1,0,none⟩),undef,.pointer (some ⟨g6,0,none⟩),.pointer (some ⟨p,0,none⟩),.pointer (some ⟨p,0,none⟩),.pointer (some ⟨p,2,none⟩),.slice A len c,
   .func (.func 227) #[] #[.pointer (some ⟨hs+1+1,0,none⟩)],d,m,undef,undef,undef,undef,undef,undef,undef,undef,undef,undef,undef,undef],defers:=[] }
theorem back_in (n:Nat)(A:Option Addr)(len cap:Nat)(w:World) :
  CallsIn Fence.wide n Tryz.prog 195 #[.slice A len cap] w fun e w'=>e = .returned (.func (.func 227) #[] #[.pointer (some ⟨w.heap.size,0,none⟩)])/\w.alloc (.cells #[.slice A len cap] 68)=w':=by
 refine callsIn_of_wp Tryz.func195 rfl trivial ?_ rfl
 simp only[Tryz.ntmps195,zS,zN,qB,qH,qI,zU,zV,zZ,zX,zQ,zW]
 gi_wp2
 go_ret
 exact⟨rfl,rfl⟩
theorem sector_in (n:Nat)(hn:6<=n)(w:World)(p many:Nat)(g:Nat->List UInt8)(xs:List (Nat×List UInt8))(left:Int)(stops:Bool)(hD:DkIs w p many g xs left stops)(hl:xs.length<=1000000)(k:Nat) :
  CallsIn Fence.wide n Tryz.prog 170 #[.pointer (some ⟨p,0,none⟩),.int .i64 (k:Int)] w fun e w'=>e = .returned (secV (laid g xs k))/\Below w.heap.size w w':=by
 obtain⟨r,A,c,hb,hm,hw,hx⟩:=hD.has
 have h1:1<=n:=by omega
 obtain⟨W2,hW2⟩:∃W2,W2=(w.alloc (.cells #[.int .i64 (k:Int)] 3)).alloc (.cells (zer64.map b8).toArray 227):=⟨_,rfl⟩
 have hB2:Below w.heap.size w W2:=by rw[hW2];exact((Below.refl _ w).alloc (zG _) _).alloc (by simp) _
 have s2:W2.heap.size=w.heap.size+1+1:=by rw[hW2];simp
 have bk:BlkIs W2 w.heap.size 3 #[.int .i64 (k:Int)]:=by rw[hW2];exact(BlkIs.new w _ _).alloc _
 have bs:BlkIs W2 (w.heap.size+1) 227 (zer64.map b8).toArray:=by
  have:=BlkIs.new (w.alloc (.cells #[.int .i64 (k:Int)] 3)) 227 (zer64.map b8).toArray
  rw[World.size_alloc] at this
  rw[hW2]
  exact this
 have c2:W2.cell? ⟨p,2,none⟩=some (.slice A xs.length c):=by
  rw[hB2.cell (p:=⟨p,2,none⟩) hb.lt,hb.cell]
  rfl
 have HW2:=Lib.hid hW2
 refine callsIn_of_wp_marks Tryz.func170 rfl trivial ?_ rfl
 simp only[Tryz.ntmps170,zS,zN,qB,qH,qI,zU,zV,zZ,zX,zQ,zW]
 clear hW2
 gi_wp2_with (first
  | (refine wpIn_allocX rfl _ rfl (x_allocSec rfl) ?_;rw[World.size_alloc,<-HW2.out])
  | (refine⟨trivial,?_⟩;gi_at_call 195;refine(back_in (n - 1) _ _ _ _).mono ?_;rintro e w' ⟨rfl,rfl⟩))
 have hle:=hx.le
 obtain⟨gA,oA,hA⟩:∃gA oA,0<xs.length->A=some ⟨gA,oA,none⟩/\gA<w.heap.size:=by
  by_cases h0:0<xs.length
  ·obtain⟨gA,oA,e,hg,_⟩:=hx.lies h0
   exact⟨gA,oA,fun _=>⟨e,hg⟩⟩
  ·exact⟨0,0,fun h=>absurd h h0⟩
 have hr4:∀j,(h:j<xs.length)->w.rangeAt gA (oA+j*65) (lsC xs[j]):=fun j h=>by
  obtain⟨e,hg⟩:=hA (by omega)
  subst e
  exact InW.elem ⟨hw,hx⟩ j h
 obtain⟨W4,hW4⟩:∃W4,W4=W2.alloc (.cells #[.slice A xs.length c] 68):=⟨_,rfl⟩
 have hB4:Below w.heap.size w W4:=by rw[hW4];exact hB2.alloc hB2.size _
 have s4:W4.heap.size=w.heap.size+1+1+1:=by rw[hW4];simp[s2]
 have bk4:BlkIs W4 w.heap.size 3 #[.int .i64 (k:Int)]:=by rw[hW4];exact bk.alloc _
 have bs4:BlkIs W4 (w.heap.size+1) 227 (zer64.map b8).toArray:=by rw[hW4];exact bs.alloc _
 have hcs4:W4.cell? ⟨w.heap.size+1+1,0,none⟩=some (.slice A xs.length c):=by rw[hW4,<-s2];exact(BlkIs.new W2 68 #[.slice A xs.length c]).boxed
 rw[<-hW4]
 have hk0:MapF w r g:=hm
 have hm0:w.cell? ⟨p,0,none⟩=some (.map (some r)):=by rw[hb.cell];rfl
 have hplt:=hb.lt
 have HS4:=Lib.hid s4
 clear hW4 bk bs c2 HW2 s2 hB2
 refine wpIn_rangeFunc_A rfl h1 (gf:=227) (lb:=#[.pointer (some ⟨w.heap.size+1+1,0,none⟩)]) rfl trivial (enters_of Tryz.func227 (by kernel_rfl) rfl)
  (back1_seq (n - 1) (by omega) (w.heap.size+1+1) gA oA c xs hw A (fun h=>(hA h).1) hle hl W4 (by omega) hcs4 (fun h=>by have:=(hA h).2;omega) (fun j h i v hi=>(hB4.cell (p:=⟨gA,oA+j*65+i,none⟩) (hA (by omega)).2).trans (hr4 j h i v hi))) (Below.refl _ _) (fun _=>rfl)
  (fun pre V=>Below w.heap.size w V/\BlkIs V w.heap.size 3 #[.int .i64 (k:Int)]/\BlkIs V (w.heap.size+1) 227 (zer64.map b8).toArray/\(∀j,j<pre.length->(backX xs j).1≠k))
  (fun cd _ V=>cd = .ret/\Below w.heap.size w V/\BlkIs V (w.heap.size+1) 227 ((laid g xs k).map b8).toArray)
  ?own ?own2 ?ownR ⟨hB4,bk4,bs4,fun j h=>by simp at h⟩
  (fun j a V=>∃g6,a=actF p k w.heap.size g6 xs.length c A (.int .i64 ((xs.length:Int) - 1 - j)) (.agg (lsC (backX xs j)).toArray)/\BlkIs V g6 239 (lsC (backX xs j)).toArray)
  ?ownA ?assign ?body ?done ?stop
 case own =>
  rintro pre X Y row ⟨h1,h2,h3,h4⟩ hgr hr
  exact⟨below_abNew (B:=W4.heap.size) (by omega) h1.size h1 hgr hr,h2.abNew (by omega) hgr hr,h3.abNew (by omega) hgr hr,h4⟩
 case own2 =>
  rintro cd pre X Y row ⟨e,h1,h3⟩ hgr hr
  exact⟨e,below_abNew (B:=W4.heap.size) (by omega) h1.size h1 hgr hr,h3.abNew (by omega) hgr hr⟩
 case ownR=>exact fun pre x=>ownFrom_pure _ _
 case ownA =>
  rintro j a ⟨⟩ X Y row ⟨g6,e,h⟩ hgr hr
  refine⟨g6,e,h.grown hgr (fun e2 => ?_)⟩
  obtain⟨_,o,ho,hc⟩:=hr g6 e2.symm
  have h':X.heap[g6]? = some (.cells (lsC (backX xs j)).toArray 239 (0,0)):=h
  rw[h'] at ho
  cases ho
  cases hc
 case assign =>
  intro l1 j V K hV hK
  have hx6:=backX_wide hw j
  generalize backX xs j=x at *
  have h65:=lsC_length hx6
  have hsz:(lsC x).toArray.size=(lsC (0,zer64)).toArray.size:=by rw[zS,zS,h65];rfl
  have n0:=BlkIs.new V 239 (lsC (0,zer64)).toArray
  have nb:=n0.setRow (lsC x).toArray
  have hBV:Below V.heap.size V ((V.alloc (.cells (lsC (0,zer64)).toArray 239)).setRow V.heap.size (lsC x).toArray):=below_setRow ((Below.refl _ V).alloc (zG _) _) (zG _) _
  have HZ:=Lib.hid hsz
  clear hsz h65 hx6
  rw[fold2]
  simp only[zA,zF,zE]
  gi_wp2_with (first
   | (refine wpIn_allocX rfl _ rfl (x_allocLs rfl) ?_)
   | (refine wpIn_storeX rfl 239 (.tmp 6) (.tmp 13) rfl V.heap.size rfl rfl rowLoose n0 (by rfl) HZ.out (lsC_one _) ?_))
  exact hK _ _ hBV ⟨V.heap.size,rfl,nb⟩
 case body =>
  rintro l1 pre j V a hWV ⟨hB,hk3,hs3,hno⟩ ⟨rfl,hj⟩ ⟨g6,rfl,h6⟩
  have hx6:=backX_wide hw pre.length
  have hfo:=back_found g xs k pre.length hj hno
  have hcon:(backX xs pre.length).1≠k->∀j,j<(pre++[pre.length]).length->(backX xs j).1≠k:=fun h j hj=>by
   simp at hj
   by_cases e:j=pre.length
   ·subst e;exact h
   ·exact hno j (by omega)
  generalize backX xs pre.length=x at *
  obtain⟨x1,x2⟩:=x
  simp only at hx6 hfo hcon
  have d0:V.cell? ⟨g6,0,none⟩=some (.int .i64 (x1:Int)):=by rw[h6.cell];rfl
  have ck:V.cell? ⟨w.heap.size,0,none⟩=some (.int .i64 (k:Int)):=hk3.boxed
  have dr:V.rangeAt g6 1 (x2.map b8):=fun j v hj=>by
   rw[h6.cell]
   simpa[lsC,Nat.add_comm] using hj
  have hl6:(x2.map b8).length=64:=by rw[qD];exact hx6
  have hsz:(x2.map b8).toArray.size=(zer64.map b8).toArray.size:=by rw[zS,hl6];rfl
  have HL6:=Lib.hid hl6
  have HZ:=Lib.hid hsz
  have HNO:=Lib.hid hno
  clear hl6 hsz hx6 hno
  by_cases hxk:x1=k
  ·subst hxk
   have hfo2:=Lib.hid (hfo rfl)
   clear hfo hcon
   gi_wp2_with (first
    | (refine wpIn_loadX rfl _ _ rfl (x_loadM rowDSec dr HL6.out rfl rfl) ?_)
    | (refine wpIn_storeX rfl _ (.tmp 4) (.tmp 19) rfl (w.heap.size+1) rfl rfl rowDSec hs3 (by rfl) HZ.out (b8_one _) ?_))
   rw[hfo2.out]
   exact⟨⟨by simp,fun k o hk hm=>(setRow_other _ _ _ _ (by intro e;subst e;exact hm (by omega) trivial)).trans hk⟩,rfl,below_setRow hB (by omega) _,hs3.setRow _⟩
  ·have hne:¬ (x1:Int)=(k:Int):=by omega
   have hc2:=Lib.hid (hcon hxk)
   clear hfo hcon hxk
   gi_wp2
   exact⟨KeepOut.refl _ _ _,hB,hk3,hs3,hc2.out⟩
 case done =>
  rintro D ys V hD hS ⟨hB,hk3,hs3,hno⟩ hK
  have hfo:=back_none g xs k (by rw[<-hS];exact hno)
  have hglen:(g k).length=64:=hm.len k
  have hSd:V.drew.cell? ⟨p,0,none⟩=some (.map (some r))/\V.drew.cell? ⟨w.heap.size,0,none⟩=some (.int .i64 (k:Int))/\MapF V.drew r g:=⟨(hB.drew.cell (p:=⟨p,0,none⟩) hplt).trans hm0,hk3.boxed,hm.grow hB.drew⟩
  have hsz:((g k).map b8).toArray.size=(zer64.map b8).toArray.size:=by rw[zS,qD,hglen];rfl
  have HZ:=Lib.hid hsz
  have HF:=Lib.hid hfo
  clear hsz hfo hglen hno hS
  gi_wp2
  refine wpIn_wide.2 ?_
  refine wp_region_noPanic ?_
  refine RegF.start (fun W=>W.cell? ⟨p,0,none⟩=some (.map (some r))/\W.cell? ⟨w.heap.size,0,none⟩=some (.int .i64 (k:Int))/\MapF W r g) 6 (by kernel_rfl) ?_
  refine RegF.t 0 (.pointer (some ⟨p,0,none⟩)) rfl hSd (fun W hW=>by go_simp) ?_
  simp only[zD,zB,Act.put,zA,zF,zE]
  refine RegF.t 1 (.pointer (some ⟨p,0,none⟩)) rfl hSd (fun W hW=>by go_simp) ?_
  simp only[zD,zC,zB,Act.put,zA,zF,zE]
  refine RegF.t 2 (.pointer (some ⟨p,0,none⟩)) rfl hSd (fun W hW=>by go_simp) ?_
  simp only[zD,zC,zB,Act.put,zA,zF,zE]
  refine RegF.t 3 (.map (some r)) rfl hSd (fun W hW=>by have e:=hW.1;go_simp) ?_
  simp only[zD,zC,zB,Act.put,zA,zF,zE]
  refine RegF.t 4 (.int .i64 (k:Int)) rfl hSd (fun W hW=>by have e:=hW.2.1;go_simp) ?_
  simp only[zD,zC,zB,Act.put,zA,zF,zE]
  refine RegF.t 5 (secV (g k)) rfl hSd (fun W hW=>x_lookup hW.2.2 rfl rfl rfl) ?_
  simp only[zD,zC,zB,Act.put,zA,zF,zE]
  refine RegF.one 6 (by kernel_rfl) ?_
  refine RegF.opS (w':=V.drew.setRow (w.heap.size+1) ((g k).map b8).toArray) rfl rfl (x_storeW _ (.tmp 4) (.tmp 25) rfl (w.heap.size+1) rfl rfl rowDSec hs3 (by rfl) HZ.out (b8_one _)) ⟨fun h=>absurd rfl h,?_⟩
  simp only[zD,zC,zB,Act.put]
  refine RegF.done (by kernel_rfl) ?_
  have hs5:BlkIs (V.drew.setRow (w.heap.size+1) ((g k).map b8).toArray) (w.heap.size+1) 227 ((laid g xs k).map b8).toArray:=by
   rw[HF.out]
   exact BlkIs.setRow (w:=V.drew) hs3 _
  have hB5:Below w.heap.size w (V.drew.setRow (w.heap.size+1) ((g k).map b8).toArray):=below_setRow hB.drew (by omega) _
  have hK5:(V.drew.setRow (w.heap.size+1) ((g k).map b8).toArray).heap[D]? = some (.deferred (some [])):=(setRow_other _ _ _ _ (by omega)).trans hK
  have hszl:((laid g xs k).map b8).toArray.size=64:=by rw[HF.out,HZ.out];rfl
  generalize V.drew.setRow (w.heap.size+1) ((g k).map b8).toArray=V5 at *
  simp only[NoPanic]
  gi_wp2
  refine⟨by simp,.inl ⟨_,_,rfl,run_takeDeferred hK5,?_⟩⟩
  exact⟨_,results_cellW 4 rfl rfl rowDSec (blk_putObj hs5 D _ (by omega)) hszl,rfl,below_putObj hB5 D _ (by omega)⟩
 case stop =>
  rintro D cd pre V hD hS ⟨rfl,hB,hs3⟩ hK
  have hszl:((laid g xs k).map b8).toArray.size=64:=by rw[zS,qD,laid_len xs g hm.len hw k]
  gi_wp2
  refine⟨by simp,.inl ⟨_,_,rfl,run_takeDeferred hK,?_⟩⟩
  exact⟨_,results_cellW 4 rfl rfl rowDSec (blk_putObj hs3 D _ (by omega)) hszl,rfl,below_putObj hB D _ (by omega)⟩
end Go.Proofs.YtnlimngkagmjpaaGreat
namespace Go.Proofs.YtnlimngkagmjpaaGreat
open Go Go.RowKit Lou
section
variable (w:World)(p many:Nat)(g:Nat->List UInt8)(xs:List (Nat×List UInt8))(left:Int)(stops:Bool)
theorem rd_asks (hD:DkIs w p many g xs left stops)(hs:(stops && left == 0)=false)(k:Nat)(hk:k<many)(w1 w2:World)(hB1:Below w.heap.size w w1)(hB2:Below w1.heap.size w1 w2)
  (b0:BlkIs w1 w.heap.size 26 #[.pointer (some ⟨p,0,none⟩)]) (b1:BlkIs w1 (w.heap.size+1) 3 #[.int .i64 (k:Int)]) :
  Calls Tryz.prog 140 #[.pointer (some ⟨p,0,none⟩),.slice (some ⟨w2.heap.size,0,none⟩) 2 2] (w2.alloc (.cells #[.func (.func 194) #[] #[.pointer (some ⟨w.heap.size+1,0,none⟩),.pointer (some ⟨w.heap.size,0,none⟩)],.int .i64 4,.func (.func 180) #[.pointer (some ⟨p,0,none⟩)] #[],.int .i64 140] 208))
   fun e w'=>e = .returned (.int .i64 0)/\Below w2.heap.size w2 w':=by
 have h1:=hD.grow (hB1.trans (hB2.mono hB1.size))
 have e3:=asked2_gives w2 p many g xs left stops h1 (askThere w.heap.size (w.heap.size+1) many k) (askGoes p left stops)
  (ans_there w2 p many g xs left stops k _ _ h1 (b0.below hB2 b0.lt) (b1.below hB2 b1.lt)) (ans_goes w2 p many g xs left stops h1)
 have hf:firstE [askThere w.heap.size (w.heap.size+1) many k,askGoes p left stops]=0:=by
  have a1:decide ((k:Int)<0)=false:=by simp
  have a2:¬ many<=k:=by omega
  have hs':(askGoes p left stops).b=false:=hs
  simp[firstE,askThere,a2,hs']
 rw[hf] at e3
 exact e3
theorem read_gives (hD:DkIs w p many g xs left stops)(hs:(stops && left == 0)=false)(k:Nat)(hk:k<many)(hl:xs.length<=1000000) :
  Calls Tryz.prog 123 #[.pointer (some ⟨p,0,none⟩),.int .i64 (k:Int)] w fun e w'=>∃q,e = .returned (.tuple #[.slice (some ⟨q,0,none⟩) 64 64,.int .i64 0])/\InB w' w'.heap.size (some ⟨q,0,none⟩) 64 (laid g xs k)/\Below w.heap.size w w':=by
 have HT:=there_gives w p k
 have HA:=fun w1 w2 hB1 hB2 b0' b1'=>rd_asks w p many g xs left stops hD hs k hk w1 w2 hB1 hB2 b0' b1'
 have HX:∀W,Below w.heap.size w W->Calls Tryz.prog 170 #[.pointer (some ⟨p,0,none⟩),.int .i64 (k:Int)] W fun e w'=>e = .returned (secV (laid g xs k))/\Below W.heap.size W w':=fun W hW=>callsIn_wide.1 (sector_in 6 (zG _) W p many g xs left stops (hD.grow hW) hl k)
 have hlen:(laid g xs k).length=64:=by
  obtain⟨r,A,c,hb,hm,hw,hx⟩:=hD.has
  exact laid_len xs g hm.len hw k
 generalize laid g xs k=y at *
 have hsz:(y.map b8).toArray.size=(zer64.map b8).toArray.size:=by rw[zS,qD,hlen];rfl
 have HL:=Lib.hid hlen
 have HZ:=Lib.hid hsz
 unfold secV at HX
 clear hs hlen hsz
 go_enter Tryz.func123,Tryz.ntmps123
 go_wp2_with (first
  | (go_at_call 169;refine HT.mono ?_;rintro e w1 ⟨rfl,s1,s2,hB1⟩)
  | (go_at_call 141;refine(goes_gives w1 p).mono ?_;rintro e w2 ⟨rfl,hB2⟩)
  | (go_at_call 140;refine(HA w1 w2 hB1 hB2 s1 s2).mono ?_;rintro e w3 ⟨rfl,hB3⟩;have hB03:Below w.heap.size w w3:=hB1.trans ((hB2.trans (hB3.mono hB2.size)).mono hB1.size))
  | (go_at_call 170;refine(HX _ hB03).mono ?_;rintro e w4 ⟨rfl,hB4⟩;have hB04:Below w.heap.size w w4:=hB03.trans (hB4.mono hB03.size);have n0:=BlkIs.new w4 227 (zer64.map b8).toArray)
  | (refine wp_exec rfl (x_allocSec rfl) ?_)
  | (refine wp_storeW rfl 227 (.tmp 7) (.tmp 21) rfl w4.heap.size rfl rfl rowDSec n0 (by rfl) HZ.out (b8_one _) ?_))
 refine bodyPost_ret (results_tmp2 rfl _ _ _) rfl ?_
 have nb:=n0.setRow (y.map b8).toArray
 have hBf:Below w.heap.size w ((w4.alloc (.cells (zer64.map b8).toArray 227)).setRow w4.heap.size (y.map b8).toArray):=below_setRow (hB04.alloc hB04.size _) hB04.size _
 refine⟨w4.heap.size,rfl,⟨by rw[HL.out];exact zG _,by omega,(fun h=>by cases h),fun _=>⟨w4.heap.size,0,rfl,nb.lt,fun j hj => ?_⟩⟩,hBf⟩
 rw[nb.cell,qK]
 simp[hj,b8]
end
section
variable (fr pg n:Int)
theorem sectors1_gives (W:World)(g:Nat)(hb:BlkIs W g 25 #[.int .i64 fr,.int .i64 pg])(h1:1<=fr/\fr<=2000)(h2:1<=pg/\pg<=2000) :
  Calls Tryz.prog 89 #[.pointer (some ⟨g,0,none⟩)] W fun e w'=>e = .returned (.int .i64 (2+9*fr+8*pg))/\W=w':=by
 have hc0:W.cell? ⟨g,0,none⟩=some (.int .i64 fr):=by rw[hb.cell];rfl
 have hc1:W.cell? ⟨g,1,none⟩=some (.int .i64 pg):=by rw[hb.cell];rfl
 have e1:IntKind.i64.wrap (9*fr)=9*fr:=wrap_i64_fr _ (by omega) (by omega)
 have e2:IntKind.i64.wrap (2+9*fr)=2+9*fr:=wrap_i64_fr _ (by omega) (by omega)
 have e3:IntKind.i64.wrap (8*pg)=8*pg:=wrap_i64_fr _ (by omega) (by omega)
 have e4:IntKind.i64.wrap (2+9*fr+8*pg)=2+9*fr+8*pg:=wrap_i64_fr _ (by omega) (by omega)
 go_enter Tryz.func89,Tryz.ntmps89
 go_wp2
 go_ret
 exact⟨rfl,rfl⟩
theorem frameAt1_gives (W:World)(g:Nat)(hb:BlkIs W g 3 #[.int .i64 n])(h1:0<=n/\n<2000) :
  Calls Tryz.prog 146 #[.pointer (some ⟨g,0,none⟩)] W fun e w'=>e = .returned (.int .i64 (2+9*n))/\W=w':=by
 have hc0:W.cell? ⟨g,0,none⟩=some (.int .i64 n):=by rw[hb.cell];rfl
 have e1:IntKind.i64.wrap (9*n)=9*n:=wrap_i64_fr _ (by omega) (by omega)
 have e2:IntKind.i64.wrap (2+9*n)=2+9*n:=wrap_i64_fr _ (by omega) (by omega)
 go_enter Tryz.func146,Tryz.ntmps146
 go_wp2
 go_ret
 exact⟨rfl,rfl⟩
theorem pageAt1_gives (W:World)(g g2:Nat)(hb:BlkIs W g 25 #[.int .i64 fr,.int .i64 pg])(hb2:BlkIs W g2 3 #[.int .i64 n])(h1:1<=fr/\fr<=2000)(h2:0<=n/\n<2000) :
  Calls Tryz.prog 167 #[.pointer (some ⟨g,0,none⟩),.pointer (some ⟨g2,0,none⟩)] W fun e w'=>e = .returned (.int .i64 (2+9*fr+8*n))/\W=w':=by
 have hc0:W.cell? ⟨g,0,none⟩=some (.int .i64 fr):=by rw[hb.cell];rfl
 have hc1:W.cell? ⟨g2,0,none⟩=some (.int .i64 n):=by rw[hb2.cell];rfl
 have e1:IntKind.i64.wrap (9*fr)=9*fr:=wrap_i64_fr _ (by omega) (by omega)
 have e2:IntKind.i64.wrap (2+9*fr)=2+9*fr:=wrap_i64_fr _ (by omega) (by omega)
 have e3:IntKind.i64.wrap (8*n)=8*n:=wrap_i64_fr _ (by omega) (by omega)
 have e4:IntKind.i64.wrap (2+9*fr+8*n)=2+9*fr+8*n:=wrap_i64_fr _ (by omega) (by omega)
 go_enter Tryz.func167,Tryz.ntmps167
 go_wp2
 go_ret
 exact⟨rfl,rfl⟩
def atV (r e:Int):Value:=.tuple #[.int .i64 (if e=0 then r else 0),.int .i64 e]
theorem sectors_gives (w:World):Calls Tryz.prog 57 #[.agg #[.int .i64 fr,.int .i64 pg]] w fun e w'=>e = .returned (atV (2+9*fr+8*pg) (plE (planOk fr pg) 0 1))/\Below w.heap.size w w':=by
 have hB0:Below w.heap.size w (w.alloc (.cells #[.int .i64 fr,.int .i64 pg] 25)):=(Below.refl _ w).alloc (zG _) _
 have hb:=BlkIs.new w 25 #[.int .i64 fr,.int .i64 pg]
 have H:=place_gives fr pg 0 1 (2+9*fr+8*pg) 89 #[.pointer (some ⟨w.heap.size,0,none⟩)] (enters_of Tryz.func89 (by kernel_rfl) rfl) (w.alloc (.cells #[.int .i64 fr,.int .i64 pg] 25))
  (fun hp _ _ W hW=>sectors1_gives fr pg W _ (hb.below hW (by simp)) ((planOk_iff fr pg).1 hp).1 ((planOk_iff fr pg).1 hp).2)
 unfold atV
 generalize plE (planOk fr pg) 0 1=e at *
 generalize (if e=0 then 2+9*fr+8*pg else 0)=v at *
 go_enter Tryz.func57,Tryz.ntmps57
 go_wp2_with fail
 refine H.mono ?_
 rintro e w' ⟨rfl,hB⟩
 go_wp2
 refine bodyPost_ret (results_tmp2 rfl _ _ _) rfl ?_
 exact⟨rfl,hB0.trans (hB.mono (by simp))⟩
theorem frameAt_gives (w:World):Calls Tryz.prog 102 #[.agg #[.int .i64 fr,.int .i64 pg],.int .i64 n] w fun e w'=>e = .returned (atV (2+9*n) (plE (planOk fr pg) n fr))/\Below w.heap.size w w':=by
 have hB0:Below w.heap.size w ((w.alloc (.cells #[.int .i64 fr,.int .i64 pg] 25)).alloc (.cells #[.int .i64 n] 3)):=((Below.refl _ w).alloc (zG _) _).alloc (by simp) _
 have hb:=BlkIs.new (w.alloc (.cells #[.int .i64 fr,.int .i64 pg] 25)) 3 #[.int .i64 n]
 rw[World.size_alloc] at hb
 have H:=place_gives fr pg n fr (2+9*n) 146 #[.pointer (some ⟨w.heap.size+1,0,none⟩)] (enters_of Tryz.func146 (by kernel_rfl) rfl) ((w.alloc (.cells #[.int .i64 fr,.int .i64 pg] 25)).alloc (.cells #[.int .i64 n] 3))
  (fun hp h0 hn W hW=>frameAt1_gives n W _ (hb.below hW (by simp)) (by have:=(planOk_iff fr pg).1 hp;omega))
 unfold atV
 generalize plE (planOk fr pg) n fr=e at *
 generalize (if e=0 then 2+9*n else 0)=v at *
 go_enter Tryz.func102,Tryz.ntmps102
 go_wp2_with fail
 refine H.mono ?_
 rintro e w' ⟨rfl,hB⟩
 go_wp2
 refine bodyPost_ret (results_tmp2 rfl _ _ _) rfl ?_
 exact⟨rfl,hB0.trans (hB.mono (by simp;omega))⟩
theorem pageAt_gives (w:World):Calls Tryz.prog 121 #[.agg #[.int .i64 fr,.int .i64 pg],.int .i64 n] w fun e w'=>e = .returned (atV (2+9*fr+8*n) (plE (planOk fr pg) n pg))/\Below w.heap.size w w':=by
 have hB0:Below w.heap.size w ((w.alloc (.cells #[.int .i64 fr,.int .i64 pg] 25)).alloc (.cells #[.int .i64 n] 3)):=((Below.refl _ w).alloc (zG _) _).alloc (by simp) _
 have hb:=BlkIs.new (w.alloc (.cells #[.int .i64 fr,.int .i64 pg] 25)) 3 #[.int .i64 n]
 have hb0:=(BlkIs.new w 25 #[.int .i64 fr,.int .i64 pg]).alloc (.cells #[.int .i64 n] 3)
 rw[World.size_alloc] at hb
 have H:=place_gives fr pg n pg (2+9*fr+8*n) 167 #[.pointer (some ⟨w.heap.size,0,none⟩),.pointer (some ⟨w.heap.size+1,0,none⟩)] (enters_of Tryz.func167 (by kernel_rfl) rfl) ((w.alloc (.cells #[.int .i64 fr,.int .i64 pg] 25)).alloc (.cells #[.int .i64 n] 3))
  (fun hp h0 hn W hW=>pageAt1_gives fr pg n W _ _ (hb0.below hW (by simp;omega)) (hb.below hW (by simp)) (by have:=(planOk_iff fr pg).1 hp;omega) (by have:=(planOk_iff fr pg).1 hp;omega))
 unfold atV
 generalize plE (planOk fr pg) n pg=e at *
 generalize (if e=0 then 2+9*fr+8*n else 0)=v at *
 go_enter Tryz.func121,Tryz.ntmps121
 go_wp2_with fail
 refine H.mono ?_
 rintro e w' ⟨rfl,hB⟩
 go_wp2
 refine bodyPost_ret (results_tmp2 rfl _ _ _) rfl ?_
 exact⟨rfl,hB0.trans (hB.mono (by simp;omega))⟩
theorem refRight_gives (w:World):Calls Tryz.prog 22 #[.agg #[.int .i64 fr,.int .i64 pg]] w fun e w'=>e = .returned (.bool (planOk fr pg))/\Below w.heap.size w w':=by
 have hB0:Below w.heap.size w (w.alloc (.cells #[.int .i64 fr,.int .i64 pg] 25)):=(Below.refl _ w).alloc (zG _) _
 have hk:=planOk_iff fr pg
 generalize planOk fr pg=b at *
 by_cases h1:1<=fr
 ·by_cases h2:fr<=2000
  ·by_cases h3:1<=pg
   ·by_cases h4:pg<=2000
    ·have e:b=true:=hk.2 ⟨⟨h1,h2⟩,h3,h4⟩
     subst e
     clear hk
     go_enter Tryz.func22,Tryz.ntmps22
     go_wp2
     go_ret
     exact⟨by first|rfl|simp[h4],hB0⟩
    ·have e:b=false:=by cases b;rfl;exact absurd (hk.1 rfl).2.2 h4
     subst e
     clear hk
     go_enter Tryz.func22,Tryz.ntmps22
     go_wp2
     go_ret
     exact⟨by first|rfl|simp[h4],hB0⟩
   ·have e:b=false:=by cases b;rfl;exact absurd (hk.1 rfl).2.1 h3
    subst e
    clear hk
    go_enter Tryz.func22,Tryz.ntmps22
    go_wp2
    go_ret
    exact⟨by first|rfl|simp[h3],hB0⟩
  ·have e:b=false:=by cases b;rfl;exact absurd (hk.1 rfl).1.2 h2
   subst e
   clear hk
   go_enter Tryz.func22,Tryz.ntmps22
   go_wp2
   go_ret
   exact⟨by first|rfl|simp[h2],hB0⟩
 ·have e:b=false:=by cases b;rfl;exact absurd (hk.1 rfl).1.1 h1
  subst e
  clear hk
  go_enter Tryz.func22,Tryz.ntmps22
  go_wp2
  go_ret
  exact⟨by first|rfl|simp[h1],hB0⟩
end
def lgC (d:Option Addr)(fr pg:Int)(sr ep:Nat)(sz:Int)(A:Option Addr)(n c:Nat):Array Value:=#[.pointer d,.int .i64 fr,.int .i64 pg,.int .u64 (sr:Int),.int .u64 (ep:Int),.int .i64 sz,.slice A n c]
section
variable {w:World}{l d:Nat}{fr pg:Int}{sr ep:Nat}{sz:Int}{A:Option Addr}{n c:Nat}
theorem lnone_gives (hb:BlkIs w l 104 (lgC (some ⟨d,0,none⟩) fr pg sr ep sz A n c)):Calls Tryz.prog 106 #[.pointer (some ⟨l,0,none⟩)] w fun e w'=>e = .returned (.bool false)/\w=w':=by
 have c0:w.cell? ⟨l,0,none⟩=some (.pointer (some ⟨d,0,none⟩)):=by rw[hb.cell];rfl
 go_enter Tryz.func106,Tryz.ntmps106
 go_wp2
 go_ret
 exact⟨rfl,rfl⟩
theorem ldisk_gives (hb:BlkIs w l 104 (lgC (some ⟨d,0,none⟩) fr pg sr ep sz A n c)):Calls Tryz.prog 105 #[.pointer (some ⟨l,0,none⟩)] w fun e w'=>e = .returned (.pointer (some ⟨d,0,none⟩))/\w=w':=by
 have HN:=lnone_gives hb
 have c0:w.cell? ⟨l,0,none⟩=some (.pointer (some ⟨d,0,none⟩)):=by rw[hb.cell];rfl
 go_enter Tryz.func105,Tryz.ntmps105
 go_wp2_with (go_at_call 106;refine HN.mono ?_;rintro e w' ⟨rfl,rfl⟩)
 go_ret
 exact⟨rfl,rfl⟩
theorem lsize_gives (hb:BlkIs w l 104 (lgC (some ⟨d,0,none⟩) fr pg sr ep sz A n c)):Calls Tryz.prog 64 #[.pointer (some ⟨l,0,none⟩)] w fun e w'=>e = .returned (.int .i64 sz)/\w=w':=by
 have HN:=lnone_gives hb
 have c5:w.cell? ⟨l,5,none⟩=some (.int .i64 sz):=by rw[hb.cell];rfl
 go_enter Tryz.func64,Tryz.ntmps64
 go_wp2_with (go_at_call 106;refine HN.mono ?_;rintro e w' ⟨rfl,rfl⟩)
 go_ret
 exact⟨rfl,rfl⟩
end
section
variable {w:World}{v:Value}
end

section
variable (w:World)(p many:Nat)(g:Nat->List UInt8)(xs:List (Nat×List UInt8))(left:Int)(stops:Bool)
end
theorem laid_app (g:Nat->List UInt8)(xs ys:List (Nat×List UInt8)):laid g (xs++ys)=laid (laid g xs) ys:=by unfold laid;rw[List.foldl_append]
theorem laid_one (g:Nat->List UInt8)(xs:List (Nat×List UInt8))(a:Nat)(l:List UInt8)(k:Nat):laid g (xs++[(a,l)]) k=if k=a then l else laid g xs k:=by rw[laid_app];rfl
theorem laid_away:∀(xs:List (Nat×List UInt8)) (g:Nat->List UInt8) (k:Nat),(∀x∈xs,x.1≠k)->laid g xs k=g k
 | [],_,_,_=>rfl
 | x::xs,g,k,h=>by
  have e:laid g (x::xs)=laid (gset g x.1 x.2) xs:=rfl
  rw[e,laid_away xs _ k (fun y hy=>h y (by simp[hy]))]
  have:=h x (by simp)
  unfold gset
  rw[if_neg (fun e=>this e.symm)]
section
variable {ρ:Operand->Value}{w:World}{o:Oper}{x y:Operand}
end
structure FnV where
 f:Nat
 bd:Array Value
 lb:Array Value
def FnV.val (x:FnV):Value:=.func (.func x.f) x.bd x.lb
theorem steps_gives (w:World)(g c:Nat)(fs:List FnV)(I:Nat->World->Prop)(R:Int->World->Prop)(hl:fs.length<=100)
  (hrow:∀(k:Nat) (hk:k<fs.length) W,I k W->W.cell? ⟨g,k,none⟩=some fs[k].val)
  (hdo:∀(k:Nat) (hk:k<fs.length) W,I k W->(∀args W,(callFunc fs[k].f args).run Tryz.prog W = .ok (.enter fs[k].f args) W)/\Calls Tryz.prog fs[k].f (fs[k].bd++fs[k].lb) W fun e w'=>(e = .returned (.int .i64 0)/\I (k+1) w')∨∃x:Int,x≠0/\e = .returned (.int .i64 x)/\R x w')
  (h0:I 0 w) :
  Calls Tryz.prog 97 #[.slice (some ⟨g,0,none⟩) fs.length c] w fun e w'=>(e = .returned (.int .i64 0)/\I fs.length w')∨∃x:Int,x≠0/\e = .returned (.int .i64 x)/\R x w':=by
 go_enter Tryz.func97,Tryz.ntmps97
 go_wp2
 go_loopw [8] (fun i wr=>∃k:Nat,k<=fs.length/\i = .int .i64 (k:Int)/\I k wr) (fun i _=>fs.length - (intOf i).toNat)
 case atStart=>exact⟨0,by omega,rfl,h0⟩
 case round =>
  obtain⟨k,hk,rfl,hI⟩:=hrel
  by_cases hlt:k<fs.length
  ·have hc:=hrow k hlt wr hI
   obtain⟨hent,hcall⟩:=hdo k hlt wr hI
   obtain⟨x,hx⟩:∃x,x=fs[k]:=⟨_,rfl⟩
   rw[<-hx] at hc hent hcall
   have hwk:IntKind.i64.wrap ((k:Int)+1)=(k:Int)+1:=wrap_i64_fr _ (by omega) (by omega)
   obtain⟨xf,xb,xl⟩:=x
   unfold FnV.val at hc
   simp only at hc hent hcall
   clear hx hdo hrow
   go_wp2
   refine hcall.mono ?_
   rintro e w2 (⟨rfl,h1⟩|⟨z,hz,rfl,h1⟩)
   ·go_wp2
    go_roundw
    case rel=>exact⟨k+1,by omega,by simp,h1⟩
    case measure=>simp[intOf];omega
   ·go_wp2
    go_ret
    exact .inr ⟨z,hz,rfl,h1⟩
  ·obtain rfl:k=fs.length:=by omega
   go_wp2
   go_ret
   exact .inl ⟨rfl,hI⟩
def secsOf (G:Nat->List UInt8)(at_:Nat):Nat->List UInt8
 | 0=>[]
 | m+1=>secsOf G at_ m++G (at_+m)
theorem secsOf_length {G:Nat->List UInt8}(hG:∀k,(G k).length=64)(at_:Nat):∀m,(secsOf G at_ m).length=64*m
 | 0=>rfl
 | m+1=>by
  show (secsOf G at_ m++G (at_+m)).length=_
  rw[zY,secsOf_length hG at_ m,hG]
  omega
theorem laid_long {w:World}{p many:Nat}{g:Nat->List UInt8}{xs:List (Nat×List UInt8)}{left:Int}{stops:Bool}(hD:DkIs w p many g xs left stops)(k:Nat):(laid g xs k).length=64:=by
 obtain⟨r,A,c,hb,hm,hw,hx⟩:=hD.has
 exact laid_len xs g hm.len hw k
theorem wread_gives (w:World)(l d many:Nat)(g:Nat->List UInt8)(xs:List (Nat×List UInt8))(left:Int)(stops:Bool)(hD:DkIs w d many g xs left stops)(hs:(stops && left == 0)=false)(hl:xs.length<=1000000)(hc:w.cell? ⟨l,0,none⟩=some (.pointer (some ⟨d,0,none⟩)))(hll:l<w.heap.size)(at_ m:Nat)(ham:at_+m<=many)(hmax:many<=1000000) :
  Calls Tryz.prog 91 #[.pointer (some ⟨l,0,none⟩),.int .i64 (at_:Int),.int .i64 (m:Int)] w fun e w'=>∃A c,e = .returned (.tuple #[.slice A (64*m) c,.int .i64 0])/\InB w' w'.heap.size A c (secsOf (laid g xs) at_ m)/\Below w.heap.size w w':=by
 have hG:=laid_long hD
 have hR:∀(k:Nat) (W:World),k<many->Below w.heap.size w W->Calls Tryz.prog 123 #[.pointer (some ⟨d,0,none⟩),.int .i64 (k:Int)] W fun e w'=>∃q rv,Hid (rv=Value.slice (some ⟨q,0,none⟩) 64 64)/\e = .returned (.tuple #[rv,.int .i64 0])/\InB w' w'.heap.size (some ⟨q,0,none⟩) 64 (laid g xs k)/\Below W.heap.size W w':=fun k W hk hB=>(read_gives W d many g xs left stops (hD.grow hB) hs k hk hl).mono fun e w' ⟨q,h1,h2,h3⟩=>⟨q,_,Lib.hid rfl,h1,h2,h3⟩
 generalize laid g xs=G at *
 clear hD
 go_enter Tryz.func91,Tryz.ntmps91
 go_wp2
 go_loopw [12,6] (fun i v wr=>∃k:Nat,k<=m/\i = .int .i64 (k:Int)/\OwnB wr w.heap.size v (secsOf G at_ k)/\Below w.heap.size w wr) (fun i _ _=>m - (intOf i).toNat)
 case atStart=>exact⟨0,by omega,rfl,OwnB.nil _ _,Below.refl _ _⟩
 case round =>
  obtain⟨k,hk,rfl,own,hB⟩:=hrel
  by_cases hlt:k<m
  ·have hcr:wr.cell? ⟨l,0,none⟩=some (.pointer (some ⟨d,0,none⟩)):=(hB.cell (p:=⟨l,0,none⟩) hll).trans hc
   have hRk:=hR (at_+k) wr (by omega) hB
   have hwa:IntKind.i64.wrap ((at_:Int)+(k:Int))=((at_+k:Nat):Int):=by rw[wrap_i64_fr _ (by omega) (by omega)];omega
   have hwk:IntKind.i64.wrap ((k:Int)+1)=(k:Int)+1:=wrap_i64_fr _ (by omega) (by omega)
   have hlk:=secsOf_length hG at_ k
   have hGk:=hG (at_+k)
   have HLK:=Lib.hid hlk
   have HGK:=Lib.hid hGk
   clear hR hlk hGk
   go_wp2_with (first
    | (go_at_call 123;refine hRk.mono ?_;rintro e w2 ⟨q,rv,HRV,rfl,hin,hB2⟩;have own2:=ownG_grow own hB2;have hBw:=hB.trans (hB2.mono hB.size))
    | (at_builtin;refine wp_appB rfl (.tmp 29) (.tmp 30) rfl w.heap.size u6 (secsOf G at_ k) rfl own2 _ (some ⟨q,0,none⟩) 64 (G (at_+k)) (by rw[HGK.out];exact HRV.out) hin (by rw[HLK.out,HGK.out];omega) hBw.size ?_;intro v3 w3 own3 hg3;have hB3:=hBw.trans (grown_below hg3 hBw.size (ownG_ge own2))))
   go_roundw
   case rel=>exact⟨k+1,by omega,by simp,own3,hB3⟩
   case measure=>simp[intOf];omega
  ·obtain rfl:k=m:=by omega
   obtain⟨A,c,rfl,hin⟩:=own.inB
   have hlk:=secsOf_length hG at_ k
   rw[hlk]
   clear hR
   go_wp2
   exact bodyPost_ret (results_tmp2 rfl _ _ _) rfl ⟨A,c,rfl,hin,hB⟩
end Go.Proofs.YtnlimngkagmjpaaGreat
namespace Go.Proofs.YtnlimngkagmjpaaGreat
open Go Go.RowKit Go.Shelf
attribute [local go_sem] Oper.semAt_some
def Small:Obj->Prop
 | .cells cs _ fr=>cs.size<=64/\fr=(0,0)
 | .loop _=>True
 | .deferred _=>True
 | _=>False
def AbSm {β : Type}(B:Nat)(I : β -> World->Prop):Prop:=∀s X Y row,I s X->X.grownBy Y row->(∀r,row=some r->B<=r/\∃o:Obj,X.heap[r]? = some o/\Small o)->I s Y
theorem AbSm.grow {β : Type}{B:Nat}{I : β -> World->Prop}(h:AbSm B I){s : β}{X Y:World}(hs:I s X)(hg:Below X.heap.size X Y):I s Y:=h s X Y none hs ⟨hg.os,hg.tape,hg.output,hg.size,fun k hk _=>hg.block k hk⟩ (fun r e=>by cases e)
theorem AbSm.alloc {β : Type}{B:Nat}{I : β -> World->Prop}(h:AbSm B I){s : β}{X:World}(o:Obj)(hs:I s X):I s (X.alloc o):=h.grow hs ((Below.refl _ X).alloc (zG _) _)
theorem AbSm.drew {β : Type}{B:Nat}{I : β -> World->Prop}(h:AbSm B I){s : β}{X:World}(hs:I s X):I s X.drew:=h.grow hs (Below.refl _ X).drew
theorem AbSm.putObj {β : Type}{B:Nat}{I : β -> World->Prop}(h:AbSm B I){s : β}{X:World}{l:Nat}{o':Obj}(o:Obj)(hs:I s X)(hl:B<=l)(ho:X.heap[l]? = some o')(hm:Small o'):I s (X.putObj l o) :=
 h s X _ (some l) hs (grownBy_putObj' X l o) (fun r e=>by cases e;exact⟨hl,_,ho,hm⟩)
theorem AbSm.setCell {β : Type}{B:Nat}{I : β -> World->Prop}(h:AbSm B I){s : β}{X:World}{p:Addr}{t:TypeId}{cs:Array Value}(v:Value)(hs:I s X)(hl:B<=p.block)(hb:BlkIs X p.block t cs)(hc:cs.size<=64):I s (X.setCell p v) :=
 h s X _ (some p.block) hs ⟨rfl,rfl,rfl,by simp,fun k _ hk=>Below.heap_setCell X p v k (fun e=>hk (by rw[e]))⟩ (fun r e=>by cases e;exact⟨hl,_,hb,hc,rfl⟩)
def SeqS {α : Type}(F:Fence)(n:Nat)(P:Program)(g:Nat)(lb:Array Value)(encs : α -> Array Value)(Mu:Nat->Prop)(Rd:List α -> α -> World->Prop)(S Sp:List α -> Prop)(w:World):Prop :=
 ∀(l:Nat) (J Jx:List α -> World->Prop) (W:World),Below w.heap.size w W->AbSm W.heap.size J->AbSm W.heap.size Jx ->
  (∀pre x W1,J pre W1->Rd pre x W1->YieldAt F (n - 1) P l (encs x) W1 fun e W' =>
   (e = .returned (.bool true)/\J (pre++[x]) W'/\KeepOut Mu W.heap.size W1 W')∨(e = .returned (.bool false)/\Jx (pre++[x]) W'/\KeepOut (fun _=>True) W.heap.size W1 W')) ->
  J [] W ->
  CallsIn F n P g (#[.func (.yield l) #[] #[]] ++ lb) W fun e W'=>(∃v,e = .returned v)/\((∃xs,S xs/\J xs W')∨(∃pre,Sp pre/\Jx pre W'))
section
variable {F:Fence}{n:Nat}{P:Program}{w:World}
theorem wpIn_rangeFunc_S {α : Type}{g:Operand}{ps:Array Tmp}{assign body:Code}{Q:Exit->Act->World->Prop}{a:Act}
  (hro:F.round=none) (h1:1<=n) {gf:Nat} {lb:Array Value} (hg:a.eval g = .func (.func gf) #[] lb) (hFg:F.fn gf) (eg:∀args w,(callFunc gf args).run P w = .ok (.enter gf args) w)
  {encs : α -> Array Value} {Mu:Nat->Prop} {Rd:List α -> α -> World->Prop} {S Sp:List α -> Prop} {w0:World} (hseq:SeqS F (n - 1) P gf lb encs Mu Rd S Sp w0)
  (hb0:Below w0.heap.size w0 w) (hps:∀x,(encs x).size=ps.size)
  (I:List α -> World->Prop) (Ix:Code->List α -> World->Prop) (hI:AbSm w.heap.size I) (hIx:∀c,AbSm w.heap.size (Ix c)) (hRd:∀pre x,OwnFrom w.heap.size (fun (_:Unit) W=>Rd pre x W)) (h0:I [] w) (a₁ : α -> Act)
  (hassign:∀(l:Nat) (x : α) (W:World) (K:Act->World->Prop),K (a₁ x) W ->
   assign.wpIn (F.inRound l) (n - 1 - 1) P (Exit.then K (fun _ _ _=>False)) { tmps:=(ps.zip (encs x)).foldl (fun t (p,v)=>t.setIfInBounds p v) a.tmps,defers:=[] } W)
  (hbody:∀(l:Nat) (pre:List α) (x : α) (W:World),I pre W->Rd pre x W->body.wpIn (F.inRound l) (n - 1 - 1) P (postR Mu w.heap.size I Ix (pre++[x]) W) (a₁ x) W)
  (hdone:∀(D:Nat) (xs:List α) (W:World),w.heap.size<=D->S xs->I xs W->W.heap[D]? = some (.deferred (some []))->Q .normal { a with defers:={ target:=.collected D,args:=#[] }::a.defers } W)
  (hstop:∀(D:Nat) (c:Code) (pre:List α) (W:World),w.heap.size<=D->Sp pre->Ix c pre W->W.heap[D]? = some (.deferred (some []))->c.wpIn F n P Q { a with defers:={ target:=.collected D,args:=#[] }::a.defers } W) :
  (Code.rangeFunc g ps assign body).wpIn F n P Q a w:=by
 refine wpIn_rangeFunc fun fn hfn => ?_
 rw[hro]
 -- the loop's record, and the world that bears it and the block for deferred calls
 obtain⟨rec,hrec⟩:∃rec:LoopState->Option Code->Loop,rec=fun st pe => { state:=st,pending:=pe,fn,tmps:=a.tmps,params:=ps,assign,body,defers:=w.heap.size }:=⟨_,rfl⟩
 obtain⟨V,hV⟩:∃V,(w.alloc (.deferred (some []))).alloc (.loop (rec .ready none))=V:=⟨_,rfl⟩
 have vL:V.heap[w.heap.size+1]? = some (.loop (rec .ready none)):=by
  subst hV
  have:=World.alloc_heap_new (w.alloc (.deferred (some []))) (.loop (rec .ready none))
  rwa [World.size_alloc] at this
 have vD:V.heap[w.heap.size]? = some (.deferred (some [])):=by
  subst hV
  exact(Below.heap_alloc _ _ _ (by simp)).trans (World.alloc_heap_new w _)
 have vI:I [] V:=by subst hV;exact hI.alloc _ (hI.alloc _ h0)
 have vS:V.heap.size=w.heap.size+2:=by subst hV;simp
 have vB:Below w0.heap.size w0 V:=by
  subst hV
  exact hb0.trans ((((Below.refl _ w).alloc (zG _) _).alloc (by simp) _).mono hb0.size)
 refine⟨w.heap.size+1,[{ target:=.collected w.heap.size,args:=#[] }],V,{ target:=.fn (.func gf) lb,args:=#[.func (.yield (w.heap.size+1)) #[] #[]] },V,gf,#[.func (.yield (w.heap.size+1)) #[] #[]] ++ lb,V,?_,?_,?_,?_,fun _=>h1,?_⟩
 ·rw[<-hV,hrec];exact run_enterLoop_outer _ _ _ _ _
 ·simp only[resolve,hg]
  simp[go_sem]
 ·intro f' hf'
  simp[Target.leads] at hf'
  subst hf'
  exact hFg
 ·simp[invoke,go_sem,eg]
 have apart:∀{A B:World} {row:Option Nat} {k:Nat} {o:Obj},A.heap[k]? = some o->A.grownBy B row->(∀r,row=some r->V.heap.size<=r)->k<V.heap.size->B.heap[k]? = some o:=fun hk hg hr hlt =>
  (hg.block _ (zH.1 hk).1 (fun e=>by have:=hr _ e.symm;omega)).trans hk
 refine(hseq (w.heap.size+1)
  (fun pre W=>I pre W/\W.heap[w.heap.size+1]? = some (.loop (rec .ready none))/\W.heap[w.heap.size]? = some (.deferred (some [])))
  (fun pre W=>∃c,Ix c pre W/\W.heap[w.heap.size+1]? = some (.loop (rec .done (some c)))/\W.heap[w.heap.size]? = some (.deferred (some [])))
  V vB
  (fun s A B row hs hg' hr=>⟨hI s A B row hs.1 hg' (fun r e=>⟨by have:=(hr r e).1;omega,(hr r e).2⟩),apart hs.2.1 hg' (fun r e=>(hr r e).1) (by omega),apart hs.2.2 hg' (fun r e=>(hr r e).1) (by omega)⟩)
  (fun s A B row hs hg' hr=>by
   obtain⟨c,hc,hl,hk⟩:=hs
   exact⟨c,hIx c s A B row hc hg' (fun r e=>⟨by have:=(hr r e).1;omega,(hr r e).2⟩),apart hl hg' (fun r e=>(hr r e).1) (by omega),apart hk hg' (fun r e=>(hr r e).1) (by omega)⟩)
  ?round ⟨vI,vL,vD⟩).mono ?behind
 case round =>
  rintro pre x W ⟨hi,hl,hk⟩ hrd
  have hlt:w.heap.size+1<W.heap.size:=(zH.1 hl).1
  have hy:=run_yield (P:=P) (args:=encs x) hl (by rw[hrec];exact hps x)
  rw[hrec] at hy
  refine⟨fn,_,assign,body,hy,roundIn_of_wpIn hfn (hassign _ x W _ ⟨_,run_beginRound hl (by rw[hrec]),?_⟩)⟩
  clear hy
  have bL:(W.putObj (w.heap.size+1) (.loop { rec .ready none with state:=.busy })).heap[w.heap.size+1]? = some (.loop { rec .ready none with state:=.busy }):=World.putObj_heap_same hlt
  have bD:(W.putObj (w.heap.size+1) (.loop { rec .ready none with state:=.busy })).heap[w.heap.size]? = some (.deferred (some [])):=(World.putObj_heap_other (by omega)).trans hk
  refine wpIn_mono (hbody _ pre x _ (hI.putObj _ hi (by omega) hl trivial) ((hRd pre x).putObj (s:=()) _ hrd (by omega) hl rfl)) ?_
  -- the round's end
  have fin:∀(jump:Option Code) (U:World),KeepOut (fun _=>True) w.heap.size (W.putObj (w.heap.size+1) (.loop { rec .ready none with state:=.busy })) U ->
    (Instr.endRound (w.heap.size+1) jump).run P U = .ok (.bool jump.isNone) (U.putObj (w.heap.size+1) (.loop (rec (if jump.isNone then .ready else .done) jump))) /\
    U.heap[w.heap.size+1]? = some (.loop { rec .ready none with state:=.busy }) /\
    (U.putObj (w.heap.size+1) (.loop (rec (if jump.isNone then .ready else .done) jump))).heap[w.heap.size+1]? = some (.loop (rec (if jump.isNone then .ready else .done) jump)) /\
    (U.putObj (w.heap.size+1) (.loop (rec (if jump.isNone then .ready else .done) jump))).heap[w.heap.size]? = some (.deferred (some [])):=fun jump U hkU=>by
   have uL:=hkU.2 _ _ bL (fun h=>by omega)
   have:=run_endRound (P:=P) jump uL
   rw[hrec] at this ⊢
   exact⟨this,by rw[hrec] at uL;exact uL,World.putObj_heap_same (zH.1 uL).1,(World.putObj_heap_other (by omega)).trans (hkU.2 _ _ bD (fun h=>by omega))⟩
  have out:∀(c:Code) (U:World),KeepOut (fun _=>True) w.heap.size (W.putObj (w.heap.size+1) (.loop { rec .ready none with state:=.busy })) U->Ix c (pre++[x]) U ->
    (∃c',Ix c' (pre++[x]) (U.putObj (w.heap.size+1) (.loop (rec .done (some c))))/\(U.putObj (w.heap.size+1) (.loop (rec .done (some c)))).heap[w.heap.size+1]? = some (.loop (rec .done (some c')))/\(U.putObj (w.heap.size+1) (.loop (rec .done (some c)))).heap[w.heap.size]? = some (.deferred (some [])))/\KeepOut (fun _=>True) V.heap.size W (U.putObj (w.heap.size+1) (.loop (rec .done (some c)))):=fun c U hkU hix=>by
   obtain⟨_,h3,h4,h5⟩:=fin (some c) U hkU
   refine⟨⟨c,(hIx c).putObj _ hix (by omega) h3 trivial,h4,h5⟩,by have:=hkU.1;simpa using this,fun k o hk hm => ?_⟩
   have hkl:k≠w.heap.size+1:=fun e=>hm (by omega) trivial
   rw[World.putObj_heap_other hkl]
   exact hkU.2 k o (by rw[World.putObj_heap_other hkl];exact hk) (fun h=>hm (by omega))
  rintro e a3 U hp
  cases e with
  | normal =>
   obtain⟨hk3,hi3⟩:=hp
   obtain⟨hr,h3,h4,h5⟩:=fin none U hk3.any
   refine⟨_,_,hr,.inl ⟨rfl,⟨hI.putObj _ hi3 (by omega) h3 trivial,h4,h5⟩,by have:=hk3.1;simpa using this,fun k o hk hm => ?_⟩⟩
   by_cases hkl:k=w.heap.size+1
   ·subst hkl
    rw[hl] at hk
    rw[<-hk]
    exact h4
   ·rw[World.putObj_heap_other hkl]
    exact hk3.2 k o (by rw[World.putObj_heap_other hkl];exact hk) (fun h=>hm (by omega))
  | ret=>exact⟨_,_,(fin (some .ret) U hp.1).1,.inr ⟨rfl,out .ret U hp.1 hp.2⟩⟩
  | exit id=>exact⟨_,_,(fin (some (.exit id)) U hp.1).1,.inr ⟨rfl,out (.exit id) U hp.1 hp.2⟩⟩
  | goto t=>exact⟨_,_,(fin (some (.goto t)) U hp.1).1,.inr ⟨rfl,out (.goto t) U hp.1 hp.2⟩⟩
  | panic ch=>exact hp.elim
  | outgrown=>exact hp.elim
 case behind =>
  rintro e U ⟨⟨v,rfl⟩,(⟨xs,hS,hi,hl,hk⟩|⟨pre,hSp,c,hi,hl,hk⟩)⟩
  ·have hr:=run_endLoop (P:=P) hl (by rw[hrec];simp)
   rw[hrec] at hr
   exact⟨none,_,hr,hdone _ xs _ (zG _) hS (hI.putObj _ hi (by omega) hl trivial) ((World.putObj_heap_other (by omega)).trans hk)⟩
  ·have hr:=run_endLoop (P:=P) hl (by rw[hrec];simp)
   rw[hrec] at hr
   exact⟨some c,_,hr,hstop _ c pre _ (zG _) hSp ((hIx c).putObj _ hi (by omega) hl trivial) ((World.putObj_heap_other (by omega)).trans hk)⟩
end
end Go.Proofs.YtnlimngkagmjpaaGreat
namespace Go.Proofs.YtnlimngkagmjpaaGreat
open Go Go.RowKit Lou Go.Shelf
attribute [local go_sem] Oper.semAt_some
theorem chunk1_inS (n:Nat)(hn2:2<=n)(l Bs Bn g o c L:Nat)(A:Option Addr)(hA:0<L->A=some ⟨g,o,none⟩)(hLc:L<=c)(hL:L<=1000000)(hcm:c<=9223372036854775807)(J Jx:List Nat->World->Prop)(Mu:Nat->Prop)(hMs:¬ Mu Bs)(hMn:¬ Mu Bn)(BE:Nat)
  (hY:∀pre k W,J pre W->(k=pre.length/\64*k<L)->YieldAt Fence.wide (n - 1) Tryz.prog l #[.slice (some ⟨g,o+64*k,none⟩) (chLen L k) (chLen L k)] W fun e W' =>
   (e = .returned (.bool true)/\J (pre++[k]) W'/\KeepOut Mu BE W W')∨(e = .returned (.bool false)/\Jx (pre++[k]) W'/\KeepOut (fun _=>True) BE W W'))
  (W:World) (hJA:AbSm W.heap.size J) (hcs:W.cell? ⟨Bs,0,none⟩=some (.slice A L c)) (hcn:W.cell? ⟨Bn,0,none⟩=some (.int .i64 64)) (h0:J [] W) :
  CallsIn Fence.wide n Tryz.prog 214 #[.func (.yield l) #[] #[],.pointer (some ⟨Bs,0,none⟩),.pointer (some ⟨Bn,0,none⟩)] W fun e W'=>(∃v,e = .returned v) /\
   ((∃ys,ys.length=chAll L/\J ys W')∨(∃pre,pre.length<=chAll L/\Jx pre W')):=by
 have h1:1<=n:=by omega
 refine callsIn_of_wp Tryz.func214 rfl trivial ?_ rfl
 simp only[Tryz.ntmps214,zS,zN,qB,qH,qI,zU,zV,zZ,zX,zQ,zW]
 gi_wp2
 gi_loopw [4] (fun i wr=>∃(q:Nat) (pre:List Nat),i = .int .i64 q/\q=64*pre.length/\q<L+64/\J pre wr/\Keep2 Bs Bn W wr)
  (fun i _=>L+64 - (intOf i).toNat)
 case atStart=>exact⟨0,[],rfl,rfl,by omega,h0,rfl,rfl⟩
 case round =>
  obtain⟨q,pre,rfl,hq,hb,hJs,hnx⟩:=hrel
  have hc1:wr.cell? ⟨Bs,0,none⟩=some (.slice A L c):=hnx.1.trans hcs
  have hc2:wr.cell? ⟨Bn,0,none⟩=some (.int .i64 64):=hnx.2.trans hcn
  by_cases hlt:q<L
  ·obtain rfl:=hA (by omega)
   obtain⟨m,hm2⟩:∃m,m=chLen L pre.length:=⟨_,rfl⟩
   have hm:(if ((L - q:Nat):Int)<64 then ((L - q:Nat):Int) else 64)=(m:Int):=by
    rw[hm2]
    unfold chLen
    rw[<-hq]
    split<;>omega
   have hm0:0<m:=by rw[hm2];unfold chLen;omega
   have hm3:q+m<=L:=by rw[hm2];unfold chLen;omega
   have hm64:m<=64:=by rw[hm2];unfold chLen;omega
   have hJd:J pre wr.drew:=hJA.drew hJs
   obtain⟨fn,tmps,assign,body,hy,hR⟩:=hY pre pre.length wr.drew hJd ⟨rfl,by omega⟩
   rw[<-hm2,<-hq] at hy
   have hwm:IntKind.i64.wrap ((q:Int)+(m:Int))=(q:Int)+(m:Int):=wrap_i64_id' _ (by omega) (by omega)
   have hw64:IntKind.i64.wrap ((q:Int)+64)=(q:Int)+64:=wrap_i64_id' _ (by omega) (by omega)
   have HQ:=Lib.hid hq
   have HM:=Lib.hid hm2
   clear hq hm2
   gi_wp2
   gi_region
   gi_wp2
   refine hR.mono ?_
   have hQ:=HQ.out
   rintro e W3 (⟨rfl,hJ3,hk3⟩|⟨rfl,hJx3,_⟩)
   ·have hc2':W3.cell? ⟨Bn,0,none⟩=some (.int .i64 64):=hk3.cell (p:=⟨Bn,0,none⟩) hc2 (fun _=>hMn)
    have hnx3:Keep2 Bs Bn W W3:=⟨(hk3.cell (p:=⟨Bs,0,none⟩) hc1 (fun _=>hMs)).trans hcs.symm,hc2'.trans hcn.symm⟩
    clear hQ
    gi_wp2
    go_roundw
    case rel=>exact⟨q+64,pre++[pre.length],rfl,by simp;have:=HQ.out;omega,by omega,hJ3,hnx3⟩
    case measure=>simp[intOf];omega
   ·have hl:(pre++[pre.length]).length<=chAll L:=by simp;unfold chAll;omega
    clear hQ
    gi_wp2
    exact bodyPost_ret (results_none rfl _ _ _) rfl ⟨⟨_,rfl⟩,.inr ⟨_,hl,hJx3⟩⟩
  ·obtain⟨hs⟩:Nonempty (pre.length=chAll L):=⟨by unfold chAll;omega⟩
   gi_wp2
   go_end0
   exact⟨⟨_,rfl⟩,.inl ⟨pre,hs,hJs⟩⟩
theorem chunk1_seqS (n:Nat)(hn2:2<=n)(Bs Bn g o c L:Nat)(A:Option Addr)(hA:0<L->A=some ⟨g,o,none⟩)(hLc:L<=c)(hL:L<=1000000)(hcm:c<=9223372036854775807)(Mu:Nat->Prop)(hMs:¬ Mu Bs)(hMn:¬ Mu Bn)(w:World)(hBs:Bs<w.heap.size)(hBn:Bn<w.heap.size)
  (hcs:w.cell? ⟨Bs,0,none⟩=some (.slice A L c)) (hcn:w.cell? ⟨Bn,0,none⟩=some (.int .i64 64)) :
  SeqS Fence.wide n Tryz.prog 214 #[.pointer (some ⟨Bs,0,none⟩),.pointer (some ⟨Bn,0,none⟩)] (fun k:Nat=>#[.slice (some ⟨g,o+64*k,none⟩) (chLen L k) (chLen L k)]) Mu
   (fun pre k _=>k=pre.length/\64*k<L) (fun ys=>ys.length=chAll L) (fun pre=>pre.length<=chAll L) w:=fun l J Jx W hW hJ _ hY h0 =>
 chunk1_inS n hn2 l Bs Bn g o c L A hA hLc hL hcm J Jx Mu hMs hMn W.heap.size hY W hJ ((hW.cell (p:=⟨Bs,0,none⟩) hBs).trans hcs) ((hW.cell (p:=⟨Bn,0,none⟩) hBn).trans hcn) h0
section
variable {n₀:Nat}
theorem cut1_inS (n:Nat)(hn5:6<=n)(l gB:Nat)(A:Option Addr)(c:Nat)(b:List UInt8)(hb:b.length<=1000000)(J Jx:List (Nat×(Option Addr×Nat))->World->Prop)(W:World)
  (Mu:Nat->Prop) (hMu:0<b.length->∀g o,A=some ⟨g,o,none⟩->¬ Mu g) (hJA:AbSm W.heap.size J) (hJxA:AbSm W.heap.size Jx)
  (hY:∀pre (x:Nat×(Option Addr×Nat)) W1,J pre W1->(x.1=pre.length/\64*x.1<b.length/\InB W1 W1.heap.size x.2.1 x.2.2 (chunkB b x.1))->YieldAt Fence.wide (n - 1) Tryz.prog l #[.int .i64 (x.1:Int),.slice x.2.1 (chLen b.length x.1) x.2.2] W1 fun e W' =>
   (e = .returned (.bool true)/\J (pre++[x]) W'/\KeepOut Mu W.heap.size W1 W')∨(e = .returned (.bool false)/\Jx (pre++[x]) W'/\KeepOut (fun _=>True) W.heap.size W1 W'))
  (hg:gB<n₀) (hn0:n₀<=W.heap.size) (hcg:W.cell? ⟨gB,0,none⟩=some (.slice A b.length c)) (hin:InB W n₀ A c b) (h0:J [] W) :
  CallsIn Fence.wide n Tryz.prog 183 #[.func (.yield l) #[] #[],.pointer (some ⟨gB,0,none⟩)] W fun e W'=>(∃v,e = .returned v) /\
   ((∃ys,ys.length=chAll b.length/\J ys W')∨(∃pre,pre.length<=chAll b.length/\Jx pre W')):=by
 have hle:=hin.le
 have hmax:=hin.max
 have h1:1<=n:=by omega
 refine callsIn_of_wp_marks Tryz.func183 rfl trivial ?_ rfl
 simp only[Tryz.ntmps183,zS,zN,qB,qH,qI,zU,zV,zZ,zX,zQ,zW]
 gi_wp2
 refine wpIn_scope_wide ?_
 gi_wp2
 refine wpIn_label ?_
 have hB0:Below n₀ W ((W.alloc (.cells #[.func (.yield l) #[] #[]] 97)).alloc (.cells #[.int .i64 0] 3)):=((Below.refl _ W).alloc hn0 _).alloc (by simp;omega) _
 have hcg2:=(hB0.cell (p:=⟨gB,0,none⟩) hg).trans hcg
 gi_wp2_with (refine⟨trivial,?_⟩;gi_at_call 184;refine(chunk_in (n - 1) _ _ _ _).mono ?_;rintro e w' ⟨rfl,rfl⟩)
 obtain⟨W2,hW2⟩:∃W2,W2=(W.alloc (.cells #[.func (.yield l) #[] #[]] 97)).alloc (.cells #[.int .i64 0] 3):=⟨_,rfl⟩
 have s2:W2.heap.size=W.heap.size+1+1:=by rw[hW2];simp
 have hy2:BlkIs W2 W.heap.size 97 #[.func (.yield l) #[] #[]]:=by rw[hW2];exact(BlkIs.new W _ _).alloc _
 have hn2:BlkIs W2 (W.heap.size+1) 3 #[.int .i64 ((0:Nat):Int)]:=by
  have:=BlkIs.new (W.alloc (.cells #[.func (.yield l) #[] #[]] 97)) 3 #[.int .i64 ((0:Nat):Int)]
  rw[World.size_alloc] at this
  rw[hW2]
  exact this
 have hJ2:J [] W2:=by rw[hW2];exact hJA.alloc _ (hJA.alloc _ h0)
 rw[<-hW2] at hB0 ⊢
 clear hW2 hcg2
 obtain⟨W4,hW4⟩:∃W4,W4=(W2.alloc (.cells #[.slice A b.length c] 22)).alloc (.cells #[.int .i64 64] 3):=⟨_,rfl⟩
 have s4:W4.heap.size=W.heap.size+4:=by rw[hW4];simp;omega
 have hy4:BlkIs W4 W.heap.size 97 #[.func (.yield l) #[] #[]]:=by rw[hW4];exact(hy2.alloc _).alloc _
 have hn4:BlkIs W4 (W.heap.size+1) 3 #[.int .i64 ((0:Nat):Int)]:=by rw[hW4];exact(hn2.alloc _).alloc _
 have hJ4:J [] W4:=by rw[hW4];exact hJA.alloc _ (hJA.alloc _ hJ2)
 have hB4:Below n₀ W W4:=by rw[hW4];exact(hB0.alloc (by omega) _).alloc (by simp;omega) _
 have hcs4:W4.cell? ⟨W.heap.size+1+1,0,none⟩=some (.slice A b.length c):=by rw[hW4,<-s2];exact((BlkIs.new W2 22 #[.slice A b.length c]).alloc _).boxed
 have hcn4:W4.cell? ⟨W.heap.size+1+1+1,0,none⟩=some (.int .i64 64):=by
  have:=(BlkIs.new (W2.alloc (.cells #[.slice A b.length c] 22)) 3 #[.int .i64 64]).boxed
  rw[World.size_alloc,s2] at this
  rw[hW4]
  exact this
 rw[<-hW4]
 clear hW4 hy2 hn2 hJ2 hB0
 obtain⟨g,o,hA⟩:∃g o,0<b.length->A=some ⟨g,o,none⟩:=by
  by_cases hb0:0<b.length
  ·obtain⟨g,o,e,_⟩:=hin.lies hb0
   exact⟨g,o,fun _=>e⟩
  ·exact⟨0,0,fun h=>absurd h hb0⟩
 refine wpIn_rangeFunc_S rfl h1 (gf:=214) (lb:=#[.pointer (some ⟨W.heap.size+1+1,0,none⟩),.pointer (some ⟨W.heap.size+1+1+1,0,none⟩)]) rfl trivial (enters_of Tryz.func214 (by kernel_rfl) rfl)
  (chunk1_seqS (n - 1) (by omega) (W.heap.size+1+1) (W.heap.size+1+1+1) g o c b.length A hA hle hb hmax (fun k=>(k<W.heap.size/\Mu k)∨k=W.heap.size+1) (by omega) (by omega) W4 (by omega) (by omega) hcs4 hcn4) (Below.refl _ _) (fun _=>rfl)
  (fun pre V=>(∃xs:List (Nat×(Option Addr×Nat)),xs.length=pre.length/\J xs V)/\BlkIs V W.heap.size 97 #[.func (.yield l) #[] #[]]/\BlkIs V (W.heap.size+1) 3 #[.int .i64 (pre.length:Int)]/\InB V n₀ A c b/\W.heap.size<=V.heap.size)
  (fun cd pre V=>cd = .exit 0/\∃xs:List (Nat×(Option Addr×Nat)),xs.length=pre.length/\Jx xs V)
  ?own ?own2 ?ownR ⟨⟨[],rfl,hJ4⟩,hy4,hn4,hin.below hB4,by omega⟩ ?act ?assign ?body ?done ?stop
 case own =>
  rintro pre X Y row ⟨⟨xs,hx,hJ⟩,h1,h2,h3,h4⟩ hgr hr
  exact⟨⟨xs,hx,hJA xs X Y row hJ hgr (fun r e=>⟨by have:=(hr r e).1;omega,(hr r e).2⟩)⟩,h1.abNew (by omega) hgr (fun r e=>(hr r e).1),h2.abNew (by omega) hgr (fun r e=>(hr r e).1),h3.grown (by omega) hgr (fun r e=>by have:=(hr r e).1;omega),zP h4 hgr.size⟩
 case own2 =>
  rintro cd pre X Y row ⟨e,xs,hx,hJ⟩ hgr hr
  exact⟨e,xs,hx,hJxA xs X Y row hJ hgr (fun r e=>⟨by have:=(hr r e).1;omega,(hr r e).2⟩)⟩
 case ownR=>exact fun pre x=>ownFrom_pure _ _
 case assign =>
  intro l1 x V K hK
  gi_wp2
  exact hK
 case body =>
  rintro l1 pre k V ⟨⟨xs,hxs,hJ⟩,hy,hnb,hB,hWV⟩ ⟨rfl,hkl⟩
  have hcy:=hy.boxed
  have hcn:=hnb.boxed
  have hfn:=hnb.free 0
  have h11:1<=n - 1 - 1:=by omega
  obtain rfl:=hA (by omega)
  have hinV:=chunk_inB hB hkl
  have hC:=clone_gives V.drew _ _ _ ((hinV.drew).more (show n₀<=V.drew.heap.size by show n₀<=V.heap.size;omega)) (by rw[chunkB_length];unfold chLen;omega)
  rw[chunkB_length] at hC
  gi_wp2
  gi_region_with (first
   | (refine⟨trivial,?_⟩;gi_at_call 67;refine(CallsIn.inRound l1 (callsIn_wide.2 hC)).mono ?_;rintro e W6 ⟨v6,rfl,own6,hB6⟩;obtain⟨A6,c6,rfl,hin6⟩:=own6.inB;rw[chunkB_length];have hBV:Below V.heap.size V W6:=(Below.refl _ V).drew.trans hB6;have hJ6:J xs W6:=hJA.grow hJ hBV;have hxs':pre.length=xs.length:=hxs.symm;obtain⟨fn,tmps,assign,body,hyy,hR⟩:=hY xs (pre.length,(A6,c6)) W6 hJ6 ⟨hxs',hkl,hin6⟩;have hy6:=hy.below hBV hy.lt;have hn6:=hnb.below hBV hnb.lt;have hcy6:=hy6.boxed;have hcn6:=hn6.boxed;have hBB6:=hB.below (hBV.mono (show n₀<=V.heap.size by omega));simp only at hyy;clear hxs')
   | (refine(RoundIn.anyRound hR).mono ?_;rintro e W7 hout;obtain⟨r,rfl,hr⟩:=yield_out hout;clear hout))
  all_goals
   have s6:=hBV.size
   have k6:=KeepOut.grow (fun k=>(k<W.heap.size/\Mu k)∨k=W.heap.size+1) W4.heap.size hBV
   have hwk:IntKind.i64.wrap ((pre.length:Int)+1)=(pre.length:Int)+1:=wrap_i64_id' _ (by omega) (by omega)
   rcases hr with⟨rfl,hJ7,hk7⟩|⟨rfl,hJx7,hk7⟩
   ·have hy7:=hk7.blk hy6 (fun h=>by omega)
    have hn7:=hk7.blk hn6 (fun h=>by omega)
    have hb7:=hk7.inB2 hBB6 hMu
    have hcn7:=hn7.boxed
    have hfn7:=hn7.free 0
    gi_wp2
    refine⟨(k6.trans ⟨hk7.1,fun k o hk hm=>hk7.2 k o hk (fun h hmu=>hm (by omega) (.inl ⟨h,hmu⟩))⟩).trans (KeepOut.setCell _ ⟨W.heap.size+1,0,none⟩ _ (by simp;omega) (.inr rfl)),⟨xs++[(pre.length,A6,c6)],by simp[hxs],hJA.setCell (p:=⟨W.heap.size+1,0,none⟩) _ hJ7 (by simp) hn7 (by show 1<=64;decide)⟩,hy7.other (by simp) _,?_,hb7.keep (fun p hp=>World.cell?_setCell_other _ _ _ _ (fun e=>by subst e;simp at hp;omega)),?_⟩
    ·have:=hn7.set 0 (.int .i64 ((pre.length:Int)+1))
     simpa using this
    ·have:=hk7.1
     simp
     omega
   ·gi_wp2
    exact⟨k6.any.trans ⟨hk7.1,fun k o hk hm=>hk7.2 k o hk (fun h=>hm (by omega))⟩,rfl,xs++[(pre.length,A6,c6)],by simp[hxs],hJx7⟩
 case done =>
  rintro D ys V hD hS ⟨⟨xs,hx,hJ⟩,_⟩ hK
  gi_wp2
  simp only[Exit.noGoto]
  refine⟨by simp,.inl ⟨_,_,rfl,run_takeDeferred hK,?_⟩⟩
  exact⟨_,results_none rfl _ _ _,⟨_,rfl⟩,.inl ⟨xs,by rw[hx,hS],hJA.putObj _ hJ (by omega) hK trivial⟩⟩
 case stop =>
  rintro D cd pre V hD hS ⟨rfl,xs,hx,hJ⟩ hK
  gi_wp2
  simp only[Exit.noGoto]
  refine⟨by simp,.inl ⟨_,_,rfl,run_takeDeferred hK,?_⟩⟩
  exact⟨_,results_none rfl _ _ _,⟨_,rfl⟩,.inr ⟨xs,by rw[hx];exact hS,hJxA.putObj _ hJ (by omega) hK trivial⟩⟩
theorem cut1_seqS (n:Nat)(hn5:6<=n)(gB:Nat)(A:Option Addr)(c:Nat)(b:List UInt8)(hb:b.length<=1000000)(Mu:Nat->Prop)(hMu:0<b.length->∀g o,A=some ⟨g,o,none⟩->¬ Mu g)(w:World)(hg:gB<n₀)(hn0:n₀<=w.heap.size)
  (hcg:w.cell? ⟨gB,0,none⟩=some (.slice A b.length c)) (hin:InB w n₀ A c b) :
  SeqS Fence.wide n Tryz.prog 183 #[.pointer (some ⟨gB,0,none⟩)] (cutEnc b.length) Mu (CutRd b) (fun ys=>ys.length=chAll b.length) (fun pre=>pre.length<=chAll b.length) w:=fun l J Jx W hW hJ hJx hY h0 =>
 cut1_inS n hn5 l gB A c b hb J Jx W Mu hMu hJ hJx hY hg (zP hn0 hW.size) ((hW.cell (p:=⟨gB,0,none⟩) (by simp;omega)).trans hcg) (hin.below (hW.mono hn0)) h0
end
end Go.Proofs.YtnlimngkagmjpaaGreat
namespace Go.Proofs.YtnlimngkagmjpaaGreat
open Go Go.RowKit Lou
def NoOut (Q:Exit->Act->World->Prop):Exit->Act->World->Prop
 | .outgrown,_,_=>False
 | e,a,w=>Q e a w
theorem NoOut.imp {Q:Exit->Act->World->Prop}:∀(e:Exit) (a:Act) (w:World),NoOut Q e a w->Q e a w:=fun e a w h=>by
 cases e<;>first|exact h|exact(h:False).elim
theorem NoOut.stays {Q:Exit->Act->World->Prop}:¬ LetsOut (NoOut Q):=fun ⟨_,_,h⟩=>h
def noDefer (ops:Array Oper):Bool:=ops.toList.all fun o=>match o.op with | .defer _=>false|_=>true
section
variable {P:Program}{ops:Array Oper}{Q:Exit->Act->World->Prop}{n l:Nat}
theorem oper_inRound {o:Oper}{a:Act}{w:World}{K K':Act->World->Prop}(hd:∀c,o.op≠.defer c)(hK:∀a w,K a w->K' a w)(h:o.wp P a w K (NoOut Q)):o.wpIn (Fence.wide.inRound l) n P a w K' (NoOut Q):=by
 refine⟨fun _ _=>trivial,?_⟩
 have e:o.semAt (Fence.wide.inRound l).round a.eval=execOp a.eval o:=Oper.semAt_some l _ o hd
 rw[e]
 unfold Oper.wp at h
 generalize (execOp a.eval o).run P w=r at *
 have nd:∀{p:Prop},((Fence.wide.inRound l).depth.isSome=true->p):=fun h=>by cases h
 cases r with
 | ok x w' =>
  cases x<;>simp only[Oper.upon,Oper.uponIn] at h ⊢ <;>
   first
    | exact hK _ _ h
    | (refine⟨nd,CallsIn.inRound l ((callsIn_wide.2 h).mono fun e w'' he => ?_)⟩;cases e<;>first|exact hK _ _ he|exact he)
    | exact⟨nd,fun c cs _=>let ⟨v,w'',r,s⟩:=h c cs;⟨v,w'',hK _ _ r,stepsIn_wide.2 s⟩⟩
    | exact h.elim
 | halt x w'=>cases x<;>simp only[Oper.upon,Oper.uponIn] at h ⊢<;>first|exact h|exact h.elim
theorem noDefer_spec (h:noDefer ops=true){i:Nat}{o:Oper}(ho:ops[i]? = some o):∀c,o.op≠.defer c:=by
 intro c hc
 unfold noDefer at h
 rw[qG] at h
 have hm:o∈ops.toList:=by
  obtain⟨h1,h2⟩:=zH.1 ho
  subst h2
  simp
 have:=h o hm
 rw[hc] at this
 cases this
theorem wpAny_inRound (hd:noDefer ops=true):∀(fuel:Nat) (listed:Array Bool) (a:Act) (w:World),wpAny P .any ops (NoOut Q) fuel listed a w->wpAnyIn (Fence.wide.inRound l) n P .any ops (NoOut Q) fuel listed a w:=by
 intro fuel
 induction fuel with
 | zero=>exact fun listed a w h=>h
 | succ fuel ih =>
  intro listed a w h
  refine⟨h.1,fun i hi => ?_⟩
  have hs:=h.2 i hi
  unfold wpOp at hs
  unfold wpOpIn
  split
  ·rename_i ho
   rw[ho] at hs
   exact ih _ _ _ hs
  ·rename_i o ho
   rw[ho] at hs
   simp only at hs
   by_cases hw:Region.wanted o (yielded ops a.tmps)=true
   ·rw[if_pos hw] at hs ⊢
    rcases hs with h1|⟨_,h2⟩
    ·exact oper_inRound (noDefer_spec hd ho) (fun a w=>ih _ a w) h1
    ·exact(NoOut.stays h2).elim
   ·rw[if_neg hw] at hs ⊢
    exact⟨fun _ _=>trivial,ih _ _ _ hs⟩
end
namespace Reg
end Reg
end Go.Proofs.YtnlimngkagmjpaaGreat
namespace Go.Proofs.YtnlimngkagmjpaaGreat
open Go Go.RowKit Lou Go.Shelf
attribute [local go_sem] Oper.semAt_some
theorem BlkIs.abN {B g:Nat}{t:TypeId}{cs:Array Value}(hg:g<B){W W':World}{row:Option Nat}(h:BlkIs W g t cs)(hgr:W.grownBy W' row)(hr:∀r,row=some r->B<=r):BlkIs W' g t cs :=
 h.grown hgr (fun e=>by have:=hr g e.symm;omega)
theorem below_abN {B n₀:Nat}{w:World}(hB:n₀<=B){W W':World}{row:Option Nat}(hw:n₀<=W.heap.size)(h:Below n₀ w W)(hgr:W.grownBy W' row)(hr:∀r,row=some r->B<=r):Below n₀ w W' :=
 h.trans (grown_below hgr hw (fun r e=>zP hB (hr r e)))
theorem run_eqF_nil {P:Program}{ps rs:Array TypeId}{vd:Bool}(d:Nat)(t:TypeId)(w:World)(f:Fn)(xs ys:Array Value)(h:P.underlying t=some (.func ps rs vd)):(Op.equalIn (d+1) t (.func f xs ys) .nilFunc).run P w = .ok false w:=by
 simp[Op.equalIn,run_underlying h,Result.andThen]
theorem wpI_stopB {F:Fence}{n id:Nat}{P:Program}{C:Code}{Q:Exit->Act->World->Prop}{a0:Act}{w0:World}(S:Act->Act->World->Prop)(h1:∀Q':Exit->Act->World->Prop,(∀a w,S a0 a w->Q' .normal a w)->C.wpIn F n P Q' a0 w0)(h2:∀a w,S a0 a w->Q .normal a w):C.wpIn F n P (Exit.inBlock id Q) a0 w0 :=
 h1 _ h2
theorem putObj_oth (V:World)(D:Nat)(o:Obj){g:Nat}(h:D≠g):(V.putObj D o).heap[g]? = V.heap[g]?:=by
 simp[World.putObj,h]
theorem results_cellQ {fn:Func}{P:Program}{a:Act}{w:World}{v:Value}{p:Addr}{t:TypeId}(k:Tmp)(h:fn.results=#[.cell k t])(hk:a.eval (.tmp k) = .pointer (some p))(hagg:(isAgg t).run P w = .ok false w)(hv:w.cell? p=some v):(results fn a.tmps).run P w = .ok v w:=by
 have e:a.tmps.getD k undef = .pointer (some p):=hk
 unfold results
 simp only[h]
 simp[-zT,e,loadVar,asAddr,hagg,hv,Result.andThen]
end Go.Proofs.YtnlimngkagmjpaaGreat
