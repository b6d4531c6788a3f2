/- Texts that the proof of PagerNone leans on, part 13. -/
import Derived.Test.YtnlimngkagmjpaaGreatPagerNoneB12
open List renaming map_cons → zK, length_append → zY, length_cons → zN, take_succ_eq_append_getElem → qC, replicate → zR, nil_append → zQ, take_of_length_le → qA, setIfInBounds_toArray → zA, set_cons_succ → zE, getElem_mem → qJ, length_nil → qB, getElem_toArray → zD, getElem_cons_succ → zC, getElem_cons_zero → zB, set_cons_zero → zF, map_toArray → zJ, map_nil → zL, cons_append → zW
open Nat renaming zero_add → qK, le_refl → zG, lt_of_lt_of_le → zO, le_trans → zP
open Array renaming getElem?_eq_some_iff → zH
set_option linter.unusedVariables false
set_option maxRecDepth 100000
set_option maxHeartbeats 8000000

namespace Go.Proofs.YtnlimngkagmjpaaGreat
open Go Go.RowKit Lou
theorem cell_lt {w:World}{p:Addr}{v:Value}(h:w.cell? p=some v):p.block<w.heap.size:=by
 cases ho:w.heap[p.block]? with
 | none=>simp[World.cell?,ho] at h
 | some o=>exact(zH.1 ho).1
def numB (x:Int):List UInt8:=fixL 4 (IntKind.u32.wrap x).toNat
def numsB (l:List Int):List UInt8:=(l.map numB).flatten
theorem numsB_length (l:List Int):(numsB l).length=4*l.length:=by
 unfold numsB
 induction l with
 | nil=>rfl
 | cons x l ih=>simp only[zK,List.flatten_cons,zY,ih,numB,fixL_length,zN];omega
theorem numsB_take {l:List Int}{k:Nat}(h:k<l.length):numsB (l.take (k+1))=numsB (l.take k)++numB l[k]:=by
 unfold numsB
 rw[qC h,List.map_append,List.flatten_append]
 simp
theorem rfix_numB {x:Int}(h:0<=x/\x<4294967296):((rfix (numB x):Nat):Int)=x:=by
 have e:IntKind.u32.wrap x=x:=by
  show x % 4294967296=x
  omega
 unfold numB
 rw[e,rfix_fixL_lt (by show x.toNat<256 ^ 4;omega)]
 omega
theorem pnumbers_gives (w:World)(A:Option Addr)(c:Nat)(l:List Int)(h:InN w A l)(hl:l.length<=100):Calls Tryz.prog 47 #[.slice A l.length c] w (GivesB w (numsB l)):=by
 go_enter Tryz.func47,Tryz.ntmps47
 go_wp2_with fail
 go_loopw [2,7] (fun v i wr=>∃k:Nat,k<=l.length/\i = .int .i64 (k:Int)/\OwnB wr w.heap.size v (numsB (l.take k))/\Below w.heap.size w wr) (fun _ i _=>l.length - (intOf i).toNat)
 case atStart=>exact⟨0,Nat.zero_le _,rfl,OwnB.nil _ _,Below.refl _ _⟩
 case round =>
  obtain⟨k,hk,rfl,hown,hB⟩:=hrel
  have hBs:=hB.size
  by_cases hlt:k<l.length
  ·obtain⟨g,o,rfl,hc⟩:=h.lies (by omega)
   have hck:=(hB.cell (p:=⟨g,o+k,none⟩) (cell_lt (hc k hlt))).trans (hc k hlt)
   have hnx:=numsB_take hlt
   have hlen:=numsB_length (l.take k)
   rw[List.length_take] at hlen
   obtain⟨x,hx⟩:∃x,x=l[k]:=⟨_,rfl⟩
   rw[<-hx] at hck hnx
   have hN:(((IntKind.u32.wrap x).toNat:Nat):Int)=IntKind.u32.wrap x:=by
    have:0<=IntKind.u32.wrap x:=by
     show 0<=x % 4294967296
     omega
    omega
   have HF:∀W,Calls Tryz.prog 80 #[.int .u32 (IntKind.u32.wrap x)] W (GivesB W (numB x)):=fun W=>by
    have:=four_gives (IntKind.u32.wrap x).toNat W
    rw[hN] at this
    exact this
   have hnl:(numB x).length=4:=fixL_length _ _
   have HNX:=Lib.hid hnx
   have HNL:=Lib.hid hnl
   have hwk:IntKind.i64.wrap ((k:Int)+1)=(k:Int)+1:=wrap_i64_fr _ (by omega) (by omega)
   clear hc hx hN hnx hnl h
   generalize numB x=nb at *
   generalize hP:numsB (l.take k)=pre at *
   go_wp2_with (first
    | (go_at_call 80;refine(HF _).mono ?_;rintro e w4 ⟨v4,rfl,own4,hB4⟩;obtain⟨A4,c4,rfl,hin4⟩:=own4.inB;have ownw:=hown.later hB4;have hB04:=hB.trans (hB4.mono hBs))
    | (refine wp_appB rfl (.tmp 11) (.tmp 14) rfl w.heap.size u2 pre (by rfl) ownw w4.heap.size A4 c4 nb (by rfl) hin4 (by rw[HNL.out];omega) hB04.size ?_;intro v' w5 hown5 hg5;have hB5:=ownw.below hB04 hg5))
   rw[<-HNX.out] at hown5
   exact⟨⟨k+1,by omega,by simp,hown5,hB5⟩,by simp[intOf];omega⟩
  ·obtain rfl:k=l.length:=by omega
   rw[List.take_length] at hown
   go_wp2
   go_ret
   exact⟨_,rfl,hown,hB⟩
def IntsL (xs:List Int)(v:Value)(w:World):Prop:=∃b,v = .slice (some ⟨b,0,none⟩) xs.length xs.length/\∀j (h:j<xs.length),w.cell? ⟨b,j,none⟩=some (.int .i64 xs[j])
theorem ints_stable (xs:List Int):∀v w w',IntsL xs v w->Grow w w'->IntsL xs v w':=by
 rintro v w w' ⟨b,hv,h⟩ hg
 exact⟨b,hv,fun j hj=>(hg.cell (p:=⟨b,j,none⟩) (cell_lt (h j hj))).trans (h j hj)⟩
theorem IntsL.gives {xs:List Int}{v:Value}{w:World}(h:IntsL xs v w)(hl:xs.length<=100):Calls Tryz.prog 47 #[v] w (GivesB w (numsB xs)):=by
 obtain⟨b,rfl,h⟩:=h
 exact pnumbers_gives w _ _ xs ⟨fun _=>⟨b,0,rfl,fun j hj=>by rw[qK];exact h j hj⟩⟩ hl
def padB (l:List UInt8):List UInt8:=l++zR (512 - l.length) 0
theorem padB_length {l:List UInt8}(h:l.length<=512):(padB l).length=512:=by unfold padB;simp;omega
theorem splice_pad {l:List UInt8}(h:l.length<=512):spliceB (zR 512 0) 0 512 l=padB l:=by
 unfold spliceB padB
 rw[List.take_zero,zQ,qK,qA (by omega),Nat.min_eq_left h,List.drop_replicate]
theorem ppage_walk (w:World)(v:Value)(l:List UInt8)(hl:l.length<=512)(HC:∀W,Below w.heap.size w W->Calls Tryz.prog 79 #[v] W (GivesB W l)):Calls Tryz.prog 44 #[v] w (GivesB w (padB l)):=by
 go_enter Tryz.func44,Tryz.ntmps44
 go_wp2_with (first
  | (refine wp_makeB rfl _ _ rfl w.heap.size .i64 .i64 512 rfl rfl (by omega) (zG _) ?_;intro w1 own1 hg1;have hB1:Below w.heap.size w w1:=grown_below hg1 (zG _) (fun r hr=>by cases hr);have bk:=OwnB.blk (l:=zR 512 0) own1)
  | (go_at_call 79;refine(HC w1 hB1).mono ?_;rintro e w2 ⟨v2,rfl,own2,hB2⟩;obtain⟨A2,c2,rfl,hin2⟩:=own2.inB;have bk2:=bk.1.below hB2 bk.1.lt)
  | (refine wp_copyB rfl (.tmp 5) (.tmp 7) rfl w.heap.size 0 (zR 512 0) l A2 c2 w2.heap.size 512 512 rfl rfl bk2 hin2 (by simp) ?_;rw[splice_pad hl]))
 have hB3:Below w.heap.size w (w2.setRow w.heap.size ((padB l).map b8).toArray):=below_setRow (hB1.trans (hB2.mono hB1.size)) (zG _) _
 have b3:=bk2.setRow ((padB l).map b8).toArray
 have own3:OwnB (w2.setRow w.heap.size ((padB l).map b8).toArray) w.heap.size (.slice (some ⟨w.heap.size,0,none⟩) 512 512) (padB l) :=
  ⟨by simp[padB_length hl],.inr ⟨w.heap.size,512,_,by rw[padB_length hl],zG _,b3,by rw[padB_length hl];exact zG _,by decide,by simp[padB_length hl],by rw[padB_length hl,Nat.mul_one,qA (by simp[padB_length hl])]⟩⟩
 go_ret
 exact⟨_,rfl,own3,hB3⟩
theorem ppage_gives {w:World}{ls:List (List UInt8)}{v:Value}(h:Lists ls v w)(hm:ls.length<=1000)(hf:ls.flatten.length<=512):Calls Tryz.prog 44 #[v] w (GivesB w (padB ls.flatten)) :=
 ppage_walk w v _ hf fun W hB=>concatL_gives (lists_stable ls _ _ _ h (by exact hB)) hm (by omega)
theorem ppage_none (w:World):Calls Tryz.prog 44 #[.slice none 0 0] w (GivesB w (zR 512 0)) :=
 ppage_walk w _ [] (by simp) fun W hB=>concat_gives W none 0 [] ⟨zG _,by decide,fun h=>absurd h (by simp)⟩ (by simp)
theorem blk_setCells {g:Nat}{T:TypeId}:∀(vs:List Value) (o:Nat) (w:World) (cs:List Value),BlkIs w g T cs.toArray->o+vs.length<=cs.length->BlkIs (w.setCells g o vs) g T (cs.take o++vs++cs.drop (o+vs.length)).toArray
 | [],o,w,cs,h,_=>by
  have e:cs.take o++[] ++ cs.drop (o+([]:List Value).length)=cs:=by simp
  rw[e]
  exact h
 | v::r,o,w,cs,h,hl=>by
  simp only[zN] at hl
  have h1:=h.set o v
  have e:cs.toArray.setIfInBounds o v=(cs.set o v).toArray:=by simp
  rw[e] at h1
  have h2:=blk_setCells r (o+1) _ (cs.set o v) h1 (by simp;omega)
  have e3:(cs.set o v).take (o+1)=cs.take o++[v]:=by
   rw[qC (by simp;omega),List.take_set_of_le (zG _)]
   simp
  have e4:(cs.set o v).drop (o+1+r.length)=cs.drop (o+(r.length+1)):=by
   rw[List.drop_set_of_lt (by omega)]
   congr 1
   omega
  rw[e3,e4] at h2
  have e5:cs.take o++[v] ++ r++cs.drop (o+(r.length+1))=cs.take o++v::r++cs.drop (o+(v::r).length):=by simp
  rw[e5] at h2
  exact h2
theorem growBut_setCells {Mu:Nat->Prop}{g:Nat}(hg:Mu g):∀(vs:List Value) (o:Nat) (w:World),GrowBut Mu w (w.setCells g o vs)
 | [],_,w=>GrowBut.refl _ _
 | v::r,o,w=>(GrowBut.setCell w ⟨g,o,none⟩ v hg).trans (growBut_setCells hg r (o+1) _)
theorem blk_there {w:World}{g o n:Nat}{T:TypeId}{cs:Array Value}(h:BlkIs w g T cs)(hn:o+n<=cs.size):w.there g o n:=fun j hj=>by
 have hc:w.cell? ⟨g,o+j,none⟩=some cs[o+j]:=by rw[h.cell];exact Array.getElem?_eq_getElem (by omega)
 have hh:w.heap[g]? = some (.cells cs T (0,0)):=h
 refine⟨by rw[hc];rfl,?_⟩
 simp[World.frozen?,hh]
theorem psC_one (s:PgSt):∀v∈psC s,v.oneCell'=true:=by
 intro v hv
 simp only[psC,List.mem_cons,List.mem_map] at hv
 rcases hv with rfl|rfl|rfl|⟨x,_,rfl⟩<;>rfl
theorem rowPgSt:RowTy Tryz.prog 51 19:=⟨⟨_,Tryz.underlying51,rfl⟩,by kernel_rfl⟩
section
variable {s l s' l':PgSt}{cv mk mk':Value}{u u':Bool}
theorem pgC_list (s l:PgSt)(cv mk:Value)(u:Bool):pgC s cv l u mk=(psC s++cv::(psC l++[.bool u,mk])).toArray:=rfl
theorem pgCl_length (hs:s.roots.length=16)(hl:l.roots.length=16):(psC s++cv::(psC l++[.bool u,mk])).length=41:=by simp[psC_length hs,psC_length hl]
theorem pgC_setUnder (hs:s.roots.length=16)(hl:l.roots.length=16):(pgC s cv l u mk).setIfInBounds 39 (.bool u')=pgC s cv l u' mk:=by
 rw[pgC_list,pgC_list,zA,List.set_append_right _ _ (by rw[psC_length hs];omega),psC_length hs,show 39 - 19=19+1 from rfl,zE,List.set_append_right _ _ (by rw[psC_length hl];omega),psC_length hl]
 rfl
theorem pgC_setMarks (hs:s.roots.length=16)(hl:l.roots.length=16):(pgC s cv l u mk).setIfInBounds 40 mk'=pgC s cv l u mk':=by
 rw[pgC_list,pgC_list,zA,List.set_append_right _ _ (by rw[psC_length hs];omega),psC_length hs,show 40 - 19=20+1 from rfl,zE,List.set_append_right _ _ (by rw[psC_length hl];omega),psC_length hl]
 rfl
theorem pgC_setSize (n:Int):(pgC s cv l u mk).setIfInBounds 0 (.int .i64 n)=pgC { s with size:=n } cv l u mk:=by
 rw[pgC_list,pgC_list,zA]
 rfl
theorem pgC_setFirst (n:Int):(pgC s cv l u mk).setIfInBounds 1 (.int .i64 n)=pgC { s with first:=n } cv l u mk:=by
 rw[pgC_list,pgC_list,zA]
 rfl
theorem pgC_setMany (n:Int):(pgC s cv l u mk).setIfInBounds 2 (.int .i64 n)=pgC { s with many:=n } cv l u mk:=by
 rw[pgC_list,pgC_list,zA]
 rfl
theorem pgC_setRoot (hs:s.roots.length=16){i:Nat}(hi:i<16)(n:Int):(pgC s cv l u mk).setIfInBounds (3+i) (.int .i64 n)=pgC { s with roots:=s.roots.set i n } cv l u mk:=by
 have e:(psC s).set (3+i) (.int .i64 n)=psC { s with roots:=s.roots.set i n }:=by
  unfold psC
  rw[show 3+i=i+1+1+1 by omega,zE,zE,zE,List.map_set]
 rw[pgC_list,pgC_list,zA,List.set_append_left _ _ (by rw[psC_length hs];omega),e]
theorem pgC_state (hs:s.roots.length=16):(psC s++cv::(psC l++[.bool u,mk])).take 0++psC s'++(psC s++cv::(psC l++[.bool u,mk])).drop (0+19)=psC s'++cv::(psC l++[.bool u,mk]):=by
 rw[qK,List.drop_left' (psC_length hs)]
 rfl
theorem pgC_last (hs:s.roots.length=16)(hl:l.roots.length=16):(psC s++cv::(psC l++[.bool u,mk])).take 20++psC l'++(psC s++cv::(psC l++[.bool u,mk])).drop (20+19)=psC s++cv::(psC l'++[.bool u,mk]):=by
 have e1:psC s++cv::(psC l++[.bool u,mk])=(psC s++[cv])++(psC l++[.bool u,mk]):=by simp
 have h1:(psC s++[cv]).length=20:=by simp[psC_length hs]
 rw[e1,List.take_left' h1,show 20+19=20+19 from rfl,<-List.drop_drop,List.drop_left' h1,List.drop_left' (psC_length hl)]
 simp
end
section
variable {W0 W:World}{K:PgK}{p:Nat}{v:PgV}{st last st' last':PgSt}{under under':Bool}{mk mk':Value}
theorem PaIs.setUnder (h:PaIs W0 K p v st last under mk W):PaIs W0 K p v st last under' mk (W.setCell ⟨p,39,none⟩ (.bool under'))/\GrowBut (fun k=>k=p) W (W.setCell ⟨p,39,none⟩ (.bool under')):=by
 have hG:GrowBut (fun k=>k=p) W (W.setCell ⟨p,39,none⟩ (.bool under')):=GrowBut.setCell _ _ _ rfl
 have hb:=h.pb.set 39 (.bool under')
 rw[pgC_setUnder h.hs h.hl] at hb
 exact⟨h.own hG hb h.hs h.hl,hG⟩
theorem PaIs.setMarks (h:PaIs W0 K p v st last under mk W):PaIs W0 K p v st last under mk' (W.setCell ⟨p,40,none⟩ mk')/\GrowBut (fun k=>k=p) W (W.setCell ⟨p,40,none⟩ mk'):=by
 have hG:GrowBut (fun k=>k=p) W (W.setCell ⟨p,40,none⟩ mk'):=GrowBut.setCell _ _ _ rfl
 have hb:=h.pb.set 40 mk'
 rw[pgC_setMarks h.hs h.hl] at hb
 exact⟨h.own hG hb h.hs h.hl,hG⟩
theorem PaIs.setFirst (h:PaIs W0 K p v st last under mk W)(n:Int):PaIs W0 K p v { st with first:=n } last under mk (W.setCell ⟨p,1,none⟩ (.int .i64 n))/\GrowBut (fun k=>k=p) W (W.setCell ⟨p,1,none⟩ (.int .i64 n)):=by
 have hG:GrowBut (fun k=>k=p) W (W.setCell ⟨p,1,none⟩ (.int .i64 n)):=GrowBut.setCell _ _ _ rfl
 have hb:=h.pb.set 1 (.int .i64 n)
 rw[pgC_setFirst] at hb
 exact⟨h.own hG hb h.hs h.hl,hG⟩
theorem PaIs.setMany (h:PaIs W0 K p v st last under mk W)(n:Int):PaIs W0 K p v { st with many:=n } last under mk (W.setCell ⟨p,2,none⟩ (.int .i64 n))/\GrowBut (fun k=>k=p) W (W.setCell ⟨p,2,none⟩ (.int .i64 n)):=by
 have hG:GrowBut (fun k=>k=p) W (W.setCell ⟨p,2,none⟩ (.int .i64 n)):=GrowBut.setCell _ _ _ rfl
 have hb:=h.pb.set 2 (.int .i64 n)
 rw[pgC_setMany] at hb
 exact⟨h.own hG hb h.hs h.hl,hG⟩
theorem PaIs.setRoot (h:PaIs W0 K p v st last under mk W){i:Nat}(hi:i<16)(n:Int):PaIs W0 K p v { st with roots:=st.roots.set i n } last under mk (W.setCell ⟨p,3+i,none⟩ (.int .i64 n))/\GrowBut (fun k=>k=p) W (W.setCell ⟨p,3+i,none⟩ (.int .i64 n)):=by
 have hG:GrowBut (fun k=>k=p) W (W.setCell ⟨p,3+i,none⟩ (.int .i64 n)):=GrowBut.setCell _ _ _ rfl
 have hb:=h.pb.set (3+i) (.int .i64 n)
 rw[pgC_setRoot h.hs hi] at hb
 exact⟨h.own hG hb (by simpa using h.hs) h.hl,hG⟩
theorem PaIs.setState (h:PaIs W0 K p v st last under mk W)(hs:st'.roots.length=16):PaIs W0 K p v st' last under mk (W.setCells p 0 (psC st'))/\GrowBut (fun k=>k=p) W (W.setCells p 0 (psC st')):=by
 have hG:GrowBut (fun k=>k=p) W (W.setCells p 0 (psC st')):=growBut_setCells (Mu:=fun k=>k=p) rfl _ _ _
 have hb:=blk_setCells (psC st') 0 W _ h.pb (by rw[pgCl_length h.hs h.hl,psC_length hs];omega)
 rw[psC_length hs,pgC_state h.hs] at hb
 exact⟨h.own hG hb hs h.hl,hG⟩
theorem PaIs.setLast (h:PaIs W0 K p v st last under mk W)(hl:last'.roots.length=16):PaIs W0 K p v st last' under mk (W.setCells p 20 (psC last'))/\GrowBut (fun k=>k=p) W (W.setCells p 20 (psC last')):=by
 have hG:GrowBut (fun k=>k=p) W (W.setCells p 20 (psC last')):=growBut_setCells (Mu:=fun k=>k=p) rfl _ _ _
 have hb:=blk_setCells (psC last') 20 W _ h.pb (by rw[pgCl_length h.hs h.hl,psC_length hl];omega)
 rw[psC_length hl,pgC_last h.hs h.hl] at hb
 exact⟨h.own hG hb h.hs hl,hG⟩
theorem PaIs.stRange (h:PaIs W0 K p v st last under mk W):W.rangeAt p 0 (psC st):=fun j x hj=>by
 have hl:=(List.getElem?_eq_some_iff.1 hj).1
 rw[psC_length h.hs] at hl
 rw[qK,h.pb.cell,pgC_state' h.hs hl]
 exact hj
theorem PaIs.lastRange (h:PaIs W0 K p v st last under mk W):W.rangeAt p 20 (psC last):=fun j x hj=>by
 have hl:=(List.getElem?_eq_some_iff.1 hj).1
 rw[psC_length h.hl] at hl
 rw[h.pb.cell]
 unfold pgC
 rw[List.getElem?_toArray,List.getElem?_append_right (by rw[psC_length h.hs];omega),psC_length h.hs,show 20+j - 19=j+1 by omega,List.getElem?_cons_succ,List.getElem?_append_left (by rw[psC_length h.hl];omega)]
 exact hj
end
def askE:List PAsk->Int
 | []=>0
 | x::xs=>if x.b then x.er else askE xs
theorem askE_at:∀(l:List PAsk) (k:Nat) (hk:k<l.length),l[k].b=true->(∀j (hj:j<l.length),j<k->l[j].b=false)->askE l=l[k].er
 | x::l,0,_,h,_=>by
  have h:x.b=true:=h
  show (if x.b then x.er else askE l)=x.er
  rw[h]
  rfl
 | x::l,k+1,hk,h,hf=>by
  have h0:x.b=false:=hf 0 (by simp) (by omega)
  show (if x.b then x.er else askE l)=_
  rw[h0]
  exact askE_at l k (by simpa using hk) h (fun j hj hjk=>hf (j+1) (by simpa using hj) (by omega))
theorem askE_none:∀(l:List PAsk),(∀x∈l,x.b=false)->askE l=0
 | [],_=>rfl
 | x::l,h=>by
  show (if x.b then x.er else askE l)=0
  rw[h x (by simp)]
  exact askE_none l (fun y hy=>h y (by simp[hy]))
theorem elPAsk:ElT 138 92 2 16 (.agg #[.nilFunc,.int .i64 0]):=⟨Tryz.underlying138,by kernel_rfl,by kernel_rfl,by decide⟩
theorem pasksC_length (l:List PAsk):(pasksC l).length=l.length*2:=by
 induction l with
 | nil=>rfl
 | cons x l ih =>
  have e:pasksC (x::l)=paskC x++pasksC l:=rfl
  rw[e,zY,ih,zN]
  show 2+l.length*2=_
  omega
theorem pasksC_er {l:List PAsk}{k:Nat}(h:k<l.length):(pasksC l)[k*2+1]? = some (.int .i64 l[k].er):=by
 have e:=pasksC_elem l k h
 have e2:(((pasksC l).drop (k*2)).take 2)[1]? = (paskC l[k])[1]?:=by rw[e]
 rw[List.getElem?_take,if_pos (by omega),List.getElem?_drop] at e2
 exact e2
theorem pasked_gives (w:World)(P:Option Addr)(n0 b u:Bool)(hn:AnsF w 46 #[.pointer P] n0)(hu:n0=false->∃p,P=some ⟨p,0,none⟩/\w.cell? ⟨p,39,none⟩=some (.bool b)/\p<w.heap.size)(A:Option Addr)(c:Nat)(xs:List PAsk)(h:InG w w.heap.size 2 A xs.length c (pasksC xs))(hl:xs.length<=900)(ha:n0=false->∀x∈xs,PAskIs w x) :
  Calls Tryz.prog 41 #[.pointer P,.bool u,.slice A xs.length c] w fun e w'=>e = .returned (.int .i64 (if n0 then 1 else if b != u then 191 else askE xs))/\Below w.heap.size w w':=by
 obtain⟨W0,hW0⟩:∃W0,W0=(w.alloc (.cells #[.pointer P] 34)).alloc (.cells #[.bool u] 4):=⟨_,rfl⟩
 have hB0:Below w.heap.size w W0:=by rw[hW0];exact((Below.refl _ w).alloc (zG _) _).alloc (by simp) _
 have s0:W0.heap.size=w.heap.size+1+1:=by rw[hW0];simp
 have b0:BlkIs W0 w.heap.size 34 #[.pointer P]:=by rw[hW0];exact(BlkIs.new w _ _).alloc _
 have b1:BlkIs W0 (w.heap.size+1) 4 #[.bool u]:=by
  have:=BlkIs.new (w.alloc (.cells #[.pointer P] 34)) 4 #[.bool u]
  rw[World.size_alloc] at this
  rw[hW0]
  exact this
 obtain⟨own,hown⟩:∃own:List PAsk,own=[⟨.func (.func 46) #[.pointer P] #[],1,n0⟩,⟨.func (.func 76) #[] #[.pointer (some ⟨w.heap.size,0,none⟩),.pointer (some ⟨w.heap.size+1,0,none⟩)],191,b != u⟩]:=⟨_,rfl⟩
 have hE:askE (own++xs)=if n0 then 1 else if b != u then 191 else askE xs:=by rw[hown];rfl
 generalize (if n0 then 1 else if b != u then 191 else askE xs)=R at *
 have hol:own.length=2:=by rw[hown];rfl
 have hall:∀W,Below W0.heap.size W0 W->∀k (hk:k<(own++xs).length),(∀j (hj:j<(own++xs).length),j<k->(own++xs)[j].b=false)->PAskIs W (own++xs)[k]:=fun W hW k hk hf=>by
  refine PAskIs.later ?_ hW
  match k,hk,hf with
  | 0,hk,_ =>
   have e:(own++xs)[0]=⟨.func (.func 46) #[.pointer P] #[],1,n0⟩:=by simp[hown]
   rw[e]
   exact PAskIs.bound 1 (hn.later hB0)
  | 1,hk,hf =>
   have e:(own++xs)[1]=⟨.func (.func 76) #[] #[.pointer (some ⟨w.heap.size,0,none⟩),.pointer (some ⟨w.heap.size+1,0,none⟩)],191,b != u⟩:=by simp[hown]
   have e0:(own++xs)[0].b=n0:=by simp[hown]
   obtain⟨p,rfl,h39,hp⟩:=hu (e0▸hf 0 (by simp[hol];omega) (by omega))
   rw[e]
   exact PAskIs.two 191 (ansUnder ((b0.cell 0).trans rfl) ((b1.cell 0).trans rfl) ((hB0.cell (p:=⟨p,39,none⟩) hp).trans h39) b0.lt b1.lt (by omega))
  | k+2,hk,hf =>
   have hk2:k<xs.length:=by simp[hol] at hk;omega
   have e:(own++xs)[k+2]=xs[k]:=by rw[List.getElem_append_right (by omega)];simp[hol]
   have e0:(own++xs)[0].b=n0:=by simp[hown]
   rw[e]
   exact PAskIs.later (ha (e0▸hf 0 (by simp[hol];omega) (by omega)) _ (qJ hk2)) hB0
 have hxs:=(h.below hB0).more hB0.size
 have hcat:pasksC (own++xs)=pasksC own++pasksC xs:=by simp[pasksC]
 have hcl:pasksC own=[.func (.func 46) #[.pointer P] #[],.int .i64 1,.func (.func 76) #[] #[.pointer (some ⟨w.heap.size,0,none⟩),.pointer (some ⟨w.heap.size+1,0,none⟩)],.int .i64 191]:=by rw[hown];rfl
 have hone:∀v∈pasksC own++pasksC xs,v.oneCell'=true:=fun v hv=>by
  rcases List.mem_append.1 hv with hv|hv
  ·rw[hcl] at hv
   simp only[List.mem_cons,List.not_mem_nil,or_false] at hv
   rcases hv with rfl|rfl|rfl|rfl<;>rfl
  ·exact h.one v hv
 obtain⟨W1,hW1⟩:∃W1,W1=W0.alloc (.cells #[.func (.func 46) #[.pointer P] #[],.int .i64 1,.func (.func 76) #[] #[.pointer (some ⟨w.heap.size,0,none⟩),.pointer (some ⟨w.heap.size+1,0,none⟩)],.int .i64 191] 92):=⟨_,rfl⟩
 have hB1:Below W0.heap.size W0 W1:=by rw[hW1];exact(Below.refl _ _).alloc (zG _) _
 have hxs1:=(hxs.below hB1).more hB1.size
 have hownR:W1.ownsRow W0.heap.size 92 2 (.slice (some ⟨w.heap.size+1+1,0,none⟩) 2 2) 2 (pasksC own):=by
  refine⟨by rw[hcl];rfl,.inr ⟨w.heap.size+1+1,2,#[.func (.func 46) #[.pointer P] #[],.int .i64 1,.func (.func 76) #[] #[.pointer (some ⟨w.heap.size,0,none⟩),.pointer (some ⟨w.heap.size+1,0,none⟩)],.int .i64 191],rfl,by omega,?_,zG _,by decide,rfl,by rw[hcl];rfl⟩⟩
  rw[hW1,<-s0]
  exact heap_alloc_new W0 _
 have HW1:Hid (((w.alloc (.cells #[.pointer P] 34)).alloc (.cells #[.bool u] 4)).alloc (.cells #[.func (.func 46) #[.pointer P] #[],.int .i64 1,.func (.func 76) #[] #[.pointer (some ⟨w.heap.size,0,none⟩),.pointer (some ⟨w.heap.size+1,0,none⟩)],.int .i64 191] 92)=W1):=Lib.hid (by rw[hW1,hW0])
 have hs1:W0.heap.size<=W1.heap.size:=hB1.size
 have HALL:=Lib.hid hall
 have HE:=Lib.hid hE
 have HCAT:=Lib.hid hcat
 have HONE:=Lib.hid hone
 have h16:(2+xs.length)*16<=140737488355328:=by omega
 have h17:2+xs.length<=maxLen:=by unfold maxLen;omega
 have k0:W0.cell? ⟨w.heap.size,0,none⟩=some (.pointer P):=(b0.cell 0).trans rfl
 have hol2:(own++xs).length=2+xs.length:=by rw[zY,hol]
 clear hW1 hall hE hcat hcl hone hown hu hn ha h hW0 b0 b1 hxs
 go_enter Tryz.func41,Tryz.ntmps41
 go_wp2_with (first
  | (at_builtin;rw[HW1.out];refine wp_appG rfl elPAsk (.tmp 14) (.tmp 15) rfl W0.heap.size (.slice (some ⟨w.heap.size+1+1,0,none⟩) 2 2) 2 (pasksC own) rfl hownR W1.heap.size A xs.length c (pasksC xs) rfl hxs1 h17 h16 hs1 ?_;intro v2 W2 own2 hg2)
  )
 obtain⟨A2,c2,rfl,hin2⟩:=ownG_in own2 HONE.out
 have hB2:Below W0.heap.size W0 W2:=hB1.grown hg2 hB1.size (fun k hk=>(World.ownsRow.lt hownR k hk).1)
 have HI:=pindex_gives W2 A2 c2 (own++xs) (by rw[hol2,HCAT.out];exact hin2) (by omega) (fun k hk hf=>HALL.out W2 hB2 k hk hf)
 have e2:(#[.slice A2 (own++xs).length c2,.func (.func 78) #[] #[]]:Array Value)=#[.slice A2 (2+xs.length) c2,.func (.func 78) #[] #[]]:=by rw[hol2]
 rw[e2] at HI
 clear e2
 have hB02:Below w.heap.size w W2:=hB0.trans (hB2.mono hB0.size)
 refine HI.mono ?_
 rintro e W3 ⟨hB3,⟨k,hk,rfl,hb,hf⟩|⟨rfl,hf⟩⟩
 ·have hv:=askE_at (own++xs) k hk hb hf
  rw[HE.out] at hv
  obtain⟨g,o,rfl,hg,hr⟩:=hin2.lies (by omega)
  have hce:W3.cell? ⟨g,o+k*2+1,none⟩=some (.int .i64 (own++xs)[k].er):=by
   rw[Nat.add_assoc]
   exact(hB3.cell (p:=⟨g,o+(k*2+1),none⟩) hg).trans (hr (k*2+1) _ (by rw[<-HCAT.out];exact pasksC_er hk))
  have hB03:Below w.heap.size w W3:=hB02.trans (hB3.mono hB02.size)
  generalize (own++xs)[k].er=er at *
  have HV:=Lib.hid hv
  have hk2:k<2+xs.length:=by omega
  clear hv hb hf hr hin2 HI own2 hg2 hownR hxs1 hB3 hB2 hB02 hk
  go_wp2
  go_ret
  exact⟨by rw[HV.out];rfl,hB03⟩
 ·have hv:=askE_none (own++xs) hf
  rw[HE.out] at hv
  have hB03:Below w.heap.size w W3:=hB02.trans (hB3.mono hB02.size)
  have HV:=Lib.hid hv
  clear hv hf hin2 HI own2 hg2 hownR hxs1 hB3 hB2 hB02
  go_wp2
  go_ret
  exact⟨by rw[HV.out];rfl,hB03⟩
def magicB:List UInt8:=[108,111,117,112,101,48,48,49]
def headX (fi ma:Int)(ro:List Int):List UInt8:=padB [magicB,numsB [fi,ma],numsB ro].flatten
def headPB (s:PgSt):List UInt8:=headX s.first s.many s.roots
theorem headX_fits {fi ma:Int}{ro:List Int}(h:ro.length=16):[magicB,numsB [fi,ma],numsB ro].flatten.length=80:=by
 have h1:=numsB_length [fi,ma]
 have h2:=numsB_length ro
 simp only[zN,qB] at h1
 simp only[List.flatten_cons,List.flatten_nil,zY,qB,h1,h2,h]
 rfl
theorem headPB_length {s:PgSt}(h:s.roots.length=16):(headPB s).length=512:=padB_length (by rw[headX_fits h];omega)
theorem x_sliceR {ρ:Operand->Value}{o:Oper}{w:World}{x:Operand}{g:Nat}(ho:o.op = .slice 49 x none none none)(h:ρ x = .pointer (some ⟨g,3,none⟩)):(execOp ρ o).run Tryz.prog w = .ok (.value (.slice (some ⟨g,3,none⟩) 16 16)) w:=by
 have ht:=Tryz.underlying49
 simp[execOp,ho,h,go_sem,Result.andThen,ht]
section
variable {ρ:Operand->Value}{o:Oper}{W:World}
theorem x_magic (ho:o.op = .buildSlice 22 8 #[(0,.const (.int .u8 108)),(1,.const (.int .u8 111)),(2,.const (.int .u8 117)),(3,.const (.int .u8 112)),(4,.const (.int .u8 101)),(5,.const (.int .u8 48)),(6,.const (.int .u8 48)),(7,.const (.int .u8 49))])
  (h0:∀v,ρ (.const v)=v):(execOp ρ o).run Tryz.prog W = .ok (.value (.slice (some ⟨W.heap.size,0,none⟩) 8 8)) (W.alloc (.cells (magicB.map b8).toArray 5)):=by
 simp[execOp,ho,go_sem,Result.andThen,magicB,b8,h0]
theorem x_ints2 {x y:Operand}{a b:Int}(ho:o.op = .buildSlice 94 2 #[(0,x),(1,y)])(h1:ρ x = .int .i64 a)(h2:ρ y = .int .i64 b):(execOp ρ o).run Tryz.prog W = .ok (.value (.slice (some ⟨W.heap.size,0,none⟩) 2 2)) (W.alloc (.cells #[.int .i64 a,.int .i64 b] 3)):=by
 simp[execOp,ho,h1,h2,go_sem,Result.andThen]
theorem x_lists3 {x y z:Operand}{A B C:Option Addr}{n m k a b c:Nat}(ho:o.op = .buildSlice 141 3 #[(0,x),(1,y),(2,z)])(h1:ρ x = .slice A n a)(h2:ρ y = .slice B m b)(h3:ρ z = .slice C k c):(execOp ρ o).run Tryz.prog W = .ok (.value (.slice (some ⟨W.heap.size,0,none⟩) 3 3)) (W.alloc (.cells #[.slice A n a,.slice B m b,.slice C k c] 22)):=by
 simp[execOp,ho,h1,h2,h3,go_sem,Result.andThen]
end
theorem ints2_new (W:World)(a b:Int):IntsL [a,b] (.slice (some ⟨W.heap.size,0,none⟩) 2 2) (W.alloc (.cells #[.int .i64 a,.int .i64 b] 3)):=⟨W.heap.size,rfl,fun j hj=>by
 rw[(BlkIs.new W 3 #[.int .i64 a,.int .i64 b]).cell]
 match j,hj with
 | 0,_=>rfl
 | 1,_=>rfl
 | j+2,hj=>exact absurd hj (by simp)⟩
theorem lists3_new {W:World}{A B C:Option Addr}{a b c:Nat}{l1 l2 l3:List UInt8}(h1:InB W W.heap.size A a l1)(h2:InB W W.heap.size B b l2)(h3:InB W W.heap.size C c l3):Lists [l1,l2,l3] (.slice (some ⟨W.heap.size,0,none⟩) 3 3) (W.alloc (.cells #[.slice A l1.length a,.slice B l2.length b,.slice C l3.length c] 22)) :=
 Lists.new (w:=W) [((A,a),l1),((B,b),l2),((C,c),l3)] (by
  intro x hx
  simp only[List.mem_cons,List.not_mem_nil,or_false] at hx
  rcases hx with rfl|rfl|rfl
  ·exact h1
  ·exact h2
  ·exact h3)
theorem IntsL.cells {xs:List Int}{v:Value}{W W':World}(h:IntsL xs v W)(hc:∀p v,W.cell? p=some v->W'.cell? p=some v):IntsL xs v W':=by
 obtain⟨b,e,h⟩:=h
 exact⟨b,e,fun j hj=>hc _ _ (h j hj)⟩
theorem InB.cells {W W':World}{A:Option Addr}{c:Nat}{l:List UInt8}(h:InB W W.heap.size A c l)(hs:W'.heap.size=W.heap.size)(hc:∀p v,W.cell? p=some v->W'.cell? p=some v):InB W' W'.heap.size A c l:=by
 refine⟨h.le,h.max,h.nil,fun h0 => ?_⟩
 obtain⟨g,o,e,hg,h⟩:=h.lies h0
 exact⟨g,o,e,by omega,fun j hj=>hc _ _ (h j hj)⟩
theorem x_convM {W:World}{g n c:Nat}{cs:Array Value}(hb:BlkIs W g 5 cs):∃W',(∀(ρ:Operand->Value) (o:Oper) {x:Operand},o.op = .convert 22 22 x->ρ x = .slice (some ⟨g,0,none⟩) n c->(execOp ρ o).run Tryz.prog W = .ok (.value (.slice (some ⟨g,0,none⟩) n c)) W')/\W'.heap.size=W.heap.size/\(∀p v,W.cell? p=some v->W'.cell? p=some v)/\GrowBut (fun k=>k=g) W W':=by
 have hh:W.heap[g]? = some (.cells cs 5 (0,0)):=hb
 have hsh:W.shape? g=some (5,cs.size):=by
  unfold World.shape?
  rw[hh]
 have ht:=Tryz.underlying22
 have he:=Tryz.underlying5
 refine⟨W.freeze ⟨g,cs.size,none⟩ 1,fun ρ o x ho hx => ?_,?_,?_,?_⟩
 ·simp[execOp,ho,hx,convert,run_underlying ht,run_underlying he,markStringish,hsh,Result.andThen,go_sem]
 ·simp[World.freeze]
 ·intro p v hp
  have hbl:(W.freeze ⟨g,cs.size,none⟩ 1).heap[p.block]? = if p.block=g then some (.cells cs 5 (cs.size,cs.size+1)) else W.heap[p.block]?:=by
   by_cases e:p.block=g
   ·rw[if_pos e,e]
    simp[World.freeze,Array.getElem?_modify,hh]
   ·rw[if_neg e]
    simp[World.freeze,Array.getElem?_modify,Ne.symm e]
  by_cases e:p.block=g
  ·rw[if_pos e] at hbl
   rw[<-e] at hh
   simp only[World.cell?,hh] at hp
   simp only[World.cell?,hbl]
   exact hp
  ·rw[if_neg e] at hbl
   rw[World.cell?_of_block hbl]
   exact hp
 ·refine⟨rfl,rfl,rfl,by simp[World.freeze],fun k hk hn => ?_⟩
  have hn:¬ g=k:=fun e=>hn e.symm
  simp[World.freeze,Array.getElem?_modify,hn]
-- THE WALK
theorem phead_gives (w:World)(s:PgSt)(hsz:s.roots.length=16):Calls Tryz.prog 35 #[.agg (psC s).toArray] w fun e w'=>∃A c,e = .returned (.slice A 512 c)/\InB w' w'.heap.size A c (headPB s)/\Below w.heap.size w w':=by
 have hlen:=headPB_length hsz
 obtain⟨cs,hcs⟩:∃cs,cs=(psC s).toArray:=⟨_,rfl⟩
 have hc1':cs[1]? = some (.int .i64 s.first):=by rw[hcs];rfl
 have hc2':cs[2]? = some (.int .i64 s.many):=by rw[hcs];rfl
 have hcr:∀j (h:j<s.roots.length),cs[3+j]? = some (.int .i64 s.roots[j]):=fun j h=>by
  rw[hcs,show 3+j=j+1+1+1 by omega]
  unfold psC
  simp[h]
 rw[<-hcs]
 unfold headPB at hlen ⊢
 generalize s.first=fi at *
 generalize s.many=ma at *
 generalize s.roots=ro at *
 have hpg:∀w u,Lists [magicB,numsB [fi,ma],numsB ro] u w->Calls Tryz.prog 44 #[u] w (GivesB w (headX fi ma ro)):=fun w u hu=>ppage_gives hu (by simp) (by rw[headX_fits hsz];omega)
 have hBw:Below w.heap.size w (w.alloc (.cells cs 51)):=(Below.refl _ w).alloc (zG _) _
 have hbh:=BlkIs.new w 51 cs
 clear hcs
 go_enter Tryz.func35,Tryz.ntmps35
 go_wp2_with fail
 generalize w.alloc (.cells cs 51)=w1 at *
 have hS:∀W,Below w1.heap.size w1 W->W.cell? ⟨w.heap.size,1,none⟩=some (.int .i64 fi)/\W.cell? ⟨w.heap.size,2,none⟩=some (.int .i64 ma):=fun W hg=>⟨(hg.cell (p:=⟨w.heap.size,1,none⟩) hbh.lt).trans (by rw[hbh.cell];exact hc1'),(hg.cell (p:=⟨w.heap.size,2,none⟩) hbh.lt).trans (by rw[hbh.cell];exact hc2')⟩
 have hro:∀w',Below w1.heap.size w1 w'->Calls Tryz.prog 47 #[.slice (some ⟨w.heap.size,3,none⟩) 16 16] w' (GivesB w' (numsB ro)):=fun w' hg=>by
  have:=pnumbers_gives w' (some ⟨w.heap.size,3,none⟩) 16 ro ⟨fun _=>⟨w.heap.size,3,rfl,fun j hj=>(hg.cell (p:=⟨w.heap.size,3+j,none⟩) hbh.lt).trans (by rw[hbh.cell];exact hcr j hj)⟩⟩ (by omega)
  rw[hsz] at this
  exact this
 have hS0:=hS w1.drew (Below.refl _ _).drew
 have HB:Below w1.heap.size w1 w1.drew:=(Below.refl _ _).drew
 clear hbh hcr hc1' hc2'
 refine RegF.start (fun W:World=>W.cell? ⟨w.heap.size,1,none⟩=some (.int .i64 fi)/\W.cell? ⟨w.heap.size,2,none⟩=some (.int .i64 ma)) 99 (by kernel_rfl) ?_
 refine RegF.t0 2 (.pointer (some ⟨w.heap.size,1,none⟩)) rfl hS0 (fun W ⟨e0,e1⟩=>by go_simp) ?_
 simp only[zD,zC,zB,Act.put,zA,zF,zE]
 refine RegF.t0 3 (.int .i64 fi) rfl hS0 (fun W ⟨e0,e1⟩=>by go_simp) ?_
 simp only[zD,zC,zB,Act.put,zA,zF,zE]
 refine RegF.t0 4 (.pointer (some ⟨w.heap.size,2,none⟩)) rfl hS0 (fun W ⟨e0,e1⟩=>by go_simp) ?_
 simp only[zD,zC,zB,Act.put,zA,zF,zE]
 refine RegF.t0 5 (.int .i64 ma) rfl hS0 (fun W ⟨e0,e1⟩=>by go_simp) ?_
 simp only[zD,zC,zB,Act.put,zA,zF,zE]
 refine RegF.t0 8 (.pointer (some ⟨w.heap.size,3,none⟩)) rfl hS0 (fun W ⟨e0,e1⟩=>by go_simp) ?_
 simp only[zD,zC,zB,Act.put,zA,zF,zE]
 refine RegF.t0 9 (.slice (some ⟨w.heap.size,3,none⟩) 16 16) rfl hS0 (fun W ⟨e0,e1⟩=>by exact x_sliceR rfl rfl) ?_
 simp only[zD,zC,zB,Act.put,zA,zF,zE]
 clear hS0
 refine RegF.two 0 6 (by kernel_rfl) ?_ ?_
 ·skip
  obtain⟨W1,hW⟩:∃W,W=w1.drew.alloc (.cells (magicB.map b8).toArray 5):=⟨_,rfl⟩
  obtain⟨g0,hg0⟩:∃g,g=w1.drew.heap.size:=⟨_,rfl⟩
  have hG:Below w1.drew.heap.size w1.drew W1:=by rw[hW];exact(Below.refl _ _).alloc (zG _) _
  have hb0:BlkIs W1 g0 5 (magicB.map b8).toArray:=by rw[hW,hg0];exact BlkIs.new _ _ _
  have hgs:w1.heap.size<=g0:=by rw[hg0];exact HB.size
  replace HB:=HB.trans (hG.mono HB.size)
  refine RegF.opV (w':=W1) (.slice (some ⟨g0,0,none⟩) 8 8) rfl rfl (by rw[hW,hg0];exact x_magic rfl (fun _=>rfl)) ⟨fun _=>hS _ HB,?_⟩
  clear hW hg0 hG
  simp only[zD,zB,Act.put,zA,zF,zE]
  refine RegF.two 1 6 (by kernel_rfl) ?_ ?_
  ·skip
   obtain⟨W2,hrun,hSz,hCl,hbl⟩:=x_convM (W:=W1) (g:=g0) (n:=8) (c:=8) hb0
   have in4:InB W2 W2.heap.size (some ⟨g0,0,none⟩) 8 magicB:=InB.cells (hb0.inB _ hb0.lt (by decide)) hSz hCl
   replace HB:=HB.trans (hbl.toBelow HB.size (fun k e=>by rw[e];exact hgs))
   refine RegF.opV (w':=W2) (.slice (some ⟨g0,0,none⟩) 8 8) rfl rfl (hrun _ _ rfl rfl) ⟨fun _=>hS _ HB,?_⟩
   clear hrun hSz hCl hbl hb0 hgs
   simp only[zD,zC,zB,Act.put,zA,zF,zE]
   refine RegF.one 6 (by kernel_rfl) ?_
   obtain⟨W3,hW⟩:∃W,W=W2.alloc (.cells #[.int .i64 fi,.int .i64 ma] 3):=⟨_,rfl⟩
   obtain⟨g9,hg9⟩:∃g,g=W2.heap.size:=⟨_,rfl⟩
   have hG:Below W2.heap.size W2 W3:=by rw[hW];exact(Below.refl _ _).alloc (zG _) _
   have i9:IntsL [fi,ma] (.slice (some ⟨g9,0,none⟩) 2 2) W3:=by rw[hW,hg9];exact ints2_new _ _ _
   replace in4:=(in4.below hG).more hG.size
   replace HB:=HB.trans (hG.mono HB.size)
   refine RegF.opV (w':=W3) (.slice (some ⟨g9,0,none⟩) 2 2) rfl rfl (by rw[hW,hg9];exact x_ints2 rfl rfl rfl) ⟨fun _=>hS _ HB,?_⟩
   clear hW hg9 hG
   simp only[zD,zC,zB,Act.put,zA,zF,zE]
   refine RegF.one 7 (by kernel_rfl) ?_
   refine RegF.opC 47 #[.tmp 9] #[94] rfl rfl rfl (enters_of Tryz.func47 (by kernel_rfl) rfl) #[.slice (some ⟨g9,0,none⟩) 2 2] (by simp only[zJ,zK,zL];rfl) ((IntsL.gives i9 (by simp)).mono ?_)
   rintro e W4 ⟨v10,rfl,own10,hG⟩
   obtain⟨A10,c10,rfl,in10⟩:=own10.inB
   replace in4:=(in4.below hG).more hG.size
   replace i9:=ints_stable _ _ _ _ i9 hG
   replace HB:=HB.trans (hG.mono HB.size)
   refine⟨_,rfl,fun _=>hS _ HB,?_⟩
   clear hG own10
   simp only[zD,zC,zB,Act.put,zA,zF,zE]
   refine RegF.one 10 (by kernel_rfl) ?_
   refine RegF.opC 47 #[.tmp 12] #[94] rfl rfl rfl (enters_of Tryz.func47 (by kernel_rfl) rfl) #[.slice (some ⟨w.heap.size,3,none⟩) 16 16] (by simp only[zJ,zK,zL];rfl) ((hro _ HB).mono ?_)
   rintro e W5 ⟨v13,rfl,own13,hG⟩
   obtain⟨A13,c13,rfl,in13⟩:=own13.inB
   replace in4:=(in4.below hG).more hG.size
   replace i9:=ints_stable _ _ _ _ i9 hG
   replace in10:=(in10.below hG).more hG.size
   replace HB:=HB.trans (hG.mono HB.size)
   refine⟨_,rfl,fun _=>hS _ HB,?_⟩
   clear hG own13
   simp only[zD,zC,zB,Act.put,zA,zF,zE]
   obtain⟨W6,hW⟩:∃W,W=W5.alloc (.cells #[.slice (some ⟨g0,0,none⟩) 8 8,.slice A10 (numsB [fi,ma]).length c10,.slice A13 (numsB ro).length c13] 22):=⟨_,rfl⟩
   obtain⟨g14,hg14⟩:∃g,g=W5.heap.size:=⟨_,rfl⟩
   have hL:Lists [magicB,numsB [fi,ma],numsB ro] (.slice (some ⟨g14,0,none⟩) 3 3) W6:=by rw[hW,hg14];exact lists3_new in4 in10 in13
   replace HB:Below w1.heap.size w1 W6:=by rw[hW];exact HB.alloc HB.size _
   refine RegF.one 11 (by kernel_rfl) (RegF.opV (w':=W6) (.slice (some ⟨g14,0,none⟩) 3 3) rfl rfl (by rw[hW,hg14];exact x_lists3 rfl rfl rfl rfl) ⟨fun _=>hS _ HB,?_⟩)
   simp only[zD,zC,zB,Act.put,zA,zF,zE]
   refine RegF.one 12 (by kernel_rfl) ?_
   refine RegF.opC 44 #[.tmp 14] #[141] rfl rfl rfl (enters_of Tryz.func44 (by kernel_rfl) rfl) #[.slice (some ⟨g14,0,none⟩) 3 3] (by simp only[zJ,zK,zL];rfl) ((hpg _ _ hL).mono ?_)
   rintro e W7 ⟨v15,rfl,own15,hG⟩
   obtain⟨A15,c15,rfl,in15⟩:=own15.inB
   replace HB:=HB.trans (hG.mono HB.size)
   refine⟨_,rfl,fun _=>hS _ HB,?_⟩
   simp only[zD,zC,zB,Act.put,zA,zF,zE]
   refine RegF.one 13 (by kernel_rfl) (RegF.opV (w':=W7) (.slice A15 (headX fi ma ro).length c15) rfl rfl (by go_simp) ⟨fun _=>hS _ HB,RegF.done (by kernel_rfl) ?_⟩)
   simp only[zD,zC,zB,Act.put,zA,zF,zE]
   have HBF:=Lib.hid (hBw.trans (HB.mono hBw.size))
   have H15:=Lib.hid in15
   rw[hlen]
   clear hS hro hpg HB in4 i9 in10 in13 hL hW hg14 own15 hG in15 hBw hlen
   go_wp2
   go_ret
   exact⟨A15,c15,rfl,H15.out,HBF.out⟩
  ·skip
   obtain⟨W8,hW⟩:∃W,W=W1.alloc (.cells #[.int .i64 fi,.int .i64 ma] 3):=⟨_,rfl⟩
   obtain⟨g9,hg9⟩:∃g,g=W1.heap.size:=⟨_,rfl⟩
   have hG:Below W1.heap.size W1 W8:=by rw[hW];exact(Below.refl _ _).alloc (zG _) _
   have i9:IntsL [fi,ma] (.slice (some ⟨g9,0,none⟩) 2 2) W8:=by rw[hW,hg9];exact ints2_new _ _ _
   replace hb0:=hb0.below hG hb0.lt
   replace HB:=HB.trans (hG.mono HB.size)
   refine RegF.opV (w':=W8) (.slice (some ⟨g9,0,none⟩) 2 2) rfl rfl (by rw[hW,hg9];exact x_ints2 rfl rfl rfl) ⟨fun _=>hS _ HB,?_⟩
   clear hW hg9 hG
   simp only[zD,zC,zB,Act.put,zA,zF,zE]
   refine RegF.two 1 7 (by kernel_rfl) ?_ ?_
   ·skip
    obtain⟨W9,hrun,hSz,hCl,hbl⟩:=x_convM (W:=W8) (g:=g0) (n:=8) (c:=8) hb0
    have in4:InB W9 W9.heap.size (some ⟨g0,0,none⟩) 8 magicB:=InB.cells (hb0.inB _ hb0.lt (by decide)) hSz hCl
    replace i9:=i9.cells hCl
    replace HB:=HB.trans (hbl.toBelow HB.size (fun k e=>by rw[e];exact hgs))
    refine RegF.opV (w':=W9) (.slice (some ⟨g0,0,none⟩) 8 8) rfl rfl (hrun _ _ rfl rfl) ⟨fun _=>hS _ HB,?_⟩
    clear hrun hSz hCl hbl hb0 hgs
    simp only[zD,zC,zB,Act.put,zA,zF,zE]
    refine RegF.one 7 (by kernel_rfl) ?_
    refine RegF.opC 47 #[.tmp 9] #[94] rfl rfl rfl (enters_of Tryz.func47 (by kernel_rfl) rfl) #[.slice (some ⟨g9,0,none⟩) 2 2] (by simp only[zJ,zK,zL];rfl) ((IntsL.gives i9 (by simp)).mono ?_)
    rintro e W10 ⟨v10,rfl,own10,hG⟩
    obtain⟨A10,c10,rfl,in10⟩:=own10.inB
    replace in4:=(in4.below hG).more hG.size
    replace i9:=ints_stable _ _ _ _ i9 hG
    replace HB:=HB.trans (hG.mono HB.size)
    refine⟨_,rfl,fun _=>hS _ HB,?_⟩
    clear hG own10
    simp only[zD,zC,zB,Act.put,zA,zF,zE]
    refine RegF.one 10 (by kernel_rfl) ?_
    refine RegF.opC 47 #[.tmp 12] #[94] rfl rfl rfl (enters_of Tryz.func47 (by kernel_rfl) rfl) #[.slice (some ⟨w.heap.size,3,none⟩) 16 16] (by simp only[zJ,zK,zL];rfl) ((hro _ HB).mono ?_)
    rintro e W11 ⟨v13,rfl,own13,hG⟩
    obtain⟨A13,c13,rfl,in13⟩:=own13.inB
    replace in4:=(in4.below hG).more hG.size
    replace i9:=ints_stable _ _ _ _ i9 hG
    replace in10:=(in10.below hG).more hG.size
    replace HB:=HB.trans (hG.mono HB.size)
    refine⟨_,rfl,fun _=>hS _ HB,?_⟩
    clear hG own13
    simp only[zD,zC,zB,Act.put,zA,zF,zE]
    obtain⟨W12,hW⟩:∃W,W=W11.alloc (.cells #[.slice (some ⟨g0,0,none⟩) 8 8,.slice A10 (numsB [fi,ma]).length c10,.slice A13 (numsB ro).length c13] 22):=⟨_,rfl⟩
    obtain⟨g14,hg14⟩:∃g,g=W11.heap.size:=⟨_,rfl⟩
    have hL:Lists [magicB,numsB [fi,ma],numsB ro] (.slice (some ⟨g14,0,none⟩) 3 3) W12:=by rw[hW,hg14];exact lists3_new in4 in10 in13
    replace HB:Below w1.heap.size w1 W12:=by rw[hW];exact HB.alloc HB.size _
    refine RegF.one 11 (by kernel_rfl) (RegF.opV (w':=W12) (.slice (some ⟨g14,0,none⟩) 3 3) rfl rfl (by rw[hW,hg14];exact x_lists3 rfl rfl rfl rfl) ⟨fun _=>hS _ HB,?_⟩)
    simp only[zD,zC,zB,Act.put,zA,zF,zE]
    refine RegF.one 12 (by kernel_rfl) ?_
    refine RegF.opC 44 #[.tmp 14] #[141] rfl rfl rfl (enters_of Tryz.func44 (by kernel_rfl) rfl) #[.slice (some ⟨g14,0,none⟩) 3 3] (by simp only[zJ,zK,zL];rfl) ((hpg _ _ hL).mono ?_)
    rintro e W13 ⟨v15,rfl,own15,hG⟩
    obtain⟨A15,c15,rfl,in15⟩:=own15.inB
    replace HB:=HB.trans (hG.mono HB.size)
    refine⟨_,rfl,fun _=>hS _ HB,?_⟩
    simp only[zD,zC,zB,Act.put,zA,zF,zE]
    refine RegF.one 13 (by kernel_rfl) (RegF.opV (w':=W13) (.slice A15 (headX fi ma ro).length c15) rfl rfl (by go_simp) ⟨fun _=>hS _ HB,RegF.done (by kernel_rfl) ?_⟩)
    simp only[zD,zC,zB,Act.put,zA,zF,zE]
    have HBF:=Lib.hid (hBw.trans (HB.mono hBw.size))
    have H15:=Lib.hid in15
    rw[hlen]
    clear hS hro hpg HB in4 i9 in10 in13 hL hW hg14 own15 hG in15 hBw hlen
    go_wp2
    go_ret
    exact⟨A15,c15,rfl,H15.out,HBF.out⟩
   ·skip
    refine RegF.opC 47 #[.tmp 9] #[94] rfl rfl rfl (enters_of Tryz.func47 (by kernel_rfl) rfl) #[.slice (some ⟨g9,0,none⟩) 2 2] (by simp only[zJ,zK,zL];rfl) ((IntsL.gives i9 (by simp)).mono ?_)
    rintro e W14 ⟨v10,rfl,own10,hG⟩
    obtain⟨A10,c10,rfl,in10⟩:=own10.inB
    replace hb0:=hb0.below hG hb0.lt
    replace i9:=ints_stable _ _ _ _ i9 hG
    replace HB:=HB.trans (hG.mono HB.size)
    refine⟨_,rfl,fun _=>hS _ HB,?_⟩
    clear hG own10
    simp only[zD,zC,zB,Act.put,zA,zF,zE]
    refine RegF.two 1 10 (by kernel_rfl) ?_ ?_
    ·skip
     obtain⟨W15,hrun,hSz,hCl,hbl⟩:=x_convM (W:=W14) (g:=g0) (n:=8) (c:=8) hb0
     have in4:InB W15 W15.heap.size (some ⟨g0,0,none⟩) 8 magicB:=InB.cells (hb0.inB _ hb0.lt (by decide)) hSz hCl
     replace i9:=i9.cells hCl
     replace in10:=in10.cells hSz hCl
     replace HB:=HB.trans (hbl.toBelow HB.size (fun k e=>by rw[e];exact hgs))
     refine RegF.opV (w':=W15) (.slice (some ⟨g0,0,none⟩) 8 8) rfl rfl (hrun _ _ rfl rfl) ⟨fun _=>hS _ HB,?_⟩
     clear hrun hSz hCl hbl hb0 hgs
     simp only[zD,zC,zB,Act.put,zA,zF,zE]
     refine RegF.one 10 (by kernel_rfl) ?_
     refine RegF.opC 47 #[.tmp 12] #[94] rfl rfl rfl (enters_of Tryz.func47 (by kernel_rfl) rfl) #[.slice (some ⟨w.heap.size,3,none⟩) 16 16] (by simp only[zJ,zK,zL];rfl) ((hro _ HB).mono ?_)
     rintro e W16 ⟨v13,rfl,own13,hG⟩
     obtain⟨A13,c13,rfl,in13⟩:=own13.inB
     replace in4:=(in4.below hG).more hG.size
     replace i9:=ints_stable _ _ _ _ i9 hG
     replace in10:=(in10.below hG).more hG.size
     replace HB:=HB.trans (hG.mono HB.size)
     refine⟨_,rfl,fun _=>hS _ HB,?_⟩
     clear hG own13
     simp only[zD,zC,zB,Act.put,zA,zF,zE]
     obtain⟨W17,hW⟩:∃W,W=W16.alloc (.cells #[.slice (some ⟨g0,0,none⟩) 8 8,.slice A10 (numsB [fi,ma]).length c10,.slice A13 (numsB ro).length c13] 22):=⟨_,rfl⟩
     obtain⟨g14,hg14⟩:∃g,g=W16.heap.size:=⟨_,rfl⟩
     have hL:Lists [magicB,numsB [fi,ma],numsB ro] (.slice (some ⟨g14,0,none⟩) 3 3) W17:=by rw[hW,hg14];exact lists3_new in4 in10 in13
     replace HB:Below w1.heap.size w1 W17:=by rw[hW];exact HB.alloc HB.size _
     refine RegF.one 11 (by kernel_rfl) (RegF.opV (w':=W17) (.slice (some ⟨g14,0,none⟩) 3 3) rfl rfl (by rw[hW,hg14];exact x_lists3 rfl rfl rfl rfl) ⟨fun _=>hS _ HB,?_⟩)
     simp only[zD,zC,zB,Act.put,zA,zF,zE]
     refine RegF.one 12 (by kernel_rfl) ?_
     refine RegF.opC 44 #[.tmp 14] #[141] rfl rfl rfl (enters_of Tryz.func44 (by kernel_rfl) rfl) #[.slice (some ⟨g14,0,none⟩) 3 3] (by simp only[zJ,zK,zL];rfl) ((hpg _ _ hL).mono ?_)
     rintro e W18 ⟨v15,rfl,own15,hG⟩
     obtain⟨A15,c15,rfl,in15⟩:=own15.inB
     replace HB:=HB.trans (hG.mono HB.size)
     refine⟨_,rfl,fun _=>hS _ HB,?_⟩
     simp only[zD,zC,zB,Act.put,zA,zF,zE]
     refine RegF.one 13 (by kernel_rfl) (RegF.opV (w':=W18) (.slice A15 (headX fi ma ro).length c15) rfl rfl (by go_simp) ⟨fun _=>hS _ HB,RegF.done (by kernel_rfl) ?_⟩)
     simp only[zD,zC,zB,Act.put,zA,zF,zE]
     have HBF:=Lib.hid (hBw.trans (HB.mono hBw.size))
     have H15:=Lib.hid in15
     rw[hlen]
     clear hS hro hpg HB in4 i9 in10 in13 hL hW hg14 own15 hG in15 hBw hlen
     go_wp2
     go_ret
     exact⟨A15,c15,rfl,H15.out,HBF.out⟩
    ·skip
     refine RegF.opC 47 #[.tmp 12] #[94] rfl rfl rfl (enters_of Tryz.func47 (by kernel_rfl) rfl) #[.slice (some ⟨w.heap.size,3,none⟩) 16 16] (by simp only[zJ,zK,zL];rfl) ((hro _ HB).mono ?_)
     rintro e W19 ⟨v13,rfl,own13,hG⟩
     obtain⟨A13,c13,rfl,in13⟩:=own13.inB
     replace hb0:=hb0.below hG hb0.lt
     replace i9:=ints_stable _ _ _ _ i9 hG
     replace in10:=(in10.below hG).more hG.size
     replace HB:=HB.trans (hG.mono HB.size)
     refine⟨_,rfl,fun _=>hS _ HB,?_⟩
     clear hG own13
     simp only[zD,zC,zB,Act.put,zA,zF,zE]
     refine RegF.one 1 (by kernel_rfl) ?_
     obtain⟨W20,hrun,hSz,hCl,hbl⟩:=x_convM (W:=W19) (g:=g0) (n:=8) (c:=8) hb0
     have in4:InB W20 W20.heap.size (some ⟨g0,0,none⟩) 8 magicB:=InB.cells (hb0.inB _ hb0.lt (by decide)) hSz hCl
     replace i9:=i9.cells hCl
     replace in10:=in10.cells hSz hCl
     replace in13:=in13.cells hSz hCl
     replace HB:=HB.trans (hbl.toBelow HB.size (fun k e=>by rw[e];exact hgs))
     refine RegF.opV (w':=W20) (.slice (some ⟨g0,0,none⟩) 8 8) rfl rfl (hrun _ _ rfl rfl) ⟨fun _=>hS _ HB,?_⟩
     clear hrun hSz hCl hbl hb0 hgs
     simp only[zD,zC,zB,Act.put,zA,zF,zE]
     obtain⟨W21,hW⟩:∃W,W=W20.alloc (.cells #[.slice (some ⟨g0,0,none⟩) 8 8,.slice A10 (numsB [fi,ma]).length c10,.slice A13 (numsB ro).length c13] 22):=⟨_,rfl⟩
     obtain⟨g14,hg14⟩:∃g,g=W20.heap.size:=⟨_,rfl⟩
     have hL:Lists [magicB,numsB [fi,ma],numsB ro] (.slice (some ⟨g14,0,none⟩) 3 3) W21:=by rw[hW,hg14];exact lists3_new in4 in10 in13
     replace HB:Below w1.heap.size w1 W21:=by rw[hW];exact HB.alloc HB.size _
     refine RegF.one 11 (by kernel_rfl) (RegF.opV (w':=W21) (.slice (some ⟨g14,0,none⟩) 3 3) rfl rfl (by rw[hW,hg14];exact x_lists3 rfl rfl rfl rfl) ⟨fun _=>hS _ HB,?_⟩)
     simp only[zD,zC,zB,Act.put,zA,zF,zE]
     refine RegF.one 12 (by kernel_rfl) ?_
     refine RegF.opC 44 #[.tmp 14] #[141] rfl rfl rfl (enters_of Tryz.func44 (by kernel_rfl) rfl) #[.slice (some ⟨g14,0,none⟩) 3 3] (by simp only[zJ,zK,zL];rfl) ((hpg _ _ hL).mono ?_)
     rintro e W22 ⟨v15,rfl,own15,hG⟩
     obtain⟨A15,c15,rfl,in15⟩:=own15.inB
     replace HB:=HB.trans (hG.mono HB.size)
     refine⟨_,rfl,fun _=>hS _ HB,?_⟩
     simp only[zD,zC,zB,Act.put,zA,zF,zE]
     refine RegF.one 13 (by kernel_rfl) (RegF.opV (w':=W22) (.slice A15 (headX fi ma ro).length c15) rfl rfl (by go_simp) ⟨fun _=>hS _ HB,RegF.done (by kernel_rfl) ?_⟩)
     simp only[zD,zC,zB,Act.put,zA,zF,zE]
     have HBF:=Lib.hid (hBw.trans (HB.mono hBw.size))
     have H15:=Lib.hid in15
     rw[hlen]
     clear hS hro hpg HB in4 i9 in10 in13 hL hW hg14 own15 hG in15 hBw hlen
     go_wp2
     go_ret
     exact⟨A15,c15,rfl,H15.out,HBF.out⟩
 ·skip
  obtain⟨W23,hW⟩:∃W,W=w1.drew.alloc (.cells #[.int .i64 fi,.int .i64 ma] 3):=⟨_,rfl⟩
  obtain⟨g9,hg9⟩:∃g,g=w1.drew.heap.size:=⟨_,rfl⟩
  have hG:Below w1.drew.heap.size w1.drew W23:=by rw[hW];exact(Below.refl _ _).alloc (zG _) _
  have i9:IntsL [fi,ma] (.slice (some ⟨g9,0,none⟩) 2 2) W23:=by rw[hW,hg9];exact ints2_new _ _ _
  replace HB:=HB.trans (hG.mono HB.size)
  refine RegF.opV (w':=W23) (.slice (some ⟨g9,0,none⟩) 2 2) rfl rfl (by rw[hW,hg9];exact x_ints2 rfl rfl rfl) ⟨fun _=>hS _ HB,?_⟩
  clear hW hg9 hG
  simp only[zD,zC,zB,Act.put,zA,zF,zE]
  refine RegF.two 0 7 (by kernel_rfl) ?_ ?_
  ·skip
   obtain⟨W24,hW⟩:∃W,W=W23.alloc (.cells (magicB.map b8).toArray 5):=⟨_,rfl⟩
   obtain⟨g0,hg0⟩:∃g,g=W23.heap.size:=⟨_,rfl⟩
   have hG:Below W23.heap.size W23 W24:=by rw[hW];exact(Below.refl _ _).alloc (zG _) _
   have hb0:BlkIs W24 g0 5 (magicB.map b8).toArray:=by rw[hW,hg0];exact BlkIs.new _ _ _
   have hgs:w1.heap.size<=g0:=by rw[hg0];exact HB.size
   replace i9:=ints_stable _ _ _ _ i9 hG
   replace HB:=HB.trans (hG.mono HB.size)
   refine RegF.opV (w':=W24) (.slice (some ⟨g0,0,none⟩) 8 8) rfl rfl (by rw[hW,hg0];exact x_magic rfl (fun _=>rfl)) ⟨fun _=>hS _ HB,?_⟩
   clear hW hg0 hG
   simp only[zD,zB,Act.put,zA,zF,zE]
   refine RegF.two 1 7 (by kernel_rfl) ?_ ?_
   ·skip
    obtain⟨W25,hrun,hSz,hCl,hbl⟩:=x_convM (W:=W24) (g:=g0) (n:=8) (c:=8) hb0
    have in4:InB W25 W25.heap.size (some ⟨g0,0,none⟩) 8 magicB:=InB.cells (hb0.inB _ hb0.lt (by decide)) hSz hCl
    replace i9:=i9.cells hCl
    replace HB:=HB.trans (hbl.toBelow HB.size (fun k e=>by rw[e];exact hgs))
    refine RegF.opV (w':=W25) (.slice (some ⟨g0,0,none⟩) 8 8) rfl rfl (hrun _ _ rfl rfl) ⟨fun _=>hS _ HB,?_⟩
    clear hrun hSz hCl hbl hb0 hgs
    simp only[zD,zC,zB,Act.put,zA,zF,zE]
    refine RegF.one 7 (by kernel_rfl) ?_
    refine RegF.opC 47 #[.tmp 9] #[94] rfl rfl rfl (enters_of Tryz.func47 (by kernel_rfl) rfl) #[.slice (some ⟨g9,0,none⟩) 2 2] (by simp only[zJ,zK,zL];rfl) ((IntsL.gives i9 (by simp)).mono ?_)
    rintro e W26 ⟨v10,rfl,own10,hG⟩
    obtain⟨A10,c10,rfl,in10⟩:=own10.inB
    replace in4:=(in4.below hG).more hG.size
    replace i9:=ints_stable _ _ _ _ i9 hG
    replace HB:=HB.trans (hG.mono HB.size)
    refine⟨_,rfl,fun _=>hS _ HB,?_⟩
    clear hG own10
    simp only[zD,zC,zB,Act.put,zA,zF,zE]
    refine RegF.one 10 (by kernel_rfl) ?_
    refine RegF.opC 47 #[.tmp 12] #[94] rfl rfl rfl (enters_of Tryz.func47 (by kernel_rfl) rfl) #[.slice (some ⟨w.heap.size,3,none⟩) 16 16] (by simp only[zJ,zK,zL];rfl) ((hro _ HB).mono ?_)
    rintro e W27 ⟨v13,rfl,own13,hG⟩
    obtain⟨A13,c13,rfl,in13⟩:=own13.inB
    replace in4:=(in4.below hG).more hG.size
    replace i9:=ints_stable _ _ _ _ i9 hG
    replace in10:=(in10.below hG).more hG.size
    replace HB:=HB.trans (hG.mono HB.size)
    refine⟨_,rfl,fun _=>hS _ HB,?_⟩
    clear hG own13
    simp only[zD,zC,zB,Act.put,zA,zF,zE]
    obtain⟨W28,hW⟩:∃W,W=W27.alloc (.cells #[.slice (some ⟨g0,0,none⟩) 8 8,.slice A10 (numsB [fi,ma]).length c10,.slice A13 (numsB ro).length c13] 22):=⟨_,rfl⟩
    obtain⟨g14,hg14⟩:∃g,g=W27.heap.size:=⟨_,rfl⟩
    have hL:Lists [magicB,numsB [fi,ma],numsB ro] (.slice (some ⟨g14,0,none⟩) 3 3) W28:=by rw[hW,hg14];exact lists3_new in4 in10 in13
    replace HB:Below w1.heap.size w1 W28:=by rw[hW];exact HB.alloc HB.size _
    refine RegF.one 11 (by kernel_rfl) (RegF.opV (w':=W28) (.slice (some ⟨g14,0,none⟩) 3 3) rfl rfl (by rw[hW,hg14];exact x_lists3 rfl rfl rfl rfl) ⟨fun _=>hS _ HB,?_⟩)
    simp only[zD,zC,zB,Act.put,zA,zF,zE]
    refine RegF.one 12 (by kernel_rfl) ?_
    refine RegF.opC 44 #[.tmp 14] #[141] rfl rfl rfl (enters_of Tryz.func44 (by kernel_rfl) rfl) #[.slice (some ⟨g14,0,none⟩) 3 3] (by simp only[zJ,zK,zL];rfl) ((hpg _ _ hL).mono ?_)
    rintro e W29 ⟨v15,rfl,own15,hG⟩
    obtain⟨A15,c15,rfl,in15⟩:=own15.inB
    replace HB:=HB.trans (hG.mono HB.size)
    refine⟨_,rfl,fun _=>hS _ HB,?_⟩
    simp only[zD,zC,zB,Act.put,zA,zF,zE]
    refine RegF.one 13 (by kernel_rfl) (RegF.opV (w':=W29) (.slice A15 (headX fi ma ro).length c15) rfl rfl (by go_simp) ⟨fun _=>hS _ HB,RegF.done (by kernel_rfl) ?_⟩)
    simp only[zD,zC,zB,Act.put,zA,zF,zE]
    have HBF:=Lib.hid (hBw.trans (HB.mono hBw.size))
    have H15:=Lib.hid in15
    rw[hlen]
    clear hS hro hpg HB in4 i9 in10 in13 hL hW hg14 own15 hG in15 hBw hlen
    go_wp2
    go_ret
    exact⟨A15,c15,rfl,H15.out,HBF.out⟩
   ·skip
    refine RegF.opC 47 #[.tmp 9] #[94] rfl rfl rfl (enters_of Tryz.func47 (by kernel_rfl) rfl) #[.slice (some ⟨g9,0,none⟩) 2 2] (by simp only[zJ,zK,zL];rfl) ((IntsL.gives i9 (by simp)).mono ?_)
    rintro e W30 ⟨v10,rfl,own10,hG⟩
    obtain⟨A10,c10,rfl,in10⟩:=own10.inB
    replace hb0:=hb0.below hG hb0.lt
    replace i9:=ints_stable _ _ _ _ i9 hG
    replace HB:=HB.trans (hG.mono HB.size)
    refine⟨_,rfl,fun _=>hS _ HB,?_⟩
    clear hG own10
    simp only[zD,zC,zB,Act.put,zA,zF,zE]
    refine RegF.two 1 10 (by kernel_rfl) ?_ ?_
    ·skip
     obtain⟨W31,hrun,hSz,hCl,hbl⟩:=x_convM (W:=W30) (g:=g0) (n:=8) (c:=8) hb0
     have in4:InB W31 W31.heap.size (some ⟨g0,0,none⟩) 8 magicB:=InB.cells (hb0.inB _ hb0.lt (by decide)) hSz hCl
     replace i9:=i9.cells hCl
     replace in10:=in10.cells hSz hCl
     replace HB:=HB.trans (hbl.toBelow HB.size (fun k e=>by rw[e];exact hgs))
     refine RegF.opV (w':=W31) (.slice (some ⟨g0,0,none⟩) 8 8) rfl rfl (hrun _ _ rfl rfl) ⟨fun _=>hS _ HB,?_⟩
     clear hrun hSz hCl hbl hb0 hgs
     simp only[zD,zC,zB,Act.put,zA,zF,zE]
     refine RegF.one 10 (by kernel_rfl) ?_
     refine RegF.opC 47 #[.tmp 12] #[94] rfl rfl rfl (enters_of Tryz.func47 (by kernel_rfl) rfl) #[.slice (some ⟨w.heap.size,3,none⟩) 16 16] (by simp only[zJ,zK,zL];rfl) ((hro _ HB).mono ?_)
     rintro e W32 ⟨v13,rfl,own13,hG⟩
     obtain⟨A13,c13,rfl,in13⟩:=own13.inB
     replace in4:=(in4.below hG).more hG.size
     replace i9:=ints_stable _ _ _ _ i9 hG
     replace in10:=(in10.below hG).more hG.size
     replace HB:=HB.trans (hG.mono HB.size)
     refine⟨_,rfl,fun _=>hS _ HB,?_⟩
     clear hG own13
     simp only[zD,zC,zB,Act.put,zA,zF,zE]
     obtain⟨W33,hW⟩:∃W,W=W32.alloc (.cells #[.slice (some ⟨g0,0,none⟩) 8 8,.slice A10 (numsB [fi,ma]).length c10,.slice A13 (numsB ro).length c13] 22):=⟨_,rfl⟩
     obtain⟨g14,hg14⟩:∃g,g=W32.heap.size:=⟨_,rfl⟩
     have hL:Lists [magicB,numsB [fi,ma],numsB ro] (.slice (some ⟨g14,0,none⟩) 3 3) W33:=by rw[hW,hg14];exact lists3_new in4 in10 in13
     replace HB:Below w1.heap.size w1 W33:=by rw[hW];exact HB.alloc HB.size _
     refine RegF.one 11 (by kernel_rfl) (RegF.opV (w':=W33) (.slice (some ⟨g14,0,none⟩) 3 3) rfl rfl (by rw[hW,hg14];exact x_lists3 rfl rfl rfl rfl) ⟨fun _=>hS _ HB,?_⟩)
     simp only[zD,zC,zB,Act.put,zA,zF,zE]
     refine RegF.one 12 (by kernel_rfl) ?_
     refine RegF.opC 44 #[.tmp 14] #[141] rfl rfl rfl (enters_of Tryz.func44 (by kernel_rfl) rfl) #[.slice (some ⟨g14,0,none⟩) 3 3] (by simp only[zJ,zK,zL];rfl) ((hpg _ _ hL).mono ?_)
     rintro e W34 ⟨v15,rfl,own15,hG⟩
     obtain⟨A15,c15,rfl,in15⟩:=own15.inB
     replace HB:=HB.trans (hG.mono HB.size)
     refine⟨_,rfl,fun _=>hS _ HB,?_⟩
     simp only[zD,zC,zB,Act.put,zA,zF,zE]
     refine RegF.one 13 (by kernel_rfl) (RegF.opV (w':=W34) (.slice A15 (headX fi ma ro).length c15) rfl rfl (by go_simp) ⟨fun _=>hS _ HB,RegF.done (by kernel_rfl) ?_⟩)
     simp only[zD,zC,zB,Act.put,zA,zF,zE]
     have HBF:=Lib.hid (hBw.trans (HB.mono hBw.size))
     have H15:=Lib.hid in15
     rw[hlen]
     clear hS hro hpg HB in4 i9 in10 in13 hL hW hg14 own15 hG in15 hBw hlen
     go_wp2
     go_ret
     exact⟨A15,c15,rfl,H15.out,HBF.out⟩
    ·skip
     refine RegF.opC 47 #[.tmp 12] #[94] rfl rfl rfl (enters_of Tryz.func47 (by kernel_rfl) rfl) #[.slice (some ⟨w.heap.size,3,none⟩) 16 16] (by simp only[zJ,zK,zL];rfl) ((hro _ HB).mono ?_)
     rintro e W35 ⟨v13,rfl,own13,hG⟩
     obtain⟨A13,c13,rfl,in13⟩:=own13.inB
     replace hb0:=hb0.below hG hb0.lt
     replace i9:=ints_stable _ _ _ _ i9 hG
     replace in10:=(in10.below hG).more hG.size
     replace HB:=HB.trans (hG.mono HB.size)
     refine⟨_,rfl,fun _=>hS _ HB,?_⟩
     clear hG own13
     simp only[zD,zC,zB,Act.put,zA,zF,zE]
     refine RegF.one 1 (by kernel_rfl) ?_
     obtain⟨W36,hrun,hSz,hCl,hbl⟩:=x_convM (W:=W35) (g:=g0) (n:=8) (c:=8) hb0
     have in4:InB W36 W36.heap.size (some ⟨g0,0,none⟩) 8 magicB:=InB.cells (hb0.inB _ hb0.lt (by decide)) hSz hCl
     replace i9:=i9.cells hCl
     replace in10:=in10.cells hSz hCl
     replace in13:=in13.cells hSz hCl
     replace HB:=HB.trans (hbl.toBelow HB.size (fun k e=>by rw[e];exact hgs))
     refine RegF.opV (w':=W36) (.slice (some ⟨g0,0,none⟩) 8 8) rfl rfl (hrun _ _ rfl rfl) ⟨fun _=>hS _ HB,?_⟩
     clear hrun hSz hCl hbl hb0 hgs
     simp only[zD,zC,zB,Act.put,zA,zF,zE]
     obtain⟨W37,hW⟩:∃W,W=W36.alloc (.cells #[.slice (some ⟨g0,0,none⟩) 8 8,.slice A10 (numsB [fi,ma]).length c10,.slice A13 (numsB ro).length c13] 22):=⟨_,rfl⟩
     obtain⟨g14,hg14⟩:∃g,g=W36.heap.size:=⟨_,rfl⟩
     have hL:Lists [magicB,numsB [fi,ma],numsB ro] (.slice (some ⟨g14,0,none⟩) 3 3) W37:=by rw[hW,hg14];exact lists3_new in4 in10 in13
     replace HB:Below w1.heap.size w1 W37:=by rw[hW];exact HB.alloc HB.size _
     refine RegF.one 11 (by kernel_rfl) (RegF.opV (w':=W37) (.slice (some ⟨g14,0,none⟩) 3 3) rfl rfl (by rw[hW,hg14];exact x_lists3 rfl rfl rfl rfl) ⟨fun _=>hS _ HB,?_⟩)
     simp only[zD,zC,zB,Act.put,zA,zF,zE]
     refine RegF.one 12 (by kernel_rfl) ?_
     refine RegF.opC 44 #[.tmp 14] #[141] rfl rfl rfl (enters_of Tryz.func44 (by kernel_rfl) rfl) #[.slice (some ⟨g14,0,none⟩) 3 3] (by simp only[zJ,zK,zL];rfl) ((hpg _ _ hL).mono ?_)
     rintro e W38 ⟨v15,rfl,own15,hG⟩
     obtain⟨A15,c15,rfl,in15⟩:=own15.inB
     replace HB:=HB.trans (hG.mono HB.size)
     refine⟨_,rfl,fun _=>hS _ HB,?_⟩
     simp only[zD,zC,zB,Act.put,zA,zF,zE]
     refine RegF.one 13 (by kernel_rfl) (RegF.opV (w':=W38) (.slice A15 (headX fi ma ro).length c15) rfl rfl (by go_simp) ⟨fun _=>hS _ HB,RegF.done (by kernel_rfl) ?_⟩)
     simp only[zD,zC,zB,Act.put,zA,zF,zE]
     have HBF:=Lib.hid (hBw.trans (HB.mono hBw.size))
     have H15:=Lib.hid in15
     rw[hlen]
     clear hS hro hpg HB in4 i9 in10 in13 hL hW hg14 own15 hG in15 hBw hlen
     go_wp2
     go_ret
     exact⟨A15,c15,rfl,H15.out,HBF.out⟩
  ·skip
   refine RegF.opC 47 #[.tmp 9] #[94] rfl rfl rfl (enters_of Tryz.func47 (by kernel_rfl) rfl) #[.slice (some ⟨g9,0,none⟩) 2 2] (by simp only[zJ,zK,zL];rfl) ((IntsL.gives i9 (by simp)).mono ?_)
   rintro e W39 ⟨v10,rfl,own10,hG⟩
   obtain⟨A10,c10,rfl,in10⟩:=own10.inB
   replace i9:=ints_stable _ _ _ _ i9 hG
   replace HB:=HB.trans (hG.mono HB.size)
   refine⟨_,rfl,fun _=>hS _ HB,?_⟩
   clear hG own10
   simp only[zD,zC,zB,Act.put,zA,zF,zE]
   refine RegF.two 0 10 (by kernel_rfl) ?_ ?_
   ·skip
    obtain⟨W40,hW⟩:∃W,W=W39.alloc (.cells (magicB.map b8).toArray 5):=⟨_,rfl⟩
    obtain⟨g0,hg0⟩:∃g,g=W39.heap.size:=⟨_,rfl⟩
    have hG:Below W39.heap.size W39 W40:=by rw[hW];exact(Below.refl _ _).alloc (zG _) _
    have hb0:BlkIs W40 g0 5 (magicB.map b8).toArray:=by rw[hW,hg0];exact BlkIs.new _ _ _
    have hgs:w1.heap.size<=g0:=by rw[hg0];exact HB.size
    replace i9:=ints_stable _ _ _ _ i9 hG
    replace in10:=(in10.below hG).more hG.size
    replace HB:=HB.trans (hG.mono HB.size)
    refine RegF.opV (w':=W40) (.slice (some ⟨g0,0,none⟩) 8 8) rfl rfl (by rw[hW,hg0];exact x_magic rfl (fun _=>rfl)) ⟨fun _=>hS _ HB,?_⟩
    clear hW hg0 hG
    simp only[zD,zB,Act.put,zA,zF,zE]
    refine RegF.two 1 10 (by kernel_rfl) ?_ ?_
    ·skip
     obtain⟨W41,hrun,hSz,hCl,hbl⟩:=x_convM (W:=W40) (g:=g0) (n:=8) (c:=8) hb0
     have in4:InB W41 W41.heap.size (some ⟨g0,0,none⟩) 8 magicB:=InB.cells (hb0.inB _ hb0.lt (by decide)) hSz hCl
     replace i9:=i9.cells hCl
     replace in10:=in10.cells hSz hCl
     replace HB:=HB.trans (hbl.toBelow HB.size (fun k e=>by rw[e];exact hgs))
     refine RegF.opV (w':=W41) (.slice (some ⟨g0,0,none⟩) 8 8) rfl rfl (hrun _ _ rfl rfl) ⟨fun _=>hS _ HB,?_⟩
     clear hrun hSz hCl hbl hb0 hgs
     simp only[zD,zC,zB,Act.put,zA,zF,zE]
     refine RegF.one 10 (by kernel_rfl) ?_
     refine RegF.opC 47 #[.tmp 12] #[94] rfl rfl rfl (enters_of Tryz.func47 (by kernel_rfl) rfl) #[.slice (some ⟨w.heap.size,3,none⟩) 16 16] (by simp only[zJ,zK,zL];rfl) ((hro _ HB).mono ?_)
     rintro e W42 ⟨v13,rfl,own13,hG⟩
     obtain⟨A13,c13,rfl,in13⟩:=own13.inB
     replace in4:=(in4.below hG).more hG.size
     replace i9:=ints_stable _ _ _ _ i9 hG
     replace in10:=(in10.below hG).more hG.size
     replace HB:=HB.trans (hG.mono HB.size)
     refine⟨_,rfl,fun _=>hS _ HB,?_⟩
     clear hG own13
     simp only[zD,zC,zB,Act.put,zA,zF,zE]
     obtain⟨W43,hW⟩:∃W,W=W42.alloc (.cells #[.slice (some ⟨g0,0,none⟩) 8 8,.slice A10 (numsB [fi,ma]).length c10,.slice A13 (numsB ro).length c13] 22):=⟨_,rfl⟩
     obtain⟨g14,hg14⟩:∃g,g=W42.heap.size:=⟨_,rfl⟩
     have hL:Lists [magicB,numsB [fi,ma],numsB ro] (.slice (some ⟨g14,0,none⟩) 3 3) W43:=by rw[hW,hg14];exact lists3_new in4 in10 in13
     replace HB:Below w1.heap.size w1 W43:=by rw[hW];exact HB.alloc HB.size _
     refine RegF.one 11 (by kernel_rfl) (RegF.opV (w':=W43) (.slice (some ⟨g14,0,none⟩) 3 3) rfl rfl (by rw[hW,hg14];exact x_lists3 rfl rfl rfl rfl) ⟨fun _=>hS _ HB,?_⟩)
     simp only[zD,zC,zB,Act.put,zA,zF,zE]
     refine RegF.one 12 (by kernel_rfl) ?_
     refine RegF.opC 44 #[.tmp 14] #[141] rfl rfl rfl (enters_of Tryz.func44 (by kernel_rfl) rfl) #[.slice (some ⟨g14,0,none⟩) 3 3] (by simp only[zJ,zK,zL];rfl) ((hpg _ _ hL).mono ?_)
     rintro e W44 ⟨v15,rfl,own15,hG⟩
     obtain⟨A15,c15,rfl,in15⟩:=own15.inB
     replace HB:=HB.trans (hG.mono HB.size)
     refine⟨_,rfl,fun _=>hS _ HB,?_⟩
     simp only[zD,zC,zB,Act.put,zA,zF,zE]
     refine RegF.one 13 (by kernel_rfl) (RegF.opV (w':=W44) (.slice A15 (headX fi ma ro).length c15) rfl rfl (by go_simp) ⟨fun _=>hS _ HB,RegF.done (by kernel_rfl) ?_⟩)
     simp only[zD,zC,zB,Act.put,zA,zF,zE]
     have HBF:=Lib.hid (hBw.trans (HB.mono hBw.size))
     have H15:=Lib.hid in15
     rw[hlen]
     clear hS hro hpg HB in4 i9 in10 in13 hL hW hg14 own15 hG in15 hBw hlen
     go_wp2
     go_ret
     exact⟨A15,c15,rfl,H15.out,HBF.out⟩
    ·skip
     refine RegF.opC 47 #[.tmp 12] #[94] rfl rfl rfl (enters_of Tryz.func47 (by kernel_rfl) rfl) #[.slice (some ⟨w.heap.size,3,none⟩) 16 16] (by simp only[zJ,zK,zL];rfl) ((hro _ HB).mono ?_)
     rintro e W45 ⟨v13,rfl,own13,hG⟩
     obtain⟨A13,c13,rfl,in13⟩:=own13.inB
     replace hb0:=hb0.below hG hb0.lt
     replace i9:=ints_stable _ _ _ _ i9 hG
     replace in10:=(in10.below hG).more hG.size
     replace HB:=HB.trans (hG.mono HB.size)
     refine⟨_,rfl,fun _=>hS _ HB,?_⟩
     clear hG own13
     simp only[zD,zC,zB,Act.put,zA,zF,zE]
     refine RegF.one 1 (by kernel_rfl) ?_
     obtain⟨W46,hrun,hSz,hCl,hbl⟩:=x_convM (W:=W45) (g:=g0) (n:=8) (c:=8) hb0
     have in4:InB W46 W46.heap.size (some ⟨g0,0,none⟩) 8 magicB:=InB.cells (hb0.inB _ hb0.lt (by decide)) hSz hCl
     replace i9:=i9.cells hCl
     replace in10:=in10.cells hSz hCl
     replace in13:=in13.cells hSz hCl
     replace HB:=HB.trans (hbl.toBelow HB.size (fun k e=>by rw[e];exact hgs))
     refine RegF.opV (w':=W46) (.slice (some ⟨g0,0,none⟩) 8 8) rfl rfl (hrun _ _ rfl rfl) ⟨fun _=>hS _ HB,?_⟩
     clear hrun hSz hCl hbl hb0 hgs
     simp only[zD,zC,zB,Act.put,zA,zF,zE]
     obtain⟨W47,hW⟩:∃W,W=W46.alloc (.cells #[.slice (some ⟨g0,0,none⟩) 8 8,.slice A10 (numsB [fi,ma]).length c10,.slice A13 (numsB ro).length c13] 22):=⟨_,rfl⟩
     obtain⟨g14,hg14⟩:∃g,g=W46.heap.size:=⟨_,rfl⟩
     have hL:Lists [magicB,numsB [fi,ma],numsB ro] (.slice (some ⟨g14,0,none⟩) 3 3) W47:=by rw[hW,hg14];exact lists3_new in4 in10 in13
     replace HB:Below w1.heap.size w1 W47:=by rw[hW];exact HB.alloc HB.size _
     refine RegF.one 11 (by kernel_rfl) (RegF.opV (w':=W47) (.slice (some ⟨g14,0,none⟩) 3 3) rfl rfl (by rw[hW,hg14];exact x_lists3 rfl rfl rfl rfl) ⟨fun _=>hS _ HB,?_⟩)
     simp only[zD,zC,zB,Act.put,zA,zF,zE]
     refine RegF.one 12 (by kernel_rfl) ?_
     refine RegF.opC 44 #[.tmp 14] #[141] rfl rfl rfl (enters_of Tryz.func44 (by kernel_rfl) rfl) #[.slice (some ⟨g14,0,none⟩) 3 3] (by simp only[zJ,zK,zL];rfl) ((hpg _ _ hL).mono ?_)
     rintro e W48 ⟨v15,rfl,own15,hG⟩
     obtain⟨A15,c15,rfl,in15⟩:=own15.inB
     replace HB:=HB.trans (hG.mono HB.size)
     refine⟨_,rfl,fun _=>hS _ HB,?_⟩
     simp only[zD,zC,zB,Act.put,zA,zF,zE]
     refine RegF.one 13 (by kernel_rfl) (RegF.opV (w':=W48) (.slice A15 (headX fi ma ro).length c15) rfl rfl (by go_simp) ⟨fun _=>hS _ HB,RegF.done (by kernel_rfl) ?_⟩)
     simp only[zD,zC,zB,Act.put,zA,zF,zE]
     have HBF:=Lib.hid (hBw.trans (HB.mono hBw.size))
     have H15:=Lib.hid in15
     rw[hlen]
     clear hS hro hpg HB in4 i9 in10 in13 hL hW hg14 own15 hG in15 hBw hlen
     go_wp2
     go_ret
     exact⟨A15,c15,rfl,H15.out,HBF.out⟩
   ·skip
    refine RegF.opC 47 #[.tmp 12] #[94] rfl rfl rfl (enters_of Tryz.func47 (by kernel_rfl) rfl) #[.slice (some ⟨w.heap.size,3,none⟩) 16 16] (by simp only[zJ,zK,zL];rfl) ((hro _ HB).mono ?_)
    rintro e W49 ⟨v13,rfl,own13,hG⟩
    obtain⟨A13,c13,rfl,in13⟩:=own13.inB
    replace i9:=ints_stable _ _ _ _ i9 hG
    replace in10:=(in10.below hG).more hG.size
    replace HB:=HB.trans (hG.mono HB.size)
    refine⟨_,rfl,fun _=>hS _ HB,?_⟩
    clear hG own13
    simp only[zD,zC,zB,Act.put,zA,zF,zE]
    refine RegF.one 0 (by kernel_rfl) ?_
    obtain⟨W50,hW⟩:∃W,W=W49.alloc (.cells (magicB.map b8).toArray 5):=⟨_,rfl⟩
    obtain⟨g0,hg0⟩:∃g,g=W49.heap.size:=⟨_,rfl⟩
    have hG:Below W49.heap.size W49 W50:=by rw[hW];exact(Below.refl _ _).alloc (zG _) _
    have hb0:BlkIs W50 g0 5 (magicB.map b8).toArray:=by rw[hW,hg0];exact BlkIs.new _ _ _
    have hgs:w1.heap.size<=g0:=by rw[hg0];exact HB.size
    replace i9:=ints_stable _ _ _ _ i9 hG
    replace in10:=(in10.below hG).more hG.size
    replace in13:=(in13.below hG).more hG.size
    replace HB:=HB.trans (hG.mono HB.size)
    refine RegF.opV (w':=W50) (.slice (some ⟨g0,0,none⟩) 8 8) rfl rfl (by rw[hW,hg0];exact x_magic rfl (fun _=>rfl)) ⟨fun _=>hS _ HB,?_⟩
    clear hW hg0 hG
    simp only[zD,zB,Act.put,zA,zF,zE]
    refine RegF.one 1 (by kernel_rfl) ?_
    obtain⟨W51,hrun,hSz,hCl,hbl⟩:=x_convM (W:=W50) (g:=g0) (n:=8) (c:=8) hb0
    have in4:InB W51 W51.heap.size (some ⟨g0,0,none⟩) 8 magicB:=InB.cells (hb0.inB _ hb0.lt (by decide)) hSz hCl
    replace i9:=i9.cells hCl
    replace in10:=in10.cells hSz hCl
    replace in13:=in13.cells hSz hCl
    replace HB:=HB.trans (hbl.toBelow HB.size (fun k e=>by rw[e];exact hgs))
    refine RegF.opV (w':=W51) (.slice (some ⟨g0,0,none⟩) 8 8) rfl rfl (hrun _ _ rfl rfl) ⟨fun _=>hS _ HB,?_⟩
    clear hrun hSz hCl hbl hb0 hgs
    simp only[zD,zC,zB,Act.put,zA,zF,zE]
    obtain⟨W52,hW⟩:∃W,W=W51.alloc (.cells #[.slice (some ⟨g0,0,none⟩) 8 8,.slice A10 (numsB [fi,ma]).length c10,.slice A13 (numsB ro).length c13] 22):=⟨_,rfl⟩
    obtain⟨g14,hg14⟩:∃g,g=W51.heap.size:=⟨_,rfl⟩
    have hL:Lists [magicB,numsB [fi,ma],numsB ro] (.slice (some ⟨g14,0,none⟩) 3 3) W52:=by rw[hW,hg14];exact lists3_new in4 in10 in13
    replace HB:Below w1.heap.size w1 W52:=by rw[hW];exact HB.alloc HB.size _
    refine RegF.one 11 (by kernel_rfl) (RegF.opV (w':=W52) (.slice (some ⟨g14,0,none⟩) 3 3) rfl rfl (by rw[hW,hg14];exact x_lists3 rfl rfl rfl rfl) ⟨fun _=>hS _ HB,?_⟩)
    simp only[zD,zC,zB,Act.put,zA,zF,zE]
    refine RegF.one 12 (by kernel_rfl) ?_
    refine RegF.opC 44 #[.tmp 14] #[141] rfl rfl rfl (enters_of Tryz.func44 (by kernel_rfl) rfl) #[.slice (some ⟨g14,0,none⟩) 3 3] (by simp only[zJ,zK,zL];rfl) ((hpg _ _ hL).mono ?_)
    rintro e W53 ⟨v15,rfl,own15,hG⟩
    obtain⟨A15,c15,rfl,in15⟩:=own15.inB
    replace HB:=HB.trans (hG.mono HB.size)
    refine⟨_,rfl,fun _=>hS _ HB,?_⟩
    simp only[zD,zC,zB,Act.put,zA,zF,zE]
    refine RegF.one 13 (by kernel_rfl) (RegF.opV (w':=W53) (.slice A15 (headX fi ma ro).length c15) rfl rfl (by go_simp) ⟨fun _=>hS _ HB,RegF.done (by kernel_rfl) ?_⟩)
    simp only[zD,zC,zB,Act.put,zA,zF,zE]
    have HBF:=Lib.hid (hBw.trans (HB.mono hBw.size))
    have H15:=Lib.hid in15
    rw[hlen]
    clear hS hro hpg HB in4 i9 in10 in13 hL hW hg14 own15 hG in15 hBw hlen
    go_wp2
    go_ret
    exact⟨A15,c15,rfl,H15.out,HBF.out⟩
theorem wp_storeBox {w:World}{ops:Array Oper}{rest:List Oper}{o:Oper}{a:Act}{Q:Exit->Act->World->Prop}(hgd:o.guard=none)(T:TypeId)(x y:Operand)(ho:o.op = .store T x y){t:TypeId}{cs cs':Array Value}(hx:a.eval x = .pointer (some ⟨w.heap.size,0,none⟩))(hy:a.eval y = .agg cs'){n:Nat}(hT:RowTy Tryz.prog T n)(hn:cs.size=n)(hs:cs'.size=cs.size)(h1:∀v∈cs'.toList,v.oneCell'=true)
  (h:∀w',Below w.heap.size w w'->BlkIs w' w.heap.size t cs'->wpList Tryz.prog ops Q rest (a.put o.dst undef) w'):wpList Tryz.prog ops Q (o::rest) a (w.alloc (.cells cs t)) :=
 wp_storeW hgd T x y ho w.heap.size hx hy hT (BlkIs.new w t cs) hn hs h1 (h _ (below_setRow ((Below.refl _ w).alloc (zG _) _) (zG _) _) ((BlkIs.new w t cs).setRow cs'))
theorem CaSt.Ok.zero:(⟨0,0,0,fun _=>none⟩:CaSt).Ok 0:=⟨⟨Int.le_refl _,Int.le_refl _⟩,⟨Int.le_refl _,Int.le_refl _⟩,⟨Int.le_refl _,Int.le_refl _⟩⟩
section
variable {P:Nat}{fr pg rm1 rm2:Int}{G1 G2:Nat->List UInt8}{S1 S2:LgS}{c1 c2 c1' c2':CaSt}{i j:Nat}
end
theorem pthere_gives (w:World)(P:Option Addr)(n least:Int):Calls Tryz.prog 53 #[.pointer P,.int .i64 n,.int .i64 least] w fun e w'=>∃f,e = .returned (.agg #[f,.int .i64 4])/\f.oneCell'=true/\Below w.heap.size w w'/\∀p size,P=some ⟨p,0,none⟩->w.cell? ⟨p,0,none⟩=some (.int .i64 size)->PAskIs w' ⟨f,4,decide (n<least∨size<=n)⟩:=by
 obtain⟨W0,hW0⟩:∃W0,W0=((w.alloc (.cells #[.pointer P] 34)).alloc (.cells #[.int .i64 n] 3)).alloc (.cells #[.int .i64 least] 3):=⟨_,rfl⟩
 have hB0:Below w.heap.size w W0:=by rw[hW0];exact(((Below.refl _ w).alloc (zG _) _).alloc (by simp) _).alloc (by simp;omega) _
 have s0:W0.heap.size=w.heap.size+1+1+1:=by rw[hW0];simp
 have b0:BlkIs W0 w.heap.size 34 #[.pointer P]:=by rw[hW0];exact((BlkIs.new w _ _).alloc _).alloc _
 have b1:BlkIs W0 (w.heap.size+1) 3 #[.int .i64 n]:=by
  have:=(BlkIs.new (w.alloc (.cells #[.pointer P] 34)) 3 #[.int .i64 n]).alloc (.cells #[.int .i64 least] 3)
  rw[World.size_alloc] at this
  rw[hW0]
  exact this
 have b2:BlkIs W0 (w.heap.size+1+1) 3 #[.int .i64 least]:=by
  have:=BlkIs.new ((w.alloc (.cells #[.pointer P] 34)).alloc (.cells #[.int .i64 n] 3)) 3 #[.int .i64 least]
  rw[World.size_alloc,World.size_alloc] at this
  rw[hW0]
  exact this
 obtain⟨f,hf⟩:∃f:Value,f = .func (.func 87) #[] #[.pointer (some ⟨w.heap.size+1,0,none⟩),.pointer (some ⟨w.heap.size+1+1,0,none⟩),.pointer (some ⟨w.heap.size,0,none⟩)]:=⟨_,rfl⟩
 have hf1:f.oneCell'=true:=by rw[hf];rfl
 have hA:∀W,Below W0.heap.size W0 W->∀p size,P=some ⟨p,0,none⟩->w.cell? ⟨p,0,none⟩=some (.int .i64 size)->PAskIs W ⟨f,4,decide (n<least∨size<=n)⟩:=fun W hW p size e hc=>by
  subst e
  rw[hf]
  exact PAskIs.later (PAskIs.three 4 (ansThere (p:=p) ((b1.cell 0).trans rfl) ((b2.cell 0).trans rfl) ((b0.cell 0).trans rfl) ((hB0.cell (p:=⟨p,0,none⟩) (cell_lt hc)).trans hc) b1.lt b2.lt b0.lt (zO (cell_lt hc) hB0.size))) hW
 have HA:=Lib.hid hA
 have HW0:Hid (((w.alloc (.cells #[.pointer P] 34)).alloc (.cells #[.int .i64 n] 3)).alloc (.cells #[.int .i64 least] 3)=W0):=Lib.hid hW0.symm
 have HF:=Lib.hid hf
 have S0:=Lib.hid s0
 clear hA b0 b1 b2 hW0 s0 hf
 go_enter Tryz.func53,Tryz.ntmps53
 go_wp2_with (rw[HW0.out];refine wp_storeBox rfl 92 (.tmp 6) (.tmp 8) (w:=W0) rfl (cs':=#[f,.int .i64 4]) (by rw[S0.out];rfl) (by rw[HF.out];rfl) rowPAsk rfl rfl (by simp[hf1];rfl) ?_;intro w4 hB4 b4)
 have hB04:Below w.heap.size w w4:=hB0.trans (hB4.mono hB0.size)
 rw[S0.out] at b4
 refine bodyPost_ret_by (results_cellW 6 rfl rfl rowPAsk b4 rfl) rfl ⟨f,rfl,hf1,hB04,HA.out _ hB4⟩
theorem pmarked_gives (w:World)(P:Option Addr)(n:Int):Calls Tryz.prog 49 #[.pointer P,.int .i64 n] w fun e w'=>∃f,e = .returned (.agg #[f,.int .i64 2])/\f.oneCell'=true/\Below w.heap.size w w'/\∀p A len c,P=some ⟨p,0,none⟩->w.cell? ⟨p,40,none⟩=some (.slice A len c)->PAskIs w' ⟨f,2,decide (n<0∨(len:Int)<=n)⟩:=by
 obtain⟨W0,hW0⟩:∃W0,W0=(w.alloc (.cells #[.pointer P] 34)).alloc (.cells #[.int .i64 n] 3):=⟨_,rfl⟩
 have hB0:Below w.heap.size w W0:=by rw[hW0];exact((Below.refl _ w).alloc (zG _) _).alloc (by simp) _
 have s0:W0.heap.size=w.heap.size+1+1:=by rw[hW0];simp
 have b0:BlkIs W0 w.heap.size 34 #[.pointer P]:=by rw[hW0];exact(BlkIs.new w _ _).alloc _
 have b1:BlkIs W0 (w.heap.size+1) 3 #[.int .i64 n]:=by
  have:=BlkIs.new (w.alloc (.cells #[.pointer P] 34)) 3 #[.int .i64 n]
  rw[World.size_alloc] at this
  rw[hW0]
  exact this
 obtain⟨f,hf⟩:∃f:Value,f = .func (.func 82) #[] #[.pointer (some ⟨w.heap.size+1,0,none⟩),.pointer (some ⟨w.heap.size,0,none⟩)]:=⟨_,rfl⟩
 have hf1:f.oneCell'=true:=by rw[hf];rfl
 have hA:∀W,Below W0.heap.size W0 W->∀p A len c,P=some ⟨p,0,none⟩->w.cell? ⟨p,40,none⟩=some (.slice A len c)->PAskIs W ⟨f,2,decide (n<0∨(len:Int)<=n)⟩:=fun W hW p A len c e hc=>by
  subst e
  rw[hf]
  exact PAskIs.later (PAskIs.two 2 (ansMarked (p:=p) ((b1.cell 0).trans rfl) ((b0.cell 0).trans rfl) ((hB0.cell (p:=⟨p,40,none⟩) (cell_lt hc)).trans hc) b1.lt b0.lt (zO (cell_lt hc) hB0.size))) hW
 have HA:=Lib.hid hA
 have HW0:Hid ((w.alloc (.cells #[.pointer P] 34)).alloc (.cells #[.int .i64 n] 3)=W0):=Lib.hid hW0.symm
 have HF:=Lib.hid hf
 have S0:=Lib.hid s0
 clear hA b0 b1 hW0 s0 hf
 go_enter Tryz.func49,Tryz.ntmps49
 go_wp2_with (rw[HW0.out];refine wp_storeBox rfl 92 (.tmp 4) (.tmp 6) (w:=W0) rfl (cs':=#[f,.int .i64 2]) (by rw[S0.out];rfl) (by rw[HF.out];rfl) rowPAsk rfl rfl (by simp[hf1];rfl) ?_;intro w4 hB4 b4)
 have hB04:Below w.heap.size w w4:=hB0.trans (hB4.mono hB0.size)
 rw[S0.out] at b4
 refine bodyPost_ret_by (results_cellW 4 rfl rfl rowPAsk b4 rfl) rfl ⟨f,rfl,hf1,hB04,HA.out _ hB4⟩
section
variable {W0 W:World}{K:PgK}{p:Nat}{v:PgV}{st last:PgSt}{under:Bool}{mk:Value}
theorem PaIs.asked (h:PaIs W0 K p v st last under mk W)(u:Bool)(A:Option Addr)(c:Nat)(xs:List PAsk)(hin:InG W W.heap.size 2 A xs.length c (pasksC xs))(hl:xs.length<=900)(ha:∀x∈xs,PAskIs W x) :
  Calls Tryz.prog 41 #[.pointer (some ⟨p,0,none⟩),.bool u,.slice A xs.length c] W fun e w'=>e = .returned (.int .i64 (if under != u then 191 else askE xs))/\Below W.heap.size W w' :=
 (pasked_gives W (some ⟨p,0,none⟩) false under u (ansNone h.chc h.pb.lt) (fun _=>⟨p,rfl,h.und,h.pb.lt⟩) A c xs hin hl (fun _=>ha)).mono fun e w' h=>⟨by rw[h.1];rfl,h.2⟩
theorem inG_none (W:World)(n sz:Nat):InG W n sz none 0 0 []:=⟨zG _,by decide,fun _=>rfl,by simp,fun v hv=>absurd hv (by simp),fun h=>absurd h (by simp)⟩
theorem PaIs.asked0 (h:PaIs W0 K p v st last under mk W)(u:Bool) :
  Calls Tryz.prog 41 #[.pointer (some ⟨p,0,none⟩),.bool u,.slice none 0 0] W fun e w'=>e = .returned (.int .i64 (if under != u then 191 else 0))/\Below W.heap.size W w' :=
 h.asked u none 0 [] (inG_none _ _ _) (by simp) (fun x hx=>absurd hx (by simp))
theorem pbegin_gives (h:PaIs W0 K p v st last false mk W):Calls Tryz.prog 11 #[.pointer (some ⟨p,0,none⟩)] W fun e w'=>e = .returned (.int .i64 0)/\PaIs W0 K p v st last true mk w'/\GrowBut (fun k=>k=p) W w':=by
 have HA:=h.asked0 false
 go_enter Tryz.func11,Tryz.ntmps11
 go_wp2_with (go_at_call 41;refine HA.mono ?_;rintro e w1 ⟨rfl,hB1⟩;have h1:=h.grow hB1;have c39:=h1.und;have f39:=h1.pb.free 39)
 go_ret
 obtain⟨h2,hG2⟩:=h1.setUnder (under':=true)
 exact⟨rfl,h2,(GrowBut.below hB1).trans hG2⟩
theorem pover_gives (h:PaIs W0 K p v st last under mk W):Calls Tryz.prog 52 #[.pointer (some ⟨p,0,none⟩)] W fun e w'=>(∃x,e = .returned x)/\PaIs W0 K p v st last false (.slice none 0 0) w'/\GrowBut (fun k=>k=p) W w':=by
 have c39:=h.und
 obtain⟨h1,hG1⟩:=h.setUnder (under':=false)
 have c40:=h1.mks
 have f39:=h.pb.free 39
 have f40:=h1.pb.free 40
 obtain⟨h2,hG2⟩:=h1.setMarks (mk':=.slice none 0 0)
 go_enter Tryz.func52,Tryz.ntmps52
 go_wp2
 go_end0
 exact⟨⟨_,rfl⟩,h2,hG1.trans hG2⟩
theorem psize_gives (h:PaIs W0 K p v st last under mk W):Calls Tryz.prog 20 #[.pointer (some ⟨p,0,none⟩)] W fun e w'=>e = .returned (.int .i64 st.size)/\W=w':=by
 have HN:=pnone_gives h.chc
 have c0:=h.szc
 go_enter Tryz.func20,Tryz.ntmps20
 go_wp2_with (go_at_call 46;refine HN.mono ?_;rintro e w1 ⟨rfl,rfl⟩)
 go_ret
 exact⟨rfl,rfl⟩
end
theorem pasks_new (W:World)(xs:List PAsk)(h1:∀v∈pasksC xs,v.oneCell'=true)(T:TypeId)(hn:xs.length<=1000):InG (W.alloc (.cells (pasksC xs).toArray T)) (W.alloc (.cells (pasksC xs).toArray T)).heap.size 2 (some ⟨W.heap.size,0,none⟩) xs.length xs.length (pasksC xs) :=
 ⟨zG _,by omega,(fun e=>by cases e),pasksC_length xs,h1,fun _=>⟨W.heap.size,0,rfl,by simp,fun j v hj=>by
  rw[qK,(BlkIs.new W T (pasksC xs).toArray).cell]
  simpa using hj⟩⟩
theorem Names.mono {K:PgK}{W W':World}{v v':PgV}(h:Names K W' v v')(hs:W.heap.size<=W'.heap.size):Names K W v v':=fun k hk=>(h k hk).elim .inl (fun e => .inr (by omega))
structure WrF (K:PgK)(v v':PgV)(n:Int)(y:List UInt8)(x:Int):Prop where
 nn:v'.N=v.N+1
 ii:v'.i=v.i
 yy:v'.Y K=v.Y K
 sz:v'.S.sz=v.S.sz
 dd:(x=0/\v'.D=fun j=>if j=n then some y else v.D j)∨(x=160/\NoRoom K.P K.room v.c.V/\v'.D=v.D)
section
variable {W0 W:World}{K:PgK}{p:Nat}{v:PgV}{st last:PgSt}{mk:Value}
theorem pwritep_gives (h:PaIs W0 K p v st last true mk W)(hK:K.Ok)(hN:v.N<=800000)(n:Int)(hn:1<=n/\n<st.size)(hP:n<(K.P:Int))(A:Option Addr)(c:Nat)(y:List UInt8)(hy:y.length=512)(hin:InB W W.heap.size A c y) :
  Calls Tryz.prog 27 #[.pointer (some ⟨p,0,none⟩),.int .i64 n,.slice A 512 c] W fun e w'=>∃x v',e = .returned (.int .i64 x)/\PaIs W0 K p v' st last true mk w'/\WrF K v v' n y x/\Names K W v v'/\GrowBut (K.mu v) W w':=by
 obtain⟨W1,hW1⟩:∃W1,W1=W.alloc (.cells #[.slice A 512 c] 22):=⟨_,rfl⟩
 have hB1:Below W.heap.size W W1:=by rw[hW1];exact(Below.refl _ _).alloc (zG _) _
 have b1:BlkIs W1 W.heap.size 22 #[.slice A 512 c]:=by rw[hW1];exact BlkIs.new W _ _
 have hd:decide (n<1∨st.size<=n)=false:=decide_eq_false (by omega)
 have HW1:=Lib.hid hW1.symm
 clear hW1
 go_enter Tryz.func27,Tryz.ntmps27
 go_wp2_with (go_at_call 53;rw[HW1.out];refine(pthere_gives W1 (some ⟨p,0,none⟩) n 1).mono ?_;rintro e w2 ⟨f,rfl,hf1,hB2,hA2⟩)
 have h2:=(h.grow hB1).grow hB2
 have b2:=b1.below hB2 b1.lt
 obtain⟨xs,hxs⟩:∃xs:List PAsk,xs=[⟨.func (.func 55) #[] #[.pointer (some ⟨W.heap.size,0,none⟩)],2,false⟩,⟨f,4,false⟩]:=⟨_,rfl⟩
 have hone:∀v∈pasksC xs,v.oneCell'=true:=fun v hv=>by
  rw[hxs] at hv
  simp only[pasksC,paskC,zK,zL,List.flatten_cons,List.flatten_nil,zW,zQ,List.mem_cons,List.not_mem_nil,or_false] at hv
  rcases hv with rfl|rfl|rfl|rfl
  ·rfl
  ·rfl
  ·exact hf1
  ·rfl
 obtain⟨W3,hW3⟩:∃W3,W3=w2.alloc (.cells #[.func (.func 55) #[] #[.pointer (some ⟨W.heap.size,0,none⟩)],.int .i64 2,f,.int .i64 4] 92):=⟨_,rfl⟩
 have hB3:Below w2.heap.size w2 W3:=by rw[hW3];exact(Below.refl _ _).alloc (zG _) _
 have hin3:InG W3 W3.heap.size 2 (some ⟨w2.heap.size,0,none⟩) xs.length xs.length (pasksC xs):=by
  have:=pasks_new w2 xs hone 92 (by rw[hxs];simp)
  rw[hW3]
  subst hxs
  exact this
 have h3:=h2.grow hB3
 have b3:=b2.below hB3 b2.lt
 have ha:∀x∈xs,PAskIs W3 x:=fun x hx=>by
  rw[hxs] at hx
  simp only[List.mem_cons,List.not_mem_nil,or_false] at hx
  rcases hx with rfl|rfl
  ·refine PAskIs.one 2 ⟨enters_of Tryz.func55 (by kernel_rfl) rfl,fun W4 hW4 => ?_⟩
   refine(pwrite1_ask (bb:=W.heap.size) (len:=512) (c:=c) (A:=A) ((b3.below hW4 b3.lt).boxed)).mono ?_
   rintro e w' ⟨rfl,rfl⟩
   exact⟨rfl,Below.refl _ _⟩
  ·have:=hA2 p st.size rfl (h.grow hB1).szc
   rw[hd] at this
   exact PAskIs.later this hB3
 have HA:=h3.asked true (some ⟨w2.heap.size,0,none⟩) xs.length xs hin3 (by rw[hxs];simp) ha
 have hE:(if (true != true)=true then 191 else askE xs)=0:=by rw[hxs];rfl
 have hxl:xs.length=2:=by rw[hxs];rfl
 rw[hE,hxl] at HA
 rw[<-hW3]
 refine HA.mono ?_
 rintro e w4 ⟨rfl,hB4⟩
 have h4:=h3.grow hB4
 have b4:=b3.below hB4 b3.lt
 have hBB:Below W.heap.size W w4:=((hB1.trans (hB2.mono hB1.size)).trans (hB3.mono (by have:=hB1.size;have:=hB2.size;omega))).trans (hB4.mono (by have:=hB1.size;have:=hB2.size;have:=hB3.size;omega))
 have hS0:w4.drew.cell? ⟨p,19,none⟩=some (.pointer (some ⟨K.a,0,none⟩))/\w4.drew.cell? ⟨W.heap.size,0,none⟩=some (.slice A 512 c):=⟨h4.chc,b4.boxed⟩
 have b4l:=b4.lt
 have hin4:=((hin.below hBB).more hBB.size).drew
 have h4d:PaIs W0 K p v st last true mk w4.drew:=h4.grow (Below.refl _ _).drew
 clear ha hin3 HA hE hxl hA2 hone h2 h3 b2 b3 hB3 hW3 hxs h4 b1 b4
 go_wp2_with fail
 refine RegF.start (fun W':World=>W'.cell? ⟨p,19,none⟩=some (.pointer (some ⟨K.a,0,none⟩))/\W'.cell? ⟨W.heap.size,0,none⟩=some (.slice A 512 c)) 9 (by kernel_rfl) ?_
 refine RegF.t0 0 (.pointer (some ⟨p,0,none⟩)) rfl hS0 (fun W ⟨e0,e1⟩=>by go_simp) ?_
 simp only[zD,zB,Act.put,zA,zF,zE]
 refine RegF.t0 1 (.pointer (some ⟨p,0,none⟩)) rfl hS0 (fun W ⟨e0,e1⟩=>by go_simp) ?_
 simp only[zD,zC,zB,Act.put,zA,zF,zE]
 refine RegF.t0 2 (.pointer (some ⟨p,19,none⟩)) rfl hS0 (fun W ⟨e0,e1⟩=>by go_simp) ?_
 simp only[zD,zC,zB,Act.put,zA,zF,zE]
 refine RegF.t0 3 (.pointer (some ⟨K.a,0,none⟩)) rfl hS0 (fun W ⟨e0,e1⟩=>by go_simp) ?_
 simp only[zD,zC,zB,Act.put,zA,zF,zE]
 refine RegF.t0 4 (.int .i64 n) rfl hS0 (fun W ⟨e0,e1⟩=>by go_simp) ?_
 simp only[zD,zC,zB,Act.put,zA,zF,zE]
 refine RegF.t0 5 (.slice A 512 c) rfl hS0 (fun W ⟨e0,e1⟩=>by go_simp) ?_
 simp only[zD,zC,zB,Act.put,zA,zF,zE]
 refine RegF.one 6 (by kernel_rfl) ?_
 refine RegF.opC 34 #[.tmp 22,.tmp 23,.tmp 24] #[52,3,22] rfl rfl rfl (enters_of Tryz.func34 (by kernel_rfl) rfl) #[.pointer (some ⟨K.a,0,none⟩),.int .i64 n,.slice A 512 c] (by simp only[zJ,zK,zL];rfl) ((gwrite h4d.ca hK hN n A c y hy hin4).mono ?_)
 rintro e w5 ⟨x,v',rfl,hC5,e1,e2,e3,e4,hq,hn5,hG5⟩
 have h5:=h4d.turn hG5 hC5
 have hG:GrowBut (K.mu v) W w5:=(GrowBut.below (hBB.trans ((Below.refl _ _).drew.mono hBB.size))).trans hG5
 have hF:WrF K v v' n y x:=⟨e1,e2,e3,e4,hq.elim (fun h => .inl ⟨h.1,h.2.2⟩) (fun h => .inr (by
  rcases h.1 with h1|h1
  ·omega
  ·exact⟨h1.1,h1.2,h.2⟩))⟩
 have hN5:Names K W v v':=hn5.mono hBB.size
 have hS5:w5.cell? ⟨p,19,none⟩=some (.pointer (some ⟨K.a,0,none⟩))/\w5.cell? ⟨W.heap.size,0,none⟩=some (.slice A 512 c):=⟨h5.chc,hG5.cell hS0.2 (by show W.heap.size<w4.heap.size;exact b4l) (fun hm=>by have:=h.ca.lts _ hm;simp at this)⟩
 refine⟨_,rfl,fun _=>hS5,?_⟩
 simp only[zD,zC,zB,Act.put,zA,zF,zE]
 refine RegF.one 7 (by kernel_rfl) (RegF.opV (w':=w5) (.int .i64 x) rfl rfl (by go_simp) ⟨fun _=>hS5,RegF.done (by kernel_rfl) ?_⟩)
 simp only[zD,zC,zB,Act.put,zA,zF,zE]
 clear hS5 hS0 hin4 h4d hq hG5 hn5
 go_wp2
 go_ret
 exact⟨x,v',rfl,h5,hF,hN5,hG⟩
end
def linkB (f:Int):List UInt8:=padB (numsB [f])
theorem linkB_length (f:Int):(linkB f).length=512:=padB_length (by have:=numsB_length [f];simp at this;omega)
theorem linkB_next {f:Int}(h:0<=f/\f<4294967296):((rfix ((linkB f).take 4):Nat):Int)=f:=by
 have e:(linkB f).take 4=numB f:=by
  unfold linkB padB
  have h4:(numB f).length=4:=fixL_length _ _
  have e1:numsB [f]=numB f:=by simp[numsB]
  rw[e1,List.take_append_of_le_length (by omega),qA (by omega)]
 rw[e]
 exact rfix_numB h
theorem ints1_new (W:World)(a:Int):IntsL [a] (.slice (some ⟨W.heap.size,0,none⟩) 1 1) (W.alloc (.cells #[.int .i64 a] 3)):=⟨W.heap.size,rfl,fun j hj=>by
 rw[(BlkIs.new W 3 #[.int .i64 a]).cell]
 match j,hj with
 | 0,_=>rfl
 | j+1,hj=>exact absurd hj (by simp)⟩
section
variable {W0 W:World}{K:PgK}{p:Nat}{v v':PgV}{st last:PgSt}{under:Bool}{mk:Value}
theorem growMu {W':World}(h:GrowBut (K.mu v) W W'):GrowBut (pgMu K p v) W W':=h.more fun _ hk _ => .inr hk
theorem growP {W':World}(h:GrowBut (fun k=>k=p) W W'):GrowBut (pgMu K p v) W W':=h.more fun _ hk _ => .inl hk
theorem pfree_gives (h:PaIs W0 K p v st last true mk W)(hK:K.Ok)(hN:v.N<=800000)(n:Int)(hn:1<=n/\n<st.size)(hP:n<(K.P:Int))(hm:0<=st.many/\st.many<=1000) :
  Calls Tryz.prog 14 #[.pointer (some ⟨p,0,none⟩),.int .i64 n] W fun e w'=>∃x v',e = .returned (.int .i64 x)/\PaIs W0 K p v' (if x=0 then { st with first:=n,many:=st.many+1 } else st) last true mk w'/\WrF K v v' n (linkB st.first) x/\Names K W v v'/\GrowBut (pgMu K p v) W w':=by
 have HN:=pnone_gives h.chc
 have c1:=h.fic
 have hl4:(numsB [st.first]).length<=512:=by have:=numsB_length [st.first];simp at this;omega
 have hW:IntKind.i64.wrap (st.many+1)=st.many+1:=wrap_i64_fr _ (by omega) (by omega)
 go_enter Tryz.func14,Tryz.ntmps14
 go_wp2_with (first
  | (go_at_call 46;refine HN.mono ?_;rintro e w1 ⟨rfl,rfl⟩)
  | (go_at_call 47;refine(IntsL.gives (ints1_new W st.first) (by simp)).mono ?_;rintro e w2 ⟨v2,rfl,own2,hB2⟩;obtain⟨A2,c2,rfl,hin2⟩:=own2.inB)
  | (revert hin2;intro hin2;go_at_call 44;refine(ppage_gives (ls:=[numsB [st.first]]) (Lists.new (w:=w2) [((A2,c2),numsB [st.first])] (by intro x hx;simp only[List.mem_cons,List.not_mem_nil,or_false] at hx;subst hx;exact hin2)) (by simp) (by simpa using hl4)).mono ?_;rintro e w3 ⟨v3,rfl,own3,hB3⟩;obtain⟨A3,c3,rfl,hin3⟩:=own3.inB))
 have hB01:Below W.heap.size W (W.alloc (.cells #[.int .i64 st.first] 3)):=(Below.refl _ W).alloc (zG _) _
 have hB02:Below W.heap.size W w2:=hB01.trans (hB2.mono hB01.size)
 have hB03:Below W.heap.size W w3:=hB02.trans (((Below.refl _ w2).alloc (zG _) (.cells #[.slice A2 (numsB [st.first]).length c2] 22)).trans (hB3.mono (by simp)) |>.mono hB02.size)
 have h3:=h.grow hB03
 have hlen:(padB (numsB [st.first])).length=512:=linkB_length st.first
 rw[hlen]
 refine(pwritep_gives h3 hK hN n hn hP A3 c3 (linkB st.first) (linkB_length _) (by simpa[linkB] using hin3)).mono ?_
 rintro e w4 ⟨x,v',rfl,h4,hF,hN4,hG4⟩
 have hN5:=hN4.mono hB03.size
 have hG:GrowBut (pgMu K p v) W w4:=(GrowBut.below hB03).trans (growMu hG4)
 clear hin3 hin2 own2 own3 hB2 hB3 hB01 hB02 hB03 h3 hlen HN c1 h hG4 hN4 hl4
 by_cases hx:x=0
 ·subst hx
  have c2':=h4.mac
  have c1':=h4.fic
  have f1:=h4.pb.free 1
  obtain⟨h5,hG5⟩:=h4.setFirst n
  have c2'':=h5.mac
  have f2:=h5.pb.free 2
  obtain⟨h6,hG6⟩:=h5.setMany (st.many+1)
  have H6:=Lib.hid h6
  have HG:=Lib.hid (hG.trans ((growP hG5).trans (growP hG6)))
  clear h4 h5 h6 hG5 hG6 hG
  go_wp2
  go_ret
  exact⟨0,v',rfl,(by rw[if_pos rfl];exact H6.out),hF,hN5,HG.out⟩
 ·clear hm hW hn
  go_wp2
  go_ret
  exact⟨x,v',rfl,(by rw[if_neg hx];exact h4),hF,hN5,hG⟩
theorem prollback_gives (h:PaIs W0 K p v st last true mk W):Calls Tryz.prog 18 #[.pointer (some ⟨p,0,none⟩)] W fun e w'=>∃v',e = .returned (.int .i64 0)/\PaIs W0 K p v' last last false (.slice none 0 0) w'/\v'.N=v.N/\v'.i=v.i/\v'.Y K=v.Y K/\v'.S.sz=v.S.sz/\(v'.D=fun _=>none)/\Names K W v v'/\GrowBut (pgMu K p v) W w':=by
 have HA:=h.asked0 true
 have hll:=psC_length h.hl
 go_enter Tryz.func18,Tryz.ntmps18
 go_wp2_with (first
  | (go_at_call 41;refine HA.mono ?_;rintro e w1 ⟨rfl,hB1⟩;have h1:=h.grow hB1;have c19:=h1.chc)
  | (revert h1;intro h1;go_at_call 50;refine(gdrop h1.ca).mono ?_;rintro e w2 ⟨v',rfl,hC2,e1,e2,e3,e4,e5,hN2,hG2⟩;have h2:=h1.turn hG2 hC2;have hR2:=h2.lastRange;have hT2:=blk_there (o:=0) (n:=(psC last).toArray.size) h2.pb (by rw[pgC_size' h2.hs h2.hl];simp[hll]))
  | (revert hR2;intro hR2;refine wp_exec rfl (x_loadM rowPgSt hR2 hll rfl rfl) ?_)
  | (revert hT2;intro hT2;refine wpList_store_mid rfl 51 _ _ rfl p 0 (psC last).toArray rfl rfl hT2 (by simpa[hll] using rowPgSt.size) (all_oneCell_toArray (psC_one last)) ?_;obtain⟨h3,hG3⟩:=h2.setState h2.hl)
  | (revert h3;intro h3;go_at_call 52;refine(pover_gives h3).mono ?_;rintro e w4 ⟨⟨x,rfl⟩,h4,hG4⟩))
 go_ret
 exact⟨v',rfl,h4,e1,e2,e3,e4,e5,hN2.mono hB1.size,(GrowBut.below hB1).trans ((growMu hG2).trans ((growP hG3).trans (growP hG4)))⟩
end
theorem cfile_gives {w:World}{a f r P:Nat}{room now hh mm:Int}{V:RowsV}(h:CaIs w a f r P room now hh mm V):Calls Tryz.prog 42 #[.pointer (some ⟨a,0,none⟩)] w fun e w'=>e = .returned (.pointer (some ⟨f,0,none⟩))/\w=w':=by
 have HN:=cnone_gives h.cb
 have c0:w.cell? ⟨a,0,none⟩=some (.pointer (some ⟨f,0,none⟩)):=(h.cb.cell _).trans rfl
 go_enter Tryz.func42,Tryz.ntmps42
 go_wp2_with (go_at_call 65;refine HN.mono ?_;rintro e w' ⟨rfl,rfl⟩)
 go_ret
 exact⟨rfl,rfl⟩
def Tight (K:PgK)(D:Int->Option (List UInt8)):Prop:=∀l:List Nat,(∀p b,D p=some b->p.toNat∈l)->K.room<=(l.length:Int)
theorem CaAt.tight {W0 W:World}{K:PgK}{v:PgV}(h:CaAt W0 K v W)(hn:NoRoom K.P K.room v.c.V):Tight K v.D:=fun l hl=>hn.dirty (fun p b e=>hl p b (dirF_some.2 e)) (fun k u e=>(h.ro k u.y u.d (rowsR_some e)).1.1)
def zeroB:List UInt8:=zR 512 0
structure MkF (K:PgK)(v v':PgV)(st st':PgSt)(n x:Int):Prop where
 nn:v'.N<=v.N+2
 ii:v'.i=v.i
 yy:v'.Y K=v.Y K
 sz:v'.S.sz=v.S.sz
 dd:(x=0/\st.first=0/\n=st.size/\st.size<K.pg/\st' = { st with size:=st.size+1 }/\v'.D=fun j=>if j=n then some zeroB else v.D j) ∨
  (x=0/\st.first≠0/\n=st.first/\st' = { st with first:=(rfix ((v.view K st.first.toNat).take 4):Int),many:=st.many - 1 }/\v'.D=fun j=>if j=n then some zeroB else v.D j) ∨
  (x≠0/\n=0/\st'=st/\v'.D=v.D/\((st.first=0/\K.pg<=st.size/\x=160)∨Tight K v.D∨(st.first≠0/\(st.size<=(rfix ((v.view K st.first.toNat).take 4):Int)∨st.many - 1<0))))
theorem x_allocPgSt {ρ:Operand->Value}{o:Oper}{w:World}(ho:o.op = .alloc 51):(execOp ρ o).run Tryz.prog w = .ok (.value (.pointer (some ⟨w.heap.size,0,none⟩))) (w.alloc (.cells #[.int .i64 0,.int .i64 0,.int .i64 0,.int .i64 0,.int .i64 0,.int .i64 0,.int .i64 0,.int .i64 0,.int .i64 0,.int .i64 0,.int .i64 0,.int .i64 0,.int .i64 0,.int .i64 0,.int .i64 0,.int .i64 0,.int .i64 0,.int .i64 0,.int .i64 0] 51)):=by
 simp[execOp,ho,Instr.alloc,newVar,newRow,go_sem,Result.andThen]
theorem GrowBut.setNew {Mu:Nat->Prop}{a c:World}(h:GrowBut Mu a c){b j:Nat}{u:Value}(hb:a.heap.size<=b):GrowBut Mu a (c.setCell ⟨b,j,none⟩ u) :=
 ⟨h.os,h.tape,h.output,by simpa using h.size,fun k hk hn=>(Below.heap_setCell c ⟨b,j,none⟩ u k (by show k≠b;omega)).trans (h.block k hk hn)⟩
theorem PaIs.keepB {W0 X:World}{K:PgK}{p:Nat}{v:PgV}{st last:PgSt}{under:Bool}{mk:Value}(h:PaIs W0 K p v st last under mk X){b:Nat}{T:TypeId}{cs:Array Value}(hb:BlkIs X b T cs)(hs:cs.size<=64)(h0:∀n,cs[0]? ≠ some (.int .u64 n))(hge:W0.heap.size<=b)(hm:¬ K.mu v b)(hf:b≠K.f)(hp:b≠p)(j:Nat)(u:Value):PaIs W0 K p v st last under mk (X.setCell ⟨b,j,none⟩ u):=by
 have hG:GrowBut (fun k=>k=b) X (X.setCell ⟨b,j,none⟩ u):=GrowBut.setCell _ _ _ rfl
 have hsm:SmBlk X b:=⟨.inr (.inl ⟨T,cs,hb,hs,h0⟩),.inr (.inl ⟨T,cs,hb,hs⟩)⟩
 exact⟨h.ca.keep hG (fun k e=>by subst e;exact hsm) (fun k e=>by subst e;exact hge) (fun k e=>by subst e;exact⟨hm,hf⟩),hG.blk h.pb (fun e=>hp e.symm),h.np,h.hs,h.hl⟩
def MkOut (W0:World)(K:PgK)(p:Nat)(v:PgV)(st last:PgSt)(mk:Value)(W:World)(e:Ending)(w':World):Prop:=∃n x v' st',e = .returned (.tuple #[.int .i64 n,.int .i64 x])/\PaIs W0 K p v' st' last true mk w'/\MkF K v v' st st' n x/\Names K W v v'/\GrowBut (pgMu K p v) W w'
theorem MkOut.mk {W0:World}{K:PgK}{p:Nat}{v:PgV}{st last:PgSt}{mk:Value}{W:World}{e:Ending}{w':World}(h:∃n x v' st',e = .returned (.tuple #[.int .i64 n,.int .i64 x])/\PaIs W0 K p v' st' last true mk w'/\MkF K v v' st st' n x/\Names K W v v'/\GrowBut (pgMu K p v) W w'):MkOut W0 K p v st last mk W e w':=h
-- THE WALK
section
variable {W0 W:World}{K:PgK}{p:Nat}{v:PgV}{st last:PgSt}{mk:Value}
theorem pmake_gives (h:PaIs W0 K p v st last true mk W)(hK:K.Ok)(hN:v.N<=700000)(hsz:1<=st.size/\st.size<=(K.P:Int))(hf:0<=st.first/\st.first<(K.P:Int))(hm:0<=st.many/\st.many<=1000) :
  Calls Tryz.prog 12 #[.pointer (some ⟨p,0,none⟩)] W (MkOut W0 K p v st last mk W):=by
 have HA:=h.asked0 true
 have hsl:=psC_length h.hs
 have hP2:=hK.P2
 have hPg:=hK.hP
 go_enter Tryz.func12,Tryz.ntmps12
 go_wp2_with (go_at_call 41;refine HA.mono ?_;rintro e w1 ⟨rfl,hB1⟩)
 obtain⟨w1d,hw1d⟩:∃x,x=w1.drew:=⟨_,rfl⟩
 have hB1d:Below W.heap.size W w1d:=by rw[hw1d];exact hB1.trans ((Below.refl _ _).drew.mono hB1.size)
 have h1:=h.grow hB1d
 have hS0:w1d.rangeAt p 0 (psC st)/\w1d.cell? ⟨p,1,none⟩=some (.int .i64 st.first):=⟨h1.stRange,h1.fic⟩
 refine RegF.start (fun W':World=>W'.rangeAt p 0 (psC st)/\W'.cell? ⟨p,1,none⟩=some (.int .i64 st.first)) 99 (by kernel_rfl) ?_
 rw[<-hw1d]
 refine RegF.t0 0 (.pointer (some ⟨p,0,none⟩)) rfl hS0 (fun W ⟨e0,e1⟩=>by go_simp) ?_
 simp only[zD,zB,Act.put,zA,zF,zE]
 refine RegF.t0 1 (.pointer (some ⟨p,0,none⟩)) rfl hS0 (fun W ⟨e0,e1⟩=>by go_simp) ?_
 simp only[zD,zC,zB,Act.put,zA,zF,zE]
 refine RegF.t0 2 (.pointer (some ⟨p,0,none⟩)) rfl hS0 (fun W ⟨e0,e1⟩=>by go_simp) ?_
 simp only[zD,zC,zB,Act.put,zA,zF,zE]
 refine RegF.t0 3 (.agg (psC st).toArray) rfl hS0 (fun W ⟨e0,e1⟩=>by exact x_loadM rowPgSt e0 hsl rfl rfl) ?_
 simp only[zD,zC,zB,Act.put,zA,zF,zE]
 refine RegF.t0 4 (.pointer (some ⟨p,0,none⟩)) rfl hS0 (fun W ⟨e0,e1⟩=>by go_simp) ?_
 simp only[zD,zC,zB,Act.put,zA,zF,zE]
 refine RegF.t0 5 (.pointer (some ⟨p,0,none⟩)) rfl hS0 (fun W ⟨e0,e1⟩=>by go_simp) ?_
 simp only[zD,zC,zB,Act.put,zA,zF,zE]
 refine RegF.t0 6 (.pointer (some ⟨p,0,none⟩)) rfl hS0 (fun W ⟨e0,e1⟩=>by go_simp) ?_
 simp only[zD,zC,zB,Act.put,zA,zF,zE]
 refine RegF.t0 7 (.pointer (some ⟨p,1,none⟩)) rfl hS0 (fun W ⟨e0,e1⟩=>by go_simp) ?_
 simp only[zD,zC,zB,Act.put,zA,zF,zE]
 refine RegF.t0 8 (.int .i64 st.first) rfl hS0 (fun W ⟨e0,e1⟩=>by go_simp) ?_
 simp only[zD,zC,zB,Act.put,zA,zF,zE]
 obtain⟨b,hb⟩:∃b,b=w1d.heap.size:=⟨_,rfl⟩
 obtain⟨w2,hw2⟩:∃w2,w2=w1d.alloc (.cells #[.int .i64 0,.int .i64 0,.int .i64 0,.int .i64 0,.int .i64 0,.int .i64 0,.int .i64 0,.int .i64 0,.int .i64 0,.int .i64 0,.int .i64 0,.int .i64 0,.int .i64 0,.int .i64 0,.int .i64 0,.int .i64 0,.int .i64 0,.int .i64 0,.int .i64 0] 51):=⟨_,rfl⟩
 have b2:BlkIs w2 b 51 #[.int .i64 0,.int .i64 0,.int .i64 0,.int .i64 0,.int .i64 0,.int .i64 0,.int .i64 0,.int .i64 0,.int .i64 0,.int .i64 0,.int .i64 0,.int .i64 0,.int .i64 0,.int .i64 0,.int .i64 0,.int .i64 0,.int .i64 0,.int .i64 0,.int .i64 0]:=by rw[hw2,hb];exact BlkIs.new _ _ _
 have hB2:Below w1d.heap.size w1d w2:=by rw[hw2];exact(Below.refl _ _).alloc (zG _) _
 have h2:=h1.grow hB2
 have hS2:w2.rangeAt p 0 (psC st)/\w2.cell? ⟨p,1,none⟩=some (.int .i64 st.first):=⟨h2.stRange,h2.fic⟩
 refine RegF.one 9 (by kernel_rfl) (RegF.opV (w':=w2) (.pointer (some ⟨b,0,none⟩)) rfl rfl (by rw[hw2,hb];exact x_allocPgSt rfl) ⟨fun _=>hS2,?_⟩)
 simp only[zD,zC,zB,Act.put,zA,zF,zE]
 obtain⟨w3,hw3⟩:∃w3,w3=w2.setRow b (psC st).toArray:=⟨_,rfl⟩
 have b3:BlkIs w3 b 51 (psC st).toArray:=by rw[hw3];exact b2.setRow _
 have hB3:Below w1d.heap.size w1d w3:=by rw[hw3];exact below_setRow hB2 (by rw[hb];exact zG _) _
 have h3:=h1.grow hB3
 have hS3:w3.rangeAt p 0 (psC st)/\w3.cell? ⟨p,1,none⟩=some (.int .i64 st.first):=⟨h3.stRange,h3.fic⟩
 refine RegF.one 10 (by kernel_rfl) (RegF.opS (w':=w3) rfl rfl (by rw[hw3];exact x_storeW _ _ _ rfl b rfl rfl rowPgSt b2 rfl (by simp[hsl]) (by simpa using psC_one st)) ⟨fun _=>hS3,?_⟩)
 simp only[zD,zC,zB,Act.put]
 refine RegF.one 11 (by kernel_rfl) (RegF.opV (w':=w3) (.int .i64 st.first) rfl rfl (by go_simp) ⟨fun _=>hS3,RegF.done (by kernel_rfl) ?_⟩)
 simp only[zD,zC,zB,Act.put,zA,zF,zE]
 have hB03:Below W.heap.size W w3:=hB1d.trans (hB3.mono hB1d.size)
 have hbW:W.heap.size<=b:=by rw[hb];exact hB1d.size
 have hmu:¬ K.mu v b:=fun hk=>by have:=h1.ca.lts _ hk;omega
 have hbf:b≠K.f:=by have:=h1.ca.cs.fh.fb.lt;omega
 have hbp:b≠p:=by have:=h1.pb.lt;omega
 have hb0:W0.heap.size<=b:=by have:=h.ca.cs.fh.up.size;omega
 clear hS0 hS2 hS3 hw2 hw3 b2 h2 HA h1 hB1 hB1d hB2 hw1d hb hB3
 by_cases hf0:st.first=0
 ·have cb0:w3.cell? ⟨b,0,none⟩=some (.int .i64 st.size):=(b3.cell 0).trans (by simp[psC])
  have c19:=h3.chc
  have hpp:=planPages K.fr K.pg
  have hwr:IntKind.i64.wrap (st.size+1)=st.size+1:=wrap_i64_fr _ (by omega) (by omega)
  by_cases hfull:K.pg<=st.size
  ·have hF:MkF K v v st st 0 160:=⟨by omega,rfl,rfl,rfl,.inr (.inr ⟨by decide,rfl,rfl,rfl,.inl ⟨hf0,hfull,rfl⟩⟩)⟩
   have HF:=Lib.hid hF
   clear hF
   go_wp2_with (first
    | (go_at_call 42;refine(cfile_gives h3.ca.cs.ca).mono ?_;rintro e w4 ⟨rfl,rfl⟩)
    | (go_at_call 43;refine(fplan_gives h3.ca.cs.fh.fb).mono ?_;rintro e w4 ⟨rfl,hB4⟩))
   exact bodyPost_ret (results_tmp2 rfl _ _ _) rfl (MkOut.mk ⟨0,160,v,st,rfl,h3.grow hB4,HF.out,fun k hk => .inl hk,GrowBut.below (hB03.trans (hB4.mono hB03.size))⟩)
  ·go_wp2_with (first
    | (go_at_call 42;refine(cfile_gives h3.ca.cs.ca).mono ?_;rintro e w4 ⟨rfl,rfl⟩)
    | (go_at_call 43;refine(fplan_gives h3.ca.cs.fh.fb).mono ?_;rintro e w4 ⟨rfl,hB4⟩;have cb4:=(hB4.cell (p:=⟨b,0,none⟩) b3.lt).trans cb0;have fb4:=(b3.below hB4 b3.lt).free 0))
   have b4:=b3.below hB4 b3.lt
   have h4:=h3.grow hB4
   have hG4:GrowBut (K.mu v) W w4:=GrowBut.below (hB03.trans (hB4.mono hB03.size))
   have b5:=b4.set 0 (.int .i64 (st.size+1))
   have ea:(psC st).toArray.setIfInBounds 0 (.int .i64 (st.size+1))=(psC { st with size:=st.size+1 }).toArray:=by simp[psC]
   rw[ea] at b5
   obtain⟨sx,hsxe⟩:∃sx:PgSt,sx = { st with size:=st.size+1 }:=⟨_,rfl⟩
   rw[<-hsxe] at b5
   have hsr:sx.roots.length=16:=by rw[hsxe];exact h.hs
   have HSX:=Lib.hid hsxe
   clear hsxe
   have h5:=h4.keepB b4 (by simp[hsl]) (fun n=>by simp[psC]) hb0 hmu hbf hbp 0 (.int .i64 (st.size+1))
   have hG5:GrowBut (K.mu v) W (w4.setCell ⟨b,0,none⟩ (.int .i64 (st.size+1))):=hG4.setNew hbW
   generalize w4.setCell ⟨b,0,none⟩ (.int .i64 (st.size+1))=w5 at *
   clear ea b4 h4 hG4 cb4 fb4 hB4 cb0 c19 h3 b3 hB03 hpp
   go_wp2_with fail
   have hd:=h5.grow (Below.refl _ _).drew
   have bd:BlkIs w5.drew b 51 (psC sx).toArray:=b5
   have hS0:=hd.chc
   refine RegF.start (fun W':World=>W'.cell? ⟨p,19,none⟩=some (.pointer (some ⟨K.a,0,none⟩))) 99 (by kernel_rfl) ?_
   refine RegF.t0 0 (.pointer (some ⟨p,0,none⟩)) rfl hS0 (fun W hW=>by obtain e0:=hW;go_simp) ?_
   simp only[zD,zB,Act.put,zA,zF,zE]
   refine RegF.t0 1 (.pointer (some ⟨p,0,none⟩)) rfl hS0 (fun W hW=>by obtain e0:=hW;go_simp) ?_
   simp only[zD,zC,zB,Act.put,zA,zF,zE]
   refine RegF.t0 2 (.pointer (some ⟨p,19,none⟩)) rfl hS0 (fun W hW=>by obtain e0:=hW;go_simp) ?_
   simp only[zD,zC,zB,Act.put,zA,zF,zE]
   refine RegF.t0 3 (.pointer (some ⟨K.a,0,none⟩)) rfl hS0 (fun W hW=>by obtain e0:=hW;go_simp) ?_
   simp only[zD,zC,zB,Act.put,zA,zF,zE]
   refine RegF.t0 4 (.int .i64 st.size) rfl hS0 (fun W hW=>by obtain e0:=hW;go_simp) ?_
   simp only[zD,zC,zB,Act.put,zA,zF,zE]
   refine RegF.one 5 (by kernel_rfl) ?_
   refine RegF.opC 44 #[.const (.slice none 0 0)] #[141] rfl rfl rfl (enters_of Tryz.func44 (by kernel_rfl) rfl) #[.slice none 0 0] (by simp only[zJ,zK,zL];rfl) ((ppage_none _).mono ?_)
   rintro e w7 ⟨v7,rfl,own7,hB7⟩
   obtain⟨A7,c7,rfl,hin7⟩:=own7.inB
   have h7:=hd.grow hB7
   refine⟨_,rfl,fun _=>h7.chc,?_⟩
   simp only[zD,zC,zB,Act.put,zA,zF,zE]
   simp only[List.length_replicate]
   refine RegF.one 6 (by kernel_rfl) ?_
   refine RegF.opC 34 #[.tmp 73,.tmp 74,.tmp 75] #[52,3,22] rfl rfl rfl (enters_of Tryz.func34 (by kernel_rfl) rfl) #[.pointer (some ⟨K.a,0,none⟩),.int .i64 st.size,.slice A7 512 c7] (by simp only[zJ,zK,zL];rfl) ((gwrite h7.ca hK (by omega) st.size A7 c7 zeroB rfl hin7).mono ?_)
   rintro e w8 ⟨x,v8,rfl,hC8,e1,e2,e3,e4,hq,hn8,hG8⟩
   have h8:=h7.turn hG8 hC8
   refine⟨_,rfl,fun _=>h8.chc,?_⟩
   simp only[zD,zC,zB,Act.put,zA,zF,zE]
   refine RegF.one 7 (by kernel_rfl) (RegF.opV (w':=w8) (.int .i64 x) rfl rfl (by go_simp) ⟨fun _=>h8.chc,RegF.done (by kernel_rfl) ?_⟩)
   simp only[zD,zC,zB,Act.put,zA,zF,zE]
   have hB07:Below w5.heap.size w5 w7:=(Below.refl _ _).drew.trans (hB7.mono (zG _))
   have b8:BlkIs w8 b 51 (psC sx).toArray:=hG8.blk (bd.below hB7 bd.lt) hmu
   have hws:=hG5.size
   have hG8':GrowBut (pgMu K p v) W w8:=(hG5.trans ((GrowBut.below hB07).trans hG8)).more fun _ hk _ => .inr hk
   have hN8:Names K W v v8:=hn8.mono (zP hws hB07.size)
   have hsx:sx.roots.length=16:=hsr
   have hsxl:=psC_length hsx
   have hxx:x=0∨(x=160/\Tight K v.D):=hq.elim (fun h => .inl h.1) (fun h => .inr (by
    rcases h.1 with h1|h1
    ·omega
    ·exact⟨h1.1,by have:=h7.ca.tight h1.2;exact this⟩))
   clear hS0 hd bd hB7 hin7 own7 h7 hC8 hn8 hB07
   by_cases hx:x=0
   ·subst hx
    have hD:v8.D=fun j=>if j=st.size then some zeroB else v.D j:=by
     rcases hq with h1|h1
     ·exact h1.2.2
     ·exact absurd h1.1 (by omega)
    have hR8:w8.rangeAt b 0 (psC sx):=fun j u hj=>by
     rw[qK,b8.cell]
     simpa using hj
    have hT8:w8.there p 0 (psC sx).toArray.size:=blk_there h8.pb (by rw[pgC_size' h8.hs h8.hl];simp[hsxl])
    obtain⟨h9,hG9⟩:=h8.setState hsx
    have hF:MkF K v v8 st sx st.size 0:=⟨by omega,e2,e3,e4,.inl ⟨rfl,hf0,rfl,by omega,HSX.out,hD⟩⟩
    have HF:=Lib.hid hF
    have H9:=Lib.hid h9
    have HG9:=Lib.hid (hG8'.trans (GrowBut.more hG9 (fun k hk _ => .inl hk)))
    clear hF hD hq h9 hG9 hG8 hG8'
    go_wp2_with (first
     | (refine wp_exec rfl (x_loadM rowPgSt hR8 hsxl rfl rfl) ?_)
     | (refine wpList_store_mid rfl 51 _ _ rfl p 0 (psC sx).toArray rfl rfl hT8 (by simpa[hsxl] using rowPgSt.size) (all_oneCell_toArray (psC_one _)) ?_)
     | (go_at_call 45;refine(ptold_ok _ _).mono ?_;rintro e w' ⟨rfl,rfl⟩))
    exact bodyPost_ret (results_tmp2 rfl _ _ _) rfl (MkOut.mk ⟨st.size,0,v8,_,rfl,H9.out,HF.out,hN8,HG9.out⟩)
   ·have hD:v8.D=v.D:=by
     rcases hq with h1|h1
     ·exact absurd h1.1 hx
     ·exact h1.2
    have hF:MkF K v v8 st st 0 x:=⟨by omega,e2,e3,e4,.inr (.inr ⟨hx,rfl,rfl,hD,.inr (.inl (hxx.elim (fun h=>absurd h hx) (fun h=>h.2)))⟩)⟩
    have HF:=Lib.hid hF
    clear hF hD hq hxx hG8
    go_wp2_with (go_at_call 45;refine(ptold_err _ _ _ hx).mono ?_;rintro e w' ⟨rfl,rfl⟩)
    refine bodyPost_ret_by (results_tmp2 rfl _ _ _) rfl ?_
    exact MkOut.mk ⟨0,x,v8,st,rfl,h8,HF.out,hN8,hG8'⟩
 ·have c19:=h3.chc
  go_wp2_with fail
  refine(gread h3.ca hK (by omega) st.first).mono ?_
  rintro e w4 ⟨x4,v4,hE4,hC4,r1,r2,r3,r4,r5,r6,r7,hn4,hG4⟩
  have h4:=h3.turn hG4 hC4
  have hG04:GrowBut (K.mu v) W w4:=(GrowBut.below hB03).trans hG4
  have hN4:Names K W v v4:=hn4.mono hB03.size
  have hmu4:¬ K.mu v4 b:=fun hk=>(hn4 b hk).elim hmu (fun e=>by have:=b3.lt;omega)
  have b4:=hG4.blk b3 hmu
  have hT4:=h3.ca.tight
  have hvl:=h3.ca.viewLen st.first.toNat
  clear h3 b3 hB03 hG4 hn4 hC4 c19
  rcases x4 with er|y
  ·have he:=r7 er rfl
   obtain rfl:e = .returned (.tuple #[.slice none 0 0,.int .i64 er]):=hE4
   have h160:er=160/\Tight K v.D:=by
    rcases he with h1|h1
    ·omega
    ·exact⟨h1.1,hT4 h1.2⟩
   obtain⟨rfl,hT⟩:=h160
   have hF:MkF K v v4 st st 0 160:=⟨by omega,r2,r3,r4,.inr (.inr ⟨by decide,rfl,rfl,r5,.inr (.inl hT)⟩)⟩
   have HF:=Lib.hid hF
   clear hF r6 r7 he hT4
   go_wp2
   exact bodyPost_ret (results_tmp2 rfl _ _ _) rfl (MkOut.mk ⟨0,160,v4,st,rfl,h4,HF.out,hN4,hG04.more fun _ hk _ => .inr hk⟩)
  ·obtain⟨A4,c4,rfl,hin4,_⟩:=hE4
   obtain⟨_,hyv⟩:=r6 y rfl
   have hyl:y.length=512:=by rw[hyv];exact hvl
   rw[hyl]
   clear r6 r7 hT4 hvl
   have hin4d:=hin4.drew
   have HNUM:=pnumber_gives w4.drew A4 c4 0 y hin4d hyl (by omega)
   rw[List.drop_zero] at HNUM
   obtain⟨nx,hnx⟩:∃nx:Int,nx=(rfix (y.take 4):Int):=⟨_,rfl⟩
   rw[<-hnx] at HNUM
   have hn0:0<=nx:=by omega
   rw[hyv] at hnx
   have HNX:=Lib.hid hnx
   clear hnx hyv hin4
   have hwm:IntKind.i64.wrap (st.many - 1)=st.many - 1:=wrap_i64_fr _ (by omega) (by omega)
   go_wp2_with fail
   have h4d:=h4.grow (Below.refl _ _).drew
   have b4d:BlkIs w4.drew b 51 (psC st).toArray:=b4
   have hS0:w4.drew.cell? ⟨b,2,none⟩=some (.int .i64 st.many):=(b4d.cell 2).trans (by simp[psC])
   refine RegF.start (fun W':World=>W'.cell? ⟨b,2,none⟩=some (.int .i64 st.many)) 8 (by kernel_rfl) ?_
   refine RegF.t 0 (.slice A4 512 c4) rfl hS0 (fun W hW=>by obtain e0:=hW;go_simp) ?_
   simp only[zD,zB,Act.put,zA,zF,zE]
   refine RegF.t 2 (.pointer (some ⟨b,2,none⟩)) rfl hS0 (fun W hW=>by obtain e0:=hW;go_simp) ?_
   simp only[zD,zC,zB,Act.put,zA,zF,zE]
   refine RegF.t 3 (.int .i64 st.many) rfl hS0 (fun W hW=>by obtain e0:=hW;go_simp) ?_
   simp only[zD,zC,zB,Act.put,zA,zF,zE]
   refine RegF.t 4 (.int .i64 (st.many - 1)) rfl hS0 (fun W hW=>by obtain e0:=hW;go_simp) ?_
   simp only[zD,zC,zB,Act.put,zA,zF,zE]
   refine RegF.one 1 (by kernel_rfl) ?_
   refine RegF.opC 38 #[.tmp 53,.const (.int .i64 0)] #[22,3] rfl rfl rfl (enters_of Tryz.func38 (by kernel_rfl) rfl) #[.slice A4 512 c4,.int .i64 0] (by simp only[zJ,zK,zL];rfl) (HNUM.mono ?_)
   rintro e w5 ⟨rfl,hB5⟩
   have h5:=h4d.grow hB5
   have b5:=b4d.below hB5 b4d.lt
   have hS5:w5.cell? ⟨b,2,none⟩=some (.int .i64 st.many):=(b5.cell 2).trans (by simp[psC])
   refine⟨_,rfl,fun _=>hS5,?_⟩
   simp only[zD,zC,zB,Act.put,zA,zF,zE]
   refine RegF.t 5 (.pointer (some ⟨b,1,none⟩)) rfl hS5 (fun W hW=>by obtain e0:=hW;go_simp) ?_
   simp only[zD,zC,zB,Act.put,zA,zF,zE]
   have cb5:w5.cell? ⟨b,1,none⟩=some (.int .i64 st.first):=(b5.cell 1).trans (by simp[psC])
   have fb5:=b5.free 1
   have b6:=b5.set 1 (.int .i64 nx)
   have h6:=h5.keepB b5 (by simp[hsl]) (fun n=>by simp[psC]) hb0 hmu4 hbf hbp 1 (.int .i64 nx)
   have hG6:GrowBut (K.mu v) W (w5.setCell ⟨b,1,none⟩ (.int .i64 nx)):=(hG04.trans (GrowBut.below ((Below.refl _ _).drew.trans (hB5.mono (zG _))))).setNew hbW
   have ea:(psC st).toArray.setIfInBounds 1 (.int .i64 nx)=(psC { st with first:=nx }).toArray:=by simp[psC]
   rw[ea] at b6
   have hS6:(w5.setCell ⟨b,1,none⟩ (.int .i64 nx)).cell? ⟨b,2,none⟩=some (.int .i64 st.many):=(b6.cell 2).trans (by simp[psC])
   refine RegF.one 6 (by kernel_rfl) (RegF.opS (w':=w5.setCell ⟨b,1,none⟩ (.int .i64 nx)) rfl rfl (by go_simp) ⟨fun _=>hS6,?_⟩)
   simp only[zD,zC,zB,Act.put]
   have fb6:=b6.free 2
   have b7:=b6.set 2 (.int .i64 (st.many - 1))
   have h7:=h6.keepB b6 (by simp[psC_length (s:={ st with first:=nx }) h.hs]) (fun n=>by simp[psC]) hb0 hmu4 hbf hbp 2 (.int .i64 (st.many - 1))
   have hG7:=hG6.setNew (j:=2) (u:=.int .i64 (st.many - 1)) hbW
   generalize w5.setCell ⟨b,1,none⟩ (.int .i64 nx)=w6 at *
   refine RegF.t 7 (.pointer (some ⟨b,2,none⟩)) rfl hS6 (fun W hW=>by obtain e0:=hW;go_simp) ?_
   simp only[zD,zC,zB,Act.put,zA,zF,zE]
   have ea2:(psC { st with first:=nx }).toArray.setIfInBounds 2 (.int .i64 (st.many - 1))=(psC { st with first:=nx,many:=st.many - 1 }).toArray:=by simp[psC]
   rw[ea2] at b7
   refine RegF.one 8 (by kernel_rfl) (RegF.opS (w':=w6.setCell ⟨b,2,none⟩ (.int .i64 (st.many - 1))) rfl rfl (by go_simp) ⟨fun h=>absurd rfl h,RegF.done (by kernel_rfl) ?_⟩)
   simp only[zD,zC,zB,Act.put]
   generalize w6.setCell ⟨b,2,none⟩ (.int .i64 (st.many - 1))=w7a at *
   obtain⟨sx,hsxe⟩:∃sx:PgSt,sx = { st with first:=nx,many:=st.many - 1 }:=⟨_,rfl⟩
   rw[<-hsxe] at b7
   have hsr:sx.roots.length=16:=by rw[hsxe];exact h.hs
   have cz0:w7a.cell? ⟨b,0,none⟩=some (.int .i64 st.size):=(b7.cell 0).trans (by rw[hsxe];simp[psC])
   have cz1:w7a.cell? ⟨b,1,none⟩=some (.int .i64 nx):=(b7.cell 1).trans (by rw[hsxe];simp[psC])
   have cz2:w7a.cell? ⟨b,2,none⟩=some (.int .i64 (st.many - 1)):=(b7.cell 2).trans (by rw[hsxe];simp[psC])
   have HSX:=Lib.hid hsxe
   clear hsxe hS0 hS5 hS6 ea ea2 fb5 fb6 b5 b6 h5 h6 hG6 cb5 hB5 HNUM hin4d h4d b4d b4 h4 hG04
   have hbad:(st.size<=nx∨st.many - 1<0)->MkF K v v4 st st 0 190:=fun hb=>⟨by omega,r2,r3,r4,.inr (.inr ⟨by decide,rfl,rfl,r5,.inr (.inr ⟨hf0,by rw[<-HNX.out];exact hb⟩)⟩)⟩
   have HBAD:=Lib.hid hbad
   clear hbad
   by_cases hb1:st.size<=nx
   ·go_wp2
    exact bodyPost_ret (results_tmp2 rfl _ _ _) rfl (MkOut.mk ⟨0,190,v4,st,rfl,h7,HBAD.out (.inl hb1),hN4,hG7.more fun _ hk _ => .inr hk⟩)
   by_cases hb2:st.many - 1<0
   ·go_wp2
    exact bodyPost_ret (results_tmp2 rfl _ _ _) rfl (MkOut.mk ⟨0,190,v4,st,rfl,h7,HBAD.out (.inr hb2),hN4,hG7.more fun _ hk _ => .inr hk⟩)
   clear HBAD
   go_wp2_with fail
   have hd:=h7.grow (Below.refl _ _).drew
   have bd:BlkIs w7a.drew b 51 (psC sx).toArray:=b7
   have hS0:=hd.chc
   refine RegF.start (fun W':World=>W'.cell? ⟨p,19,none⟩=some (.pointer (some ⟨K.a,0,none⟩))) 99 (by kernel_rfl) ?_
   refine RegF.t0 0 (.pointer (some ⟨p,0,none⟩)) rfl hS0 (fun W hW=>by obtain e0:=hW;go_simp) ?_
   simp only[zD,zB,Act.put,zA,zF,zE]
   refine RegF.t0 1 (.pointer (some ⟨p,0,none⟩)) rfl hS0 (fun W hW=>by obtain e0:=hW;go_simp) ?_
   simp only[zD,zC,zB,Act.put,zA,zF,zE]
   refine RegF.t0 2 (.pointer (some ⟨p,19,none⟩)) rfl hS0 (fun W hW=>by obtain e0:=hW;go_simp) ?_
   simp only[zD,zC,zB,Act.put,zA,zF,zE]
   refine RegF.t0 3 (.pointer (some ⟨K.a,0,none⟩)) rfl hS0 (fun W hW=>by obtain e0:=hW;go_simp) ?_
   simp only[zD,zC,zB,Act.put,zA,zF,zE]
   refine RegF.t0 4 (.int .i64 st.first) rfl hS0 (fun W hW=>by obtain e0:=hW;go_simp) ?_
   simp only[zD,zC,zB,Act.put,zA,zF,zE]
   refine RegF.one 5 (by kernel_rfl) ?_
   refine RegF.opC 44 #[.const (.slice none 0 0)] #[141] rfl rfl rfl (enters_of Tryz.func44 (by kernel_rfl) rfl) #[.slice none 0 0] (by simp only[zJ,zK,zL];rfl) ((ppage_none _).mono ?_)
   rintro e w7 ⟨v7,rfl,own7,hB7⟩
   obtain⟨A7,c7,rfl,hin7⟩:=own7.inB
   have h7:=hd.grow hB7
   refine⟨_,rfl,fun _=>h7.chc,?_⟩
   simp only[zD,zC,zB,Act.put,zA,zF,zE]
   simp only[List.length_replicate]
   refine RegF.one 6 (by kernel_rfl) ?_
   refine RegF.opC 34 #[.tmp 73,.tmp 74,.tmp 75] #[52,3,22] rfl rfl rfl (enters_of Tryz.func34 (by kernel_rfl) rfl) #[.pointer (some ⟨K.a,0,none⟩),.int .i64 st.first,.slice A7 512 c7] (by simp only[zJ,zK,zL];rfl) ((gwrite h7.ca hK (by omega) st.first A7 c7 zeroB rfl hin7).mono ?_)
   rintro e w8 ⟨x,v8,rfl,hC8,e1,e2,e3,e4,hq,hn8,hG8⟩
   have h8:=h7.turn hG8 hC8
   refine⟨_,rfl,fun _=>h8.chc,?_⟩
   simp only[zD,zC,zB,Act.put,zA,zF,zE]
   refine RegF.one 7 (by kernel_rfl) (RegF.opV (w':=w8) (.int .i64 x) rfl rfl (by go_simp) ⟨fun _=>h8.chc,RegF.done (by kernel_rfl) ?_⟩)
   simp only[zD,zC,zB,Act.put,zA,zF,zE]
   have hB07:Below w7a.heap.size w7a w7:=(Below.refl _ _).drew.trans (hB7.mono (zG _))
   have b8:BlkIs w8 b 51 (psC sx).toArray:=hG8.blk (bd.below hB7 bd.lt) hmu4
   have hws:=hG7.size
   have hG8':GrowBut (pgMu K p v) W w8:=((hG7.more (Nu:=fun k=>K.mu v k∨K.mu v4 k) (fun _ hk _ => .inl hk)).trans (((GrowBut.below hB07).trans hG8).more fun _ hk _ => .inr hk)).more (fun k hk hl => .inr (hk.elim id (fun h=>(hN4 k h).elim id (fun e=>by omega))))
   have hN8:Names K W v v8:=fun k hk=>((hn8.mono (zP hws hB07.size)) k hk).elim (fun h=>hN4 k h) .inr
   have hsx:sx.roots.length=16:=hsr
   have hsxl:=psC_length hsx
   have hxx:x=0∨(x=160/\Tight K v.D):=hq.elim (fun h => .inl h.1) (fun h => .inr (by
    rcases h.1 with h1|h1
    ·omega
    ·exact⟨h1.1,by have:=h7.ca.tight h1.2;rw[r5] at this;exact this⟩))
   clear hS0 hd bd hB7 hin7 own7 h7 hC8 hn8 hB07
   by_cases hx:x=0
   ·subst hx
    have hD:v8.D=fun j=>if j=st.first then some zeroB else v.D j:=by
     rcases hq with h1|h1
     ·rw[<-r5];exact h1.2.2
     ·exact absurd h1.1 (by omega)
    have hR8:w8.rangeAt b 0 (psC sx):=fun j u hj=>by
     rw[qK,b8.cell]
     simpa using hj
    have hT8:w8.there p 0 (psC sx).toArray.size:=blk_there h8.pb (by rw[pgC_size' h8.hs h8.hl];simp[hsxl])
    obtain⟨h9,hG9⟩:=h8.setState hsx
    have hF:MkF K v v8 st sx st.first 0:=⟨by omega,e2.trans r2,e3.trans r3,e4.trans r4,.inr (.inl ⟨rfl,hf0,rfl,by rw[HSX.out,HNX.out],hD⟩)⟩
    have HF:=Lib.hid hF
    have H9:=Lib.hid h9
    have HG9:=Lib.hid (hG8'.trans (GrowBut.more hG9 (fun k hk _ => .inl hk)))
    clear hF hD hq h9 hG9 hG8 hG8'
    go_wp2_with (first
     | (refine wp_exec rfl (x_loadM rowPgSt hR8 hsxl rfl rfl) ?_)
     | (refine wpList_store_mid rfl 51 _ _ rfl p 0 (psC sx).toArray rfl rfl hT8 (by simpa[hsxl] using rowPgSt.size) (all_oneCell_toArray (psC_one _)) ?_)
     | (go_at_call 45;refine(ptold_ok _ _).mono ?_;rintro e w' ⟨rfl,rfl⟩))
    exact bodyPost_ret (results_tmp2 rfl _ _ _) rfl (MkOut.mk ⟨st.first,0,v8,_,rfl,H9.out,HF.out,hN8,HG9.out⟩)
   ·have hD:v8.D=v.D:=by
     rcases hq with h1|h1
     ·exact absurd h1.1 hx
     ·exact h1.2.trans r5
    have hF:MkF K v v8 st st 0 x:=⟨by omega,e2.trans r2,e3.trans r3,e4.trans r4,.inr (.inr ⟨hx,rfl,rfl,hD,.inr (.inl (hxx.elim (fun h=>absurd h hx) (fun h=>h.2)))⟩)⟩
    have HF:=Lib.hid hF
    clear hF hD hq hxx hG8
    go_wp2_with (go_at_call 45;refine(ptold_err _ _ _ hx).mono ?_;rintro e w' ⟨rfl,rfl⟩)
    refine bodyPost_ret_by (results_tmp2 rfl _ _ _) rfl ?_
    exact MkOut.mk ⟨0,x,v8,st,rfl,h8,HF.out,hN8,hG8'⟩
end
end Go.Proofs.YtnlimngkagmjpaaGreat
