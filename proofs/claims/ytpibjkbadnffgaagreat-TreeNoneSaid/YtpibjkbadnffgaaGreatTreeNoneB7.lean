/- Texts that the proof of TreeNone leans on, part 7. -/
import Derived.Recover
import Derived.Deep.OwnRows
import Derived.Deep.RegionLaw
import Derived.Deep.RegionHeld3
import Derived.Lib.SliceRun
import Derived.Deep.Upon
import Derived.Test.YtpibjkbadnffgaaGreatTreeNoneB6
open List renaming getElem_mem → qF, size_toArray → zT, length_cons → zP, length_nil → qE, push_toArray → qD, append_toArray → qA, nil_append → zV, cons_append → qB, eq_nil_of_length_eq_zero → zZ, length_append → zJ, mem_append → qK, mem_singleton → qN, getElem_cons_zero → zB, take_succ_eq_append_getElem → zW, length_map → qM, length_take → qG, setIfInBounds_toArray → zA, set_cons_zero → zG, set_cons_succ → zF, getElem?_eq_getElem → zM, length_drop → qQ, replicate → zR, getElem_toArray → zE, getElem_cons_succ → zD
open Nat renaming le_refl → zH, reduceAdd → qO, reduceSub → qP, zero_add → qC, le_trans → zU, lt_of_lt_of_le → zO
open Array renaming getElem?_eq_some_iff → zI, getD_eq_getD_getElem? → zS, replicate_succ → zX, replicate_zero → zY, length_toList → qL
set_option linter.unusedVariables false
set_option maxRecDepth 100000
set_option maxHeartbeats 8000000

namespace Go.Proofs.YtpibjkbadnffgaaGreat
open Go Go.RowKit Lou
theorem nanS_gives (w:World)(a:ByteArray):Calls Tryz.prog 353 #[.string a] w λe w'=>e = .returned (.bool false)/\w=w':=by
 go_enter Tryz.func353,Tryz.ntmps353
 go_wp2
 go_ret
 exact⟨by simp,rfl⟩
theorem lessS_gives (w:World)(a b:ByteArray):Calls Tryz.prog 313 #[.string a,.string b] w λe w'=>e = .returned (.bool (ltS a b))/\w=w':=by
 go_enter Tryz.func313,Tryz.ntmps313
 go_wp2_with (go_at_call 353;refine(nanS_gives _ _).mono ?_;rintro e c ⟨rfl,rfl⟩)
 go_ret
 exact⟨by simp[ltS],rfl⟩
def SortedS (l:List ByteArray):Prop:=∀j,(h:j+1<l.length)->ltS l[j+1] l[j]=false
def sortedOut (w:World)(l:List ByteArray)(e:Ending)(w':World):Prop:=∃b,e = .returned (.bool b)/\Below w.heap.size w w'/\(b=true↔SortedS l)
theorem sortedS_gives (w:World)(A:Option Addr)(c:Nat)(l:List ByteArray)(h:InG w w.heap.size 1 A l.length c (skC l))(hl:l.length<=1000000) :
  Calls Tryz.prog 276 #[.slice A l.length c] w (sortedOut w l):=by
 have S:=h.le
 have X:IntKind.i64.wrap ((l.length:Int) - 1)=(l.length:Int) - 1:=wrapN _ (by omega) (by omega)
 go_enter Tryz.func276,Tryz.ntmps276
 go_wp2
 go_loopw [3] (λi wr=>∃(q:Int),i = .int .i64 q/\q+1<=l.length/\-1<=q/\(∀j,(h:j+1<l.length)->q<=j->ltS l[j+1] l[j]=false)/\Below w.heap.size w wr) (λi _=>(intOf i+1).toNat)
 case atStart=>exact⟨_,rfl,by omega,by omega,λj h h2=>by omega,Below.refl _ _⟩
 case round =>
  obtain⟨q,rfl,hq,O,f,hB⟩:=hrel
  by_cases aA:0<q
  ·obtain⟨k,G⟩:∃k:Nat,q=((k+1:Nat):Int):=⟨(q - 1).toNat,by omega⟩
   have E:k+1<l.length:=by omega
   obtain⟨m,d⟩:∃m,m=k+1:=⟨_,rfl⟩
   rw[<-d] at G
   subst G
   obtain⟨g,o,rfl,C,_⟩:=h.lies (by omega)
   have F:wr.drew.cell? ⟨g,o+m,none⟩=some (.string l[k+1]):=by rw[d];exact(hB.cell (p:=⟨g,o+(k+1),none⟩) C).trans (str_at h rfl (k+1) E)
   have H:wr.drew.cell? ⟨g,o+k,none⟩=some (.string l[k]):=(hB.cell (p:=⟨g,o+k,none⟩) C).trans (str_at h rfl k (by omega))
   have u:ltS l[k+1] l[k]=false->∀j,(h:j+1<l.length)->(k:Int)<=j->ltS l[j+1] l[j]=false:=λh1 j B U=>by
    by_cases e:j=k
    ·subst e;exact h1
    ·exact f j B (by omega)
   have z:ltS l[k+1] l[k]=true->¬ SortedS l:=λh1 h2=>by
    have:=h2 k E
    rw[h1] at this
    cases this
   generalize l[k+1]=x at *
   generalize l[k]=r at *
   have aB:IntKind.i64.wrap ((m:Int) - 1)=(k:Int):=by rw[wrapN _ (by omega) (by omega)];omega
   have V:(0:Int)<=(m:Int):=by omega
   have N:(m:Int)<(l.length:Int):=by omega
   have Z:(0:Int)<=(k:Int):=by omega
   have M:(k:Int)<(l.length:Int):=by omega
   have L:=Lib.hid d
   clear f d
   cases hs:ltS x r with
   | true =>
    have n:=Lib.hid (z hs)
    have s:=Lib.hid hs
    clear u z hs
    go_wp2
    go_region_held3 (λW=>W.cell? ⟨g,o+m,none⟩=some (.string x)/\W.cell? ⟨g,o+k,none⟩=some (.string r)) (exact⟨F,H⟩) (first|(go_at_call 313;refine(lessS_gives _ _ _).mono ?_;rintro e K ⟨rfl,rfl⟩))
    rw[s.out]
    go_wp2
    go_ret
    exact⟨false,rfl,hB.drew,⟨λh=>(by cases h),λh=>absurd h n.out⟩⟩
   | false =>
    have n:=Lib.hid (u hs)
    have s:=Lib.hid hs
    clear u z hs
    go_wp2
    go_region_held3 (λW=>W.cell? ⟨g,o+m,none⟩=some (.string x)/\W.cell? ⟨g,o+k,none⟩=some (.string r)) (exact⟨F,H⟩) (first|(go_at_call 313;refine(lessS_gives _ _ _).mono ?_;rintro e K ⟨rfl,rfl⟩))
    rw[s.out]
    go_wp2
    have d:=L.out
    exact⟨⟨(k:Int),by simp,by omega,by omega,n.out,hB.drew⟩,by simp[intOf];omega⟩
  ·have I:=Lib.hid f
   clear f
   go_wp2
   go_ret
   exact⟨true,rfl,hB,⟨λ_ j B=>I.out j B (by omega),λ_=>rfl⟩⟩
def shortS (s:ByteArray):Bool:=decide (s.size<=81)
theorem check1_gives (w:World)(s:ByteArray):Calls Tryz.prog 279 #[.string s] w λe w'=>e = .returned (.bool (shortS s))/\Below w.heap.size w w':=by
 go_enter Tryz.func279,Tryz.ntmps279
 go_wp2
 go_ret
 refine⟨?_,Below.refl _ _⟩
 simp[shortS]
 omega
theorem eachS1_gives (w:World)(s:ByteArray)(B:Nat)(hB:BlkIs w B 349 #[.func (.func 279) #[] #[]]):Calls Tryz.prog 315 #[.string s,.pointer (some ⟨B,0,none⟩)] w λe w'=>e = .returned (.bool (!shortS s))/\Below w.heap.size w w':=by
 have c0:=hB.boxed
 go_enter Tryz.func315,Tryz.ntmps315
 go_wp2_with (go_at_call 279;refine(check1_gives _ _).mono ?_;rintro e d ⟨rfl,c⟩)
 go_ret
 exact⟨rfl,c⟩
def IdxOut (w:World)(b:Prop)(e:Ending)(w':World):Prop:=∃r:Int,e = .returned (.int .i64 r)/\Below w.heap.size w w'/\(0<=r↔b)
def YesOut (w:World)(b:Prop)(e:Ending)(w':World):Prop:=∃r:Bool,e = .returned (.bool r)/\Below w.heap.size w w'/\(r=true↔b)
theorem indexS_gives (w:World)(A:Option Addr)(c:Nat)(l:List ByteArray)(h:InG w w.heap.size 1 A l.length c (skC l))(hl:l.length<=1000000)(B:Nat)(hB:BlkIs w B 349 #[.func (.func 279) #[] #[]]) :
  Calls Tryz.prog 354 #[.slice A l.length c,.func (.func 315) #[] #[.pointer (some ⟨B,0,none⟩)]] w (IdxOut w (∃s∈l,shortS s=false)):=by
 have G:=h.le
 go_enter Tryz.func354,Tryz.ntmps354
 go_wp2
 go_loopw [8] (λi wr=>∃(k:Nat),i = .int .i64 k/\k<=l.length/\(∀j,(h:j<l.length)->j<k->shortS l[j]=true)/\Below w.heap.size w wr) (λi _=>l.length - (intOf i).toNat)
 case atStart=>exact⟨0,rfl,by omega,λj h h2=>by omega,Below.refl _ _⟩
 case round =>
  obtain⟨k,rfl,I,n,d⟩:=hrel
  by_cases z:k<l.length
  ·obtain⟨g,o,rfl,C,_⟩:=h.lies (by omega)
   have K:wr.cell? ⟨g,o+k,none⟩=some (.string l[k]):=(d.cell (p:=⟨g,o+k,none⟩) C).trans (str_at h rfl k z)
   have u:shortS l[k]=true->∀j,(h:j<l.length)->j<k+1->shortS l[j]=true:=λh1 j m H=>by
    by_cases e:j=k
    ·subst e;exact h1
    ·exact n j m (by omega)
   have x:shortS l[k]=false->∃s∈l,shortS s=false:=λh1=>⟨_,qF z,h1⟩
   have f:=eachS1_gives wr l[k] B (hB.below d hB.lt)
   generalize l[k]=s at *
   have L:IntKind.i64.wrap ((k:Int)+1)=(k:Int)+1:=wrapN _ (by omega) (by omega)
   clear n
   cases hs:shortS s with
   | true =>
    have q:=Lib.hid (u hs)
    rw[hs] at f
    clear u x hs
    go_wp2_with (go_at_call 315;refine f.mono ?_;rintro e F ⟨rfl,r⟩)
    exact⟨⟨k+1,by simp,by omega,q.out,d.trans (r.mono d.size)⟩,by simp[intOf];omega⟩
   | false =>
    have q:=Lib.hid (x hs)
    rw[hs] at f
    clear u x hs
    go_wp2_with (go_at_call 315;refine f.mono ?_;rintro e F ⟨rfl,r⟩)
    go_ret
    exact⟨(k:Int),rfl,d.trans (r.mono d.size),⟨λ_=>q.out,λ_=>by omega⟩⟩
  ·obtain rfl:k=l.length:=by omega
   have E:=Lib.hid n
   clear n
   go_wp2
   go_ret
   refine⟨-1,rfl,d,⟨λh=>by omega,λ⟨s,hs,h⟩ => ?_⟩⟩
   obtain⟨j,m,rfl⟩:=List.getElem_of_mem hs
   rw[E.out j m m] at h
   cases h
theorem containsS_gives (w:World)(A:Option Addr)(c:Nat)(l:List ByteArray)(h:InG w w.heap.size 1 A l.length c (skC l))(hl:l.length<=1000000)(B:Nat)(hB:BlkIs w B 349 #[.func (.func 279) #[] #[]]) :
  Calls Tryz.prog 314 #[.slice A l.length c,.func (.func 315) #[] #[.pointer (some ⟨B,0,none⟩)]] w (YesOut w (∃s∈l,shortS s=false)):=by
 have d:=indexS_gives w A c l h hl B hB
 generalize (∃s∈l,shortS s=false)=b at *
 go_enter Tryz.func314,Tryz.ntmps314
 go_wp2_with (go_at_call 354;refine d.mono ?_;rintro e i ⟨r,rfl,f,g⟩)
 go_ret
 exact⟨_,rfl,f,by rw[decide_eq_true_iff];exact g⟩
theorem eachS_gives (w:World)(A:Option Addr)(c:Nat)(l:List ByteArray)(h:InG w w.heap.size 1 A l.length c (skC l))(hl:l.length<=1000000) :
  Calls Tryz.prog 278 #[.slice A l.length c,.func (.func 279) #[] #[]] w (YesOut w (∀s∈l,shortS s=true)):=by
 have i:=BlkIs.new w 349 #[.func (.func 279) #[] #[]]
 have hB:Below w.heap.size w (w.alloc (.cells #[.func (.func 279) #[] #[]] 349)):=(Below.refl _ w).alloc (zH _) _
 have k:=containsS_gives _ A c l (h.grow hB) hl _ i
 have f:(∀s∈l,shortS s=true)↔¬ (∃s∈l,shortS s=false):=by simp
 generalize (∃s∈l,shortS s=false)=b at *
 generalize (∀s∈l,shortS s=true)=d at *
 go_enter Tryz.func278,Tryz.ntmps278
 have j:=Lib.hid f
 clear f
 go_wp2_with (go_at_call 314;refine k.mono ?_;rintro e n ⟨r,rfl,g,m⟩)
 go_ret
 have f:=j.out
 refine⟨_,rfl,hB.trans (g.mono hB.size),?_⟩
 cases r<;>simp_all
theorem int_at {w:World}{B g o n c:Nat}{ks:List Int}(h:InG w B 1 (some ⟨g,o,none⟩) n c (ikC ks))(hn:n=ks.length)(j:Nat)(d:j<ks.length):w.cell? ⟨g,o+j,none⟩=some (.int .i64 ks[j]):=by
 obtain⟨i,o',e,_,f⟩:=h.lies (by omega)
 injection e with e
 injection e with e1 e2
 subst e1 e2
 exact f j _ (by simp[ikC,d])
def pageB (s:Int):Bool:=decide (1<=s) && decide (s<=2000)
theorem page_gives (w:World)(s:Int):Calls Tryz.prog 283 #[.int .i64 s] w λe w'=>e = .returned (.bool (pageB s))/\Below w.heap.size w w':=by
 go_enter Tryz.func283,Tryz.ntmps283
 by_cases h1:1<=s
 ·by_cases h2:s<=2000
  ·go_wp2
   go_ret
   exact⟨by simp[pageB,h1,h2],Below.refl _ _⟩
  ·go_wp2
   go_ret
   exact⟨by simp[pageB,h1,h2],Below.refl _ _⟩
 ·go_wp2
  go_ret
  exact⟨by simp[pageB];omega,Below.refl _ _⟩
theorem eachI1_gives (w:World)(s:Int)(B:Nat)(hB:BlkIs w B 202 #[.func (.func 283) #[] #[]]):Calls Tryz.prog 318 #[.int .i64 s,.pointer (some ⟨B,0,none⟩)] w λe w'=>e = .returned (.bool (!pageB s))/\Below w.heap.size w w':=by
 have c0:=hB.boxed
 go_enter Tryz.func318,Tryz.ntmps318
 go_wp2_with (go_at_call 283;refine(page_gives _ _).mono ?_;rintro e d ⟨rfl,c⟩)
 go_ret
 exact⟨rfl,c⟩
theorem indexI_gives (w:World)(A:Option Addr)(c:Nat)(l:List Int)(h:InG w w.heap.size 1 A l.length c (ikC l))(hl:l.length<=1000000)(B:Nat)(hB:BlkIs w B 202 #[.func (.func 283) #[] #[]]) :
  Calls Tryz.prog 194 #[.slice A l.length c,.func (.func 318) #[] #[.pointer (some ⟨B,0,none⟩)]] w (IdxOut w (∃s∈l,pageB s=false)):=by
 have G:=h.le
 go_enter Tryz.func194,Tryz.ntmps194
 go_wp2
 go_loopw [8] (λi wr=>∃(k:Nat),i = .int .i64 k/\k<=l.length/\(∀j,(h:j<l.length)->j<k->pageB l[j]=true)/\Below w.heap.size w wr) (λi _=>l.length - (intOf i).toNat)
 case atStart=>exact⟨0,rfl,by omega,λj h h2=>by omega,Below.refl _ _⟩
 case round =>
  obtain⟨k,rfl,I,n,d⟩:=hrel
  by_cases z:k<l.length
  ·obtain⟨g,o,rfl,C,_⟩:=h.lies (by omega)
   have K:wr.cell? ⟨g,o+k,none⟩=some (.int .i64 l[k]):=(d.cell (p:=⟨g,o+k,none⟩) C).trans (int_at h rfl k z)
   have u:pageB l[k]=true->∀j,(h:j<l.length)->j<k+1->pageB l[j]=true:=λh1 j m H=>by
    by_cases e:j=k
    ·subst e;exact h1
    ·exact n j m (by omega)
   have x:pageB l[k]=false->∃s∈l,pageB s=false:=λh1=>⟨_,qF z,h1⟩
   have f:=eachI1_gives wr l[k] B (hB.below d hB.lt)
   generalize l[k]=s at *
   have L:IntKind.i64.wrap ((k:Int)+1)=(k:Int)+1:=wrapN _ (by omega) (by omega)
   clear n
   cases hs:pageB s with
   | true =>
    have q:=Lib.hid (u hs)
    rw[hs] at f
    clear u x hs
    go_wp2_with (go_at_call 318;refine f.mono ?_;rintro e F ⟨rfl,r⟩)
    exact⟨⟨k+1,by simp,by omega,q.out,d.trans (r.mono d.size)⟩,by simp[intOf];omega⟩
   | false =>
    have q:=Lib.hid (x hs)
    rw[hs] at f
    clear u x hs
    go_wp2_with (go_at_call 318;refine f.mono ?_;rintro e F ⟨rfl,r⟩)
    go_ret
    exact⟨(k:Int),rfl,d.trans (r.mono d.size),⟨λ_=>q.out,λ_=>by omega⟩⟩
  ·obtain rfl:k=l.length:=by omega
   have E:=Lib.hid n
   clear n
   go_wp2
   go_ret
   refine⟨-1,rfl,d,⟨λh=>by omega,λ⟨s,hs,h⟩ => ?_⟩⟩
   obtain⟨j,m,rfl⟩:=List.getElem_of_mem hs
   rw[E.out j m m] at h
   cases h
theorem containsI_gives (w:World)(A:Option Addr)(c:Nat)(l:List Int)(h:InG w w.heap.size 1 A l.length c (ikC l))(hl:l.length<=1000000)(B:Nat)(hB:BlkIs w B 202 #[.func (.func 283) #[] #[]]) :
  Calls Tryz.prog 122 #[.slice A l.length c,.func (.func 318) #[] #[.pointer (some ⟨B,0,none⟩)]] w (YesOut w (∃s∈l,pageB s=false)):=by
 have d:=indexI_gives w A c l h hl B hB
 generalize (∃s∈l,pageB s=false)=b at *
 go_enter Tryz.func122,Tryz.ntmps122
 go_wp2_with (go_at_call 194;refine d.mono ?_;rintro e i ⟨r,rfl,f,g⟩)
 go_ret
 exact⟨_,rfl,f,by rw[decide_eq_true_iff];exact g⟩
theorem eachI_gives (w:World)(A:Option Addr)(c:Nat)(l:List Int)(h:InG w w.heap.size 1 A l.length c (ikC l))(hl:l.length<=1000000) :
  Calls Tryz.prog 282 #[.slice A l.length c,.func (.func 283) #[] #[]] w (YesOut w (∀s∈l,pageB s=true)):=by
 have i:=BlkIs.new w 202 #[.func (.func 283) #[] #[]]
 have hB:Below w.heap.size w (w.alloc (.cells #[.func (.func 283) #[] #[]] 202)):=(Below.refl _ w).alloc (zH _) _
 have k:=containsI_gives _ A c l (h.grow hB) hl _ i
 have f:(∀s∈l,pageB s=true)↔¬ (∃s∈l,pageB s=false):=by simp
 generalize (∃s∈l,pageB s=false)=b at *
 generalize (∀s∈l,pageB s=true)=d at *
 go_enter Tryz.func282,Tryz.ntmps282
 have j:=Lib.hid f
 clear f
 go_wp2_with (go_at_call 122;refine k.mono ?_;rintro e n ⟨r,rfl,g,m⟩)
 go_ret
 have f:=j.out
 refine⟨_,rfl,hB.trans (g.mono hB.size),?_⟩
 cases r<;>simp_all
section
variable {P:Program}{w w':World}{ops:Array Oper}{rest:List Oper}{o:Oper}{a:Act}{Q:Exit->Act->World->Prop}
theorem wp_execN {v:Value}(c:o.guard=none)(e:(execOp a.eval o).run P w = .ok (.value v) w')(h:wpList P ops Q rest (a.put o.dst v) w'):wpList P ops Q (o::rest) a w :=
 wpList_plain c λ_ d=>by
  unfold Oper.wp
  rw[e]
  exact d _ _ h
end
def rightB (c:Cel):Bool:=if c.page=0 then decide (c.val.size<=60) && c.size == 0 else pageB c.page && c.val.toList.isEmpty && decide (60<c.size) && decide (c.size<=4000)
theorem nright_gives (w:World)(c:Cel):Calls Tryz.prog 281 #[.agg (celC c).toArray] w λe w'=>e = .returned (.bool (rightB c))/\Below w.heap.size w w':=by
 obtain⟨key,val,page,size⟩:=c
 have m:=BlkIs.new w 49 #[.string key,.string val,.int .i64 page,.int .i64 size]
 have f:Below w.heap.size w (w.alloc (.cells #[.string key,.string val,.int .i64 page,.int .i64 size] 49)):=(Below.refl _ w).alloc (zH _) _
 show Calls Tryz.prog 281 #[.agg #[.string key,.string val,.int .i64 page,.int .i64 size]] w _
 unfold rightB
 simp only
 by_cases i:page=0
 ·subst i
  rw[if_pos rfl]
  by_cases h1:val.size<=60
  ·have n:(val.size:Int)<=60:=by omega
   go_enter Tryz.func281,Tryz.ntmps281
   go_wp2
   go_ret
   exact⟨by simp[h1],f⟩
  ·have n:¬ (val.size:Int)<=60:=by omega
   go_enter Tryz.func281,Tryz.ntmps281
   go_wp2
   go_ret
   exact⟨by simp,f⟩
 ·rw[if_neg i]
  have q:(page == 0)=false:=by simpa using i
  have k:=page_gives (w.alloc (.cells #[.string key,.string val,.int .i64 page,.int .i64 size] 49)) page
  generalize pageB page=pb at *
  cases pb with
  | false =>
   go_enter Tryz.func281,Tryz.ntmps281
   go_wp2_with (go_at_call 283;refine k.mono ?_;rintro e d ⟨rfl,g⟩)
   go_ret
   exact⟨by simp,f.trans (g.mono f.size)⟩
  | true =>
   go_enter Tryz.func281,Tryz.ntmps281
   have c1:∀d,Below (w.alloc (.cells #[.string key,.string val,.int .i64 page,.int .i64 size] 49)).heap.size (w.alloc (.cells #[.string key,.string val,.int .i64 page,.int .i64 size] 49)) d->d.cell? ⟨w.heap.size,1,none⟩=some (.string val)/\d.cell? ⟨w.heap.size,3,none⟩=some (.int .i64 size):=λd h=>by
    have j:=m.below h m.lt
    exact⟨by rw[j.cell];rfl,by rw[j.cell];rfl⟩
   go_wp2_with (go_at_call 283;refine k.mono ?_;rintro e d ⟨rfl,g⟩;obtain⟨r,p⟩:=c1 d g)
   all_goals
    go_ret
    refine⟨?_,f.trans (g.mono f.size)⟩
    first
     | (simp_all;done)
     | (simp_all;intros;omega)
theorem eachC1_gives (w:World)(s:Cel)(B:Nat)(hB:BlkIs w B 331 #[.func (.func 281) #[] #[]]):Calls Tryz.prog 317 #[.agg (celC s).toArray,.pointer (some ⟨B,0,none⟩)] w λe w'=>e = .returned (.bool (!rightB s))/\Below w.heap.size w w':=by
 have d:=BlkIs.new w 49 (celC s).toArray
 have c:Below w.heap.size w (w.alloc (.cells (celC s).toArray 49)):=(Below.refl _ w).alloc (zH _) _
 have c0:=(hB.below c hB.lt).boxed
 go_enter Tryz.func317,Tryz.ntmps317
 go_wp2_with (first
  | (refine wp_loadW rfl 49 (.tmp 2) rfl w.heap.size rfl rowCel d rfl ?_)
  | (go_at_call 281;refine(nright_gives _ _).mono ?_;rintro e g ⟨rfl,f⟩))
 go_ret
 exact⟨rfl,c.trans (f.mono c.size)⟩
theorem indexC_gives (w:World)(A:Option Addr)(c:Nat)(l:List Cel)(h:InG w w.heap.size 4 A l.length c (clC l))(hl:l.length<=1000000)(B:Nat)(hB:BlkIs w B 331 #[.func (.func 281) #[] #[]]) :
  Calls Tryz.prog 355 #[.slice A l.length c,.func (.func 317) #[] #[.pointer (some ⟨B,0,none⟩)]] w (IdxOut w (∃s∈l,rightB s=false)):=by
 have H:=h.le
 go_enter Tryz.func355,Tryz.ntmps355
 go_wp2
 go_loopw [8] (λi wr=>∃(k:Nat),i = .int .i64 k/\k<=l.length/\(∀j,(h:j<l.length)->j<k->rightB l[j]=true)/\Below w.heap.size w wr) (λi _=>l.length - (intOf i).toNat)
 case atStart=>exact⟨0,rfl,by omega,λj h h2=>by omega,Below.refl _ _⟩
 case round =>
  obtain⟨k,rfl,K,n,d⟩:=hrel
  by_cases z:k<l.length
  ·obtain⟨g,o,rfl,E,_⟩:=h.lies (by omega)
   have C:wr.rangeAt g (o+k*4) (celC l[k]):=λj v f=>(d.cell (p:=⟨g,o+k*4+j,none⟩) E).trans (cel_at h rfl k z j v f)
   have u:rightB l[k]=true->∀j,(h:j<l.length)->j<k+1->rightB l[j]=true:=λh1 j f I=>by
    by_cases e:j=k
    ·subst e;exact h1
    ·exact n j f (by omega)
   have x:rightB l[k]=false->∃s∈l,rightB s=false:=λh1=>⟨_,qF z,h1⟩
   have m:=eachC1_gives wr l[k] B (hB.below d hB.lt)
   generalize l[k]=s at *
   have L:IntKind.i64.wrap ((k:Int)+1)=(k:Int)+1:=wrapN _ (by omega) (by omega)
   clear n
   cases hs:rightB s with
   | true =>
    have q:=Lib.hid (u hs)
    rw[hs] at m
    clear u x hs
    go_wp2_with (first
     | (refine wp_execN rfl (x_loadM rowCel C rfl rfl rfl) ?_)
     | (go_at_call 317;refine m.mono ?_;rintro e G ⟨rfl,r⟩))
    exact⟨⟨k+1,by simp,by omega,q.out,d.trans (r.mono d.size)⟩,by simp[intOf];omega⟩
   | false =>
    have q:=Lib.hid (x hs)
    rw[hs] at m
    clear u x hs
    go_wp2_with (first
     | (refine wp_execN rfl (x_loadM rowCel C rfl rfl rfl) ?_)
     | (go_at_call 317;refine m.mono ?_;rintro e G ⟨rfl,r⟩))
    go_ret
    exact⟨(k:Int),rfl,d.trans (r.mono d.size),⟨λ_=>q.out,λ_=>by omega⟩⟩
  ·obtain rfl:k=l.length:=by omega
   have F:=Lib.hid n
   clear n
   go_wp2
   go_ret
   refine⟨-1,rfl,d,⟨λh=>by omega,λ⟨s,hs,h⟩ => ?_⟩⟩
   obtain⟨j,f,rfl⟩:=List.getElem_of_mem hs
   rw[F.out j f f] at h
   cases h
theorem containsC_gives (w:World)(A:Option Addr)(c:Nat)(l:List Cel)(h:InG w w.heap.size 4 A l.length c (clC l))(hl:l.length<=1000000)(B:Nat)(hB:BlkIs w B 331 #[.func (.func 281) #[] #[]]) :
  Calls Tryz.prog 316 #[.slice A l.length c,.func (.func 317) #[] #[.pointer (some ⟨B,0,none⟩)]] w (YesOut w (∃s∈l,rightB s=false)):=by
 have d:=indexC_gives w A c l h hl B hB
 generalize (∃s∈l,rightB s=false)=b at *
 go_enter Tryz.func316,Tryz.ntmps316
 go_wp2_with (go_at_call 355;refine d.mono ?_;rintro e i ⟨r,rfl,f,g⟩)
 go_ret
 exact⟨_,rfl,f,by rw[decide_eq_true_iff];exact g⟩
theorem eachC_gives (w:World)(A:Option Addr)(c:Nat)(l:List Cel)(h:InG w w.heap.size 4 A l.length c (clC l))(hl:l.length<=1000000) :
  Calls Tryz.prog 280 #[.slice A l.length c,.func (.func 281) #[] #[]] w (YesOut w (∀s∈l,rightB s=true)):=by
 have i:=BlkIs.new w 331 #[.func (.func 281) #[] #[]]
 have hB:Below w.heap.size w (w.alloc (.cells #[.func (.func 281) #[] #[]] 331)):=(Below.refl _ w).alloc (zH _) _
 have k:=containsC_gives _ A c l (h.grow hB) hl _ i
 have f:(∀s∈l,rightB s=true)↔¬ (∃s∈l,rightB s=false):=by simp
 generalize (∃s∈l,rightB s=false)=b at *
 generalize (∀s∈l,rightB s=true)=d at *
 go_enter Tryz.func280,Tryz.ntmps280
 have j:=Lib.hid f
 clear f
 go_wp2_with (go_at_call 316;refine k.mono ?_;rintro e n ⟨r,rfl,g,m⟩)
 go_ret
 have f:=j.out
 refine⟨_,rfl,hB.trans (g.mono hB.size),?_⟩
 cases r<;>simp_all
theorem cellT_lt {w:World}{p:Addr}{v:Value}(h:w.cell? p=some v):p.block<w.heap.size:=by
 cases c:w.heap[p.block]? with
 | none=>simp[World.cell?,c] at h
 | some o=>exact(zI.1 c).1
def NoneT (w:World)(T:Option Addr):Prop:=T=none∨∃t,T=some ⟨t,0,none⟩/\w.cell? ⟨t,0,none⟩=some (.pointer none)
theorem NoneT.grow {w w':World}{T:Option Addr}(h:NoneT w T)(hB:Below w.heap.size w w'):NoneT w' T:=by
 rcases h with rfl|⟨t,rfl,hc⟩
 ·exact .inl rfl
 ·exact .inr ⟨t,rfl,(hB.cell (p:=⟨t,0,none⟩) (cellT_lt hc)).trans hc⟩
theorem tnone_nil (w:World):Calls Tryz.prog 26 #[.pointer none] w λe w'=>e = .returned (.bool true)/\w=w':=by
 go_enter Tryz.func26,Tryz.ntmps26
 go_wp2
 go_ret
 exact⟨rfl,rfl⟩
theorem tnone_empty {w:World}{p:Nat}(hc:w.cell? ⟨p,0,none⟩=some (.pointer none)):Calls Tryz.prog 26 #[.pointer (some ⟨p,0,none⟩)] w λe w'=>e = .returned (.bool true)/\w=w':=by
 go_enter Tryz.func26,Tryz.ntmps26
 go_wp2
 go_ret
 exact⟨rfl,rfl⟩
theorem tnone_gives {w:World}{p a:Nat}(hc:w.cell? ⟨p,0,none⟩=some (.pointer (some ⟨a,0,none⟩))):Calls Tryz.prog 26 #[.pointer (some ⟨p,0,none⟩)] w λe w'=>e = .returned (.bool false)/\w=w':=by
 go_enter Tryz.func26,Tryz.ntmps26
 go_wp2
 go_ret
 exact⟨rfl,rfl⟩
theorem NoneT.none {w:World}{T:Option Addr}(h:NoneT w T):Calls Tryz.prog 26 #[.pointer T] w λe w'=>e = .returned (.bool true)/\w=w':=by
 rcases h with rfl|⟨p,rfl,hc⟩
 ·exact tnone_nil w
 ·exact tnone_empty hc
theorem NoneT.after {w:World}{T:Option Addr}(h:NoneT w T):∀W,Below w.heap.size w W->Calls Tryz.prog 26 #[.pointer T] W λe w'=>e = .returned (.bool true)/\W=w':=λ_ hB=>(h.grow hB).none
theorem below1 (w:World)(x:Obj):Below w.heap.size w (w.alloc x):=(Below.refl _ _).alloc (zH _) _
theorem below2 (w:World)(x y:Obj):Below w.heap.size w ((w.alloc x).alloc y):=(below1 w x).alloc (by simp) _
theorem below3 (w:World)(x y z:Obj):Below w.heap.size w (((w.alloc x).alloc y).alloc z):=(below2 w x y).alloc (by simp;omega) _
theorem below4 (w:World)(x y z u:Obj):Below w.heap.size w ((((w.alloc x).alloc y).alloc z).alloc u):=(below3 w x y z).alloc (by simp;omega) _
def rvalM (tmps:Array Value):ResultVar->Sem Value
 | .tmp t=>pure (tmps.getD t undef)
 | .cell a t=>do loadVar t (<-asAddr (tmps.getD a undef))
theorem results_rvalM (fn:Func)(tmps:Array Value):results fn tmps=(do
  let vs <-fn.results.mapM (rvalM tmps)
  pure (if h:vs.size=1 then vs[0] else .tuple vs)):=by
 have:rvalM tmps=(fun
  | .tmp t=>pure (tmps.getD t undef)
  | .cell a t=>do loadVar t (<-asAddr (tmps.getD a undef))):=by
  funext r
  cases r
  ·rfl
  ·rfl
 rw[this]
 rfl
def RVal (P:Program)(w:World)(a:Act)(r:ResultVar)(v:Value):Prop:=(rvalM a.tmps r).run P w = .ok v w
section
variable {P:Program}{w:World}{a:Act}{v v1 v2 v3 v4:Value}{r1 r2 r3 r4:ResultVar}{fn:Func}
theorem rval_tmp (k:Tmp)(h:a.eval (.tmp k)=v):RVal P w a (.tmp k) v:=by
 have e:a.tmps.getD k undef=v:=h
 unfold RVal rvalM
 simp only[e]
 rfl
theorem rval_cell {p:Addr}{t:TypeId}(k:Tmp)(f:a.eval (.tmp k) = .pointer (some p))(c:(isAgg t).run P w = .ok false w)(d:w.cell? p=some v):RVal P w a (.cell k t) v:=by
 have e:a.tmps.getD k undef = .pointer (some p):=f
 unfold RVal rvalM
 simp[-zS,e,loadVar,asAddr,c,d,Result.andThen]
theorem rval_row {g:Nat}{T t:TypeId}{cs:Array Value}(k:Tmp)(f:a.eval (.tmp k) = .pointer (some ⟨g,0,none⟩)){n:Nat}(d:RowTy P T n)(c:BlkIs w g t cs)(hn:cs.size=n):RVal P w a (.cell k T) (.agg cs):=by
 have e:a.tmps.getD k undef = .pointer (some ⟨g,0,none⟩):=f
 unfold RVal rvalM
 simp[-zS,e,asAddr,run_loadW (hn▸d) c]
theorem results_two (h:fn.results=#[r1,r2])(h1:RVal P w a r1 v1)(h2:RVal P w a r2 v2):(results fn a.tmps).run P w = .ok (.tuple #[v1,v2]) w:=by
 unfold RVal at h1 h2
 rw[results_rvalM]
 simp only[h]
 simp[-zS,h1,h2,Result.andThen]
theorem results_three (h:fn.results=#[r1,r2,r3])(h1:RVal P w a r1 v1)(h2:RVal P w a r2 v2)(c:RVal P w a r3 v3):(results fn a.tmps).run P w = .ok (.tuple #[v1,v2,v3]) w:=by
 unfold RVal at h1 h2 c
 rw[results_rvalM]
 simp only[h]
 simp[-zS,h1,h2,c,Result.andThen]
theorem results_four (h:fn.results=#[r1,r2,r3,r4])(h1:RVal P w a r1 v1)(h2:RVal P w a r2 v2)(c:RVal P w a r3 v3)(d:RVal P w a r4 v4):(results fn a.tmps).run P w = .ok (.tuple #[v1,v2,v3,v4]) w:=by
 unfold RVal at h1 h2 c d
 rw[results_rvalM]
 simp only[h]
 simp[-zS,h1,h2,c,d,Result.andThen]
theorem results_one (h:fn.results=#[r1])(h1:RVal P w a r1 v1):(results fn a.tmps).run P w = .ok v1 w:=by
 unfold RVal at h1
 rw[results_rvalM]
 simp only[h]
 simp[-zS,h1]
end
section
variable {w:World}{T:Option Addr}
theorem nPager_gives (h:NoneT w T):Calls Tryz.prog 16 #[.pointer T] w λe w'=>e = .returned (.pointer none)/\w=w':=by
 go_enter Tryz.func16,Tryz.ntmps16
 go_wp2_with (go_at_call 26;refine h.none.mono ?_;rintro e c ⟨rfl,rfl⟩)
 go_ret
 exact⟨rfl,rfl⟩
theorem nRoot_gives (h:NoneT w T):Calls Tryz.prog 17 #[.pointer T] w λe w'=>e = .returned (.int .i64 0)/\w=w':=by
 go_enter Tryz.func17,Tryz.ntmps17
 go_wp2_with (go_at_call 26;refine h.none.mono ?_;rintro e c ⟨rfl,rfl⟩)
 go_ret
 exact⟨rfl,rfl⟩
theorem nClear_gives (h:NoneT w T):Calls Tryz.prog 15 #[.pointer T] w λe w'=>e = .returned (.int .i64 1)/\w=w':=by
 go_enter Tryz.func15,Tryz.ntmps15
 go_wp2_with (go_at_call 26;refine h.none.mono ?_;rintro e c ⟨rfl,rfl⟩)
 go_ret
 exact⟨rfl,rfl⟩
theorem nPut_gives (h:NoneT w T)(k u:ByteArray):Calls Tryz.prog 14 #[.pointer T,.string k,.string u] w λe w'=>e = .returned (.int .i64 1)/\Below w.heap.size w w':=by
 have c:=h.after
 go_enter Tryz.func14,Tryz.ntmps14
 go_wp2_with (go_at_call 26;refine(c _ (below2 _ _ _)).mono ?_;rintro e d ⟨rfl,rfl⟩)
 go_ret
 exact⟨rfl,below2 _ _ _⟩
theorem nDelete_gives (h:NoneT w T)(k:ByteArray):Calls Tryz.prog 9 #[.pointer T,.string k] w λe w'=>e = .returned (.tuple #[.bool false,.int .i64 1])/\Below w.heap.size w w':=by
 have c:=h.after
 go_enter Tryz.func9,Tryz.ntmps9
 go_wp2_with (go_at_call 26;refine(c _ (below2 _ _ _)).mono ?_;rintro e d ⟨rfl,rfl⟩)
 refine bodyPost_ret_by (results_two rfl (rval_cell (p:=⟨w.heap.size+1,0,none⟩) 4 rfl (by simp[go_sem]) (by simp[go_sem])) (rval_tmp 5 rfl)) rfl ⟨rfl,?_⟩
 exact below2 _ _ _
theorem nGet_gives (h:NoneT w T)(k:ByteArray):Calls Tryz.prog 8 #[.pointer T,.string k] w λe w'=>e = .returned (.tuple #[.string ⟨#[]⟩,.bool false,.int .i64 1])/\Below w.heap.size w w':=by
 have c:=h.after
 go_enter_defers Tryz.func8,Tryz.ntmps8
 go_wp2_with (go_at_call 26;refine(c _ (below3 _ _ _ _)).mono ?_;rintro e d ⟨rfl,rfl⟩)
 refine⟨_,results_three rfl (rval_cell (p:=⟨w.heap.size,0,none⟩) 4 rfl (by simp[go_sem]) (by simp[go_sem])) (rval_cell (p:=⟨w.heap.size+1,0,none⟩) 5 rfl (by simp[go_sem]) (by simp[go_sem])) (rval_cell (p:=⟨w.heap.size+1+1,0,none⟩) 6 rfl (by simp[go_sem]) (by simp[go_sem])),rfl,?_⟩
 exact below3 _ _ _ _
theorem nCheck_gives (h:NoneT w T):Calls Tryz.prog 10 #[.pointer T] w λe w'=>e = .returned (.tuple #[.int .i64 0,.int .i64 0,.int .i64 0,.int .i64 1])/\Below w.heap.size w w':=by
 have c:=h.after
 go_enter_defers Tryz.func10,Tryz.ntmps10
 go_wp2_with (go_at_call 26;refine(c _ (below4 _ _ _ _ _)).mono ?_;rintro e d ⟨rfl,rfl⟩)
 refine⟨_,results_four rfl (rval_cell (p:=⟨w.heap.size,0,none⟩) 2 rfl (by simp[go_sem]) (by simp[go_sem])) (rval_cell (p:=⟨w.heap.size+1,0,none⟩) 3 rfl (by simp[go_sem]) (by simp[go_sem])) (rval_cell (p:=⟨w.heap.size+1+1,0,none⟩) 4 rfl (by simp[go_sem]) (by simp[go_sem])) (rval_cell (p:=⟨w.heap.size+1+1+1,0,none⟩) 5 rfl (by simp[go_sem]) (by simp[go_sem])),rfl,?_⟩
 exact below4 _ _ _ _ _
theorem nValue_gives (h:NoneT w T)(f i g c:Value):Calls Tryz.prog 12 #[.pointer T,.agg #[f,i,g,c]] w λe w'=>e = .returned (.tuple #[.string ⟨#[]⟩,.int .i64 1])/\Below w.heap.size w w':=by
 have d:=h.after
 go_enter_defers Tryz.func12,Tryz.ntmps12
 go_wp2_with (go_at_call 26;refine(d _ (below3 _ _ _ _)).mono ?_;rintro e j ⟨rfl,rfl⟩)
 refine⟨_,results_two rfl (rval_cell (p:=⟨w.heap.size+1,0,none⟩) 4 rfl (by simp[go_sem]) (by simp[go_sem])) (rval_cell (p:=⟨w.heap.size+1+1,0,none⟩) 5 rfl (by simp[go_sem]) (by simp[go_sem])),rfl,?_⟩
 exact below3 _ _ _ _
theorem nNode_gives (h:NoneT w T)(n:Int):Calls Tryz.prog 11 #[.pointer T,.int .i64 n] w λe w'=>e = .returned (.tuple #[.agg #[.bool false,.slice none 0 0,.slice none 0 0,.slice none 0 0],.int .i64 1])/\Below w.heap.size w w':=by
 have c:=h.after
 go_enter_defers Tryz.func11,Tryz.ntmps11
 go_wp2_with (go_at_call 26;refine(c _ (below2 _ _ _)).mono ?_;rintro e d ⟨rfl,rfl⟩)
 refine⟨_,results_two rfl (rval_row (g:=w.heap.size) 4 rfl rowNod ((BlkIs.new w _ _).alloc _) rfl) (rval_cell (p:=⟨w.heap.size+1,0,none⟩) 5 rfl (by simp[go_sem]) (by simp[go_sem])),rfl,?_⟩
 exact below2 _ _ _
theorem nAll_gives:Calls Tryz.prog 13 #[.pointer T] w λe w'=>∃q,e = .returned (.func (.func 46) #[] #[.pointer (some ⟨q,0,none⟩)])/\BlkIs w' q 26 #[.pointer T]/\Below w.heap.size w w':=by
 go_enter Tryz.func13,Tryz.ntmps13
 go_wp2
 go_ret
 exact⟨w.heap.size,rfl,BlkIs.new _ _ _,below1 _ _⟩
theorem all1N_seq (n:Nat)(hn:6<=n)(q:Nat)(hq:BlkIs w q 26 #[.pointer T])(i:NoneT w T) :
  SeqR Fence.wide n Tryz.prog 46 #[.pointer (some ⟨q,0,none⟩)] (λ_:Unit=>#[.string ⟨#[]⟩,.string ⟨#[]⟩]) (λ_=>False) (λ_ _ _=>False) (λg=>g=[]) (λ_=>False) w:=by
 intro l J p W c m _ _ h
 have h1:1<=n:=by omega
 have f:=hq.below c hq.lt
 have j:=f.boxed
 have d:=(i.grow c).none
 refine callsIn_of_wp Tryz.func46 rfl trivial ?_ rfl
 simp only[Tryz.ntmps46,zT,zP,qE,qO,qP,zX,zY,qD,qA,zV,qB]
 gi_wp2_with (refine⟨trivial,?_⟩;gi_at_call 26;refine(callsIn_wide.2 d).mono ?_;rintro e k ⟨rfl,rfl⟩)
 refine⟨trivial,?_⟩
 gi_wp2
 refine bodyPost_ret (results_none rfl _ _ _) rfl ?_
 exact⟨⟨_,rfl⟩,.inl ⟨[],rfl,h⟩⟩
end
def ApartS (l:List ByteArray):Prop:=∀j,(h:j+1<l.length)->(l[j+1].toList == l[j].toList)=false
theorem compact_same (w:World)(A:Option Addr)(c:Nat)(l:List ByteArray)(h:InG w w.heap.size 1 A l.length c (skC l))(hl:l.length<=1000000)(ha:ApartS l) :
  Calls Tryz.prog 277 #[.slice A l.length c] w λe w'=>e = .returned (.slice A l.length c)/\Below w.heap.size w w':=by
 have H:=h.le
 by_cases h2:l.length<2
 ·have n:(l.length:Int)<2:=by omega
  go_enter Tryz.func277,Tryz.ntmps277
  go_wp2
  go_ret
  exact⟨rfl,Below.refl _ _⟩
 ·have n:¬ (l.length:Int)<2:=by omega
  go_enter Tryz.func277,Tryz.ntmps277
  go_wp2
  go_loopw [3] (λi wr=>∃(k m:Nat),i = .int .i64 m/\m=k+1/\m<=l.length/\Below w.heap.size w wr) (λi _=>l.length - (intOf i).toNat)
  case atStart=>exact⟨0,1,rfl,rfl,by omega,Below.refl _ _⟩
  case round =>
   obtain⟨k,m,rfl,d,M,hB⟩:=hrel
   by_cases L:m<l.length
   ·have j:k+1<l.length:=by omega
    obtain⟨g,o,rfl,f,_⟩:=h.lies (by omega)
    have q:wr.drew.cell? ⟨g,o+m,none⟩=some (.string l[k+1]):=by rw[d];exact(hB.cell (p:=⟨g,o+(k+1),none⟩) f).trans (str_at h rfl (k+1) j)
    have s:wr.drew.cell? ⟨g,o+k,none⟩=some (.string l[k]):=(hB.cell (p:=⟨g,o+k,none⟩) f).trans (str_at h rfl k (by omega))
    have z:wr.cell? ⟨g,o+m,none⟩=some (.string l[k+1]):=q
    have u:wr.cell? ⟨g,o+k,none⟩=some (.string l[k]):=s
    have C:=ha k j
    generalize l[k+1]=G at *
    generalize l[k]=B at *
    have N:IntKind.i64.wrap ((m:Int) - 1)=(k:Int):=by rw[wrapN _ (by omega) (by omega)];omega
    have x:IntKind.i64.wrap ((m:Int)+1)=(m:Int)+1:=wrapN _ (by omega) (by omega)
    have I:(0:Int)<=(m:Int):=by omega
    have F:(m:Int)<(l.length:Int):=by omega
    have K:(0:Int)<=(k:Int):=by omega
    have E:(k:Int)<(l.length:Int):=by omega
    have r:=Lib.hid d
    clear d
    go_wp2
    go_region
    go_wp2
    exact⟨⟨k+1,m+1,by simp,by rw[r.out],by omega,hB.drew⟩,by simp[intOf];omega⟩
   ·obtain⟨hs⟩:Nonempty (m=l.length):=⟨by omega⟩
    have hn:¬ (m:Int)<(l.length:Int):=by omega
    clear d hs
    go_wp2
    go_ret
    exact⟨rfl,hB⟩
end Go.Proofs.YtpibjkbadnffgaaGreat
namespace Go.Proofs.YtpibjkbadnffgaaGreat
open Go Go.RowKit Lou Go.Shelf
attribute [local go_sem] Oper.semAt_some
theorem run_eq_nilN {P:Program}(w:World)(t e:TypeId)(A:Option Addr)(n c:Nat)(ht:P.underlying t=some (.slice e)):(binOp .eql t (.slice A n c) (.slice none 0 0)).run P w = .ok (.bool A.isNone) w:=by
 have d:binOp .eql t (.slice A n c) (.slice none 0 0)=(do pure (.bool (<-Op.equalIn (9999+1) t (.slice A n c) (.slice none 0 0)))):=rfl
 have h:(Op.equalIn (9999+1) t (.slice A n c) (.slice none 0 0)).run P w = .ok A.isNone w:=by
  unfold Op.equalIn
  cases A<;>simp[run_underlying ht]
 rw[d]
 simp only[Sem.run_bind,h,Result.andThen,Sem.run_pure]
def OwnStrs (w:World)(l:List ByteArray)(e:Ending)(w':World):Prop:=∃A c,e = .returned (.slice A l.length c)/\w'.ownsRow w.heap.size 9 1 (.slice A l.length c) l.length (skC l)/\Below w.heap.size w w'
theorem sclone_gives (w:World)(A:Option Addr)(c:Nat)(l:List ByteArray)(h:InG w w.heap.size 1 A l.length c (skC l))(hl:l.length<=1000000) :
  Calls Tryz.prog 208 #[.slice A l.length c] w (OwnStrs w l):=by
 rcases A with _|i
 ·have hc:=h.nil rfl
  subst hc
  have k:=h.le
  obtain rfl:l=[]:=zZ (by omega)
  have hq:=λW=>run_eq_nilN (P:=Tryz.prog) W 40 9 none 0 0 Tryz.underlying40
  go_enter Tryz.func208,Tryz.ntmps208
  go_wp2
  go_ret
  exact⟨none,0,rfl,World.ownsRow_nil _ _ _ _,Below.refl _ _⟩
 ·have f:(w.alloc (.cells #[] 9)).ownsRow w.heap.size 9 1 (.slice (some ⟨w.heap.size,0,none⟩) 0 0) 0 []:=World.ownsRow_lit w #[] 0 (zH _) (by unfold maxLen;omega) rfl
  have d:Below w.heap.size w (w.alloc (.cells #[] 9)):=(Below.refl _ w).alloc (zH _) _
  have hq:=λW=>run_eq_nilN (P:=Tryz.prog) W 40 9 (some i) l.length c Tryz.underlying40
  go_enter Tryz.func208,Tryz.ntmps208
  go_wp2_with (at_builtin;refine wp_appG rfl elStr (.tmp 5) (.tmp 6) rfl w.heap.size (.slice (some ⟨w.heap.size,0,none⟩) 0 0) 0 [] rfl f _ _ l.length c (skC l) rfl (h.grow d) (by unfold maxLen;omega) (by omega) d.size ?_;intro v5 w5 e g)
  go_ret
  rw[qC,zV] at e
  obtain⟨j,c5,rfl,_⟩:=ownG_in e (skC_one _)
  exact⟨j,c5,rfl,e,d.trans (grown_below g d.size (ownG_ge f))⟩
end Go.Proofs.YtpibjkbadnffgaaGreat
namespace Go.Proofs.YtpibjkbadnffgaaGreat
open Go Go.RowKit Lou
structure RightP (x:Nod):Prop where
 sorted:SortedS (nkeys x)
 apart:ApartS (nkeys x)
 short:∀s∈nkeys x,shortS s=true
 leaf:x.leaf=true->x.keys=[]/\x.kids=[]/\∀c∈x.cells,rightB c=true
 inner:x.leaf=false->x.cells=[]/\0<x.keys.length/\x.kids.length=x.keys.length+1/\∀i∈x.kids,pageB i=true
def Void (w:World)(e:Ending)(w':World):Prop:=(∃v,e = .returned v)/\Below w.heap.size w w'
theorem must_ok (w:World)(e:Int):Calls Tryz.prog 142 #[.bool true,.int .i64 e] w λe w'=>(∃v,e = .returned v)/\w=w':=by
 go_enter Tryz.func142,Tryz.ntmps142
 go_wp2
 go_end0
 exact⟨⟨_,rfl⟩,rfl⟩
theorem check_ok (w:World)(x:Nod)(n:Option Addr)(cc:Nat)(s:Option Addr)(u:Nat)(m:Option Addr)(k:Nat)(h:NIs w w.heap.size x n cc s u m k)(hl:x.cells.length<=1000000)(aM:x.keys.length<=1000000)(aK:x.kids.length<=1000000)(hR:RightP x) :
  Calls Tryz.prog 213 #[.agg (nodC x n cc s u m k)] w (Void w):=by
 have B:=BlkIs.new w 43 (nodC x n cc s u m k)
 have hB:Below w.heap.size w (w.alloc (.cells (nodC x n cc s u m k) 43)):=(Below.refl _ w).alloc (zH _) _
 have h1:=h.grow hB
 have HK:=keys_gives _ x n cc s u m k h1 hl
 have p:=nkeys_len hl aM
 obtain⟨aF,aD,aB,L,U⟩:=hR
 generalize nkeys x=ks at *
 unfold Void
 obtain⟨leaf,cells,keys,kids⟩:=x
 unfold nodC at *
 simp only at *
 have aC:=Lib.hid aF
 have aI:=Lib.hid aD
 have aG:=Lib.hid aB
 clear aF aD aB
 cases leaf with
 | true =>
  obtain⟨rfl,rfl,aE⟩:=L rfl
  have M:=Lib.hid aE
  clear L U aE
  go_enter Tryz.func213,Tryz.ntmps213
  go_wp2_with (first
   | (refine wp_loadW rfl 43 (.tmp 1) rfl w.heap.size rfl rowNod B (by rfl) ?_)
   | (go_at_call 124;refine HK.mono ?_;rintro e V ⟨A,c,rfl,q,E⟩)
   | (go_at_call 276;refine(sortedS_gives V A c ks q p).mono ?_;rintro e H ⟨r3,rfl,j,C⟩;obtain rfl:r3=true:=C.2 aC.out;clear C)
   | (go_at_call 208;refine(sclone_gives H A c ks (q.grow j) p).mono ?_;rintro e N ⟨K,c4,rfl,I,z⟩)
   | (go_at_call 277;obtain⟨A5,c5,W,aA⟩:=ownG_in I (skC_one _);injection W with e51 e52 e53;subst e51 e53;refine(compact_same N K c4 ks aA p aI.out).mono ?_;rintro e w5 ⟨rfl,r⟩)
   | (go_at_call 278;refine(eachS_gives w5 A c ks ((((q.grow j).grow z)).grow r) p).mono ?_;rintro e d ⟨Z,rfl,S,G⟩;obtain rfl:Z=true:=G.2 aG.out;clear G;have f:=E.trans ((j.trans ((z.trans ((r.trans (S.mono r.size)).mono z.size)).mono j.size)).mono E.size);have g:=B.below f B.lt;have k0:d.cell? ⟨w.heap.size,0,none⟩=some (.bool true):=(by rw[g.cell];rfl);have k1:d.cell? ⟨w.heap.size,1,none⟩=some (.slice n cells.length cc):=(by rw[g.cell];rfl);have k2:d.cell? ⟨w.heap.size,2,none⟩=some (.slice s 0 u):=(by rw[g.cell];rfl);have k3:d.cell? ⟨w.heap.size,3,none⟩=some (.slice m 0 k):=(by rw[g.cell];rfl))
   | (go_at_call 280;refine(eachC_gives d n cc cells (h1.c.grow f) hl).mono ?_;rintro e w8 ⟨X,rfl,O,F⟩;obtain rfl:X=true:=F.2 M.out;clear F)
   | (go_at_call 142;refine(must_ok _ _).mono ?_;rintro e w7 ⟨⟨v7,rfl⟩,rfl⟩))
  exact bodyPost_ret (results_none rfl _ _ _) rfl ⟨⟨_,rfl⟩,(hB.trans (f.mono hB.size)).trans (O.mono (hB.trans (f.mono hB.size)).size)⟩
 | false =>
  obtain⟨rfl,aL,aJ,aH⟩:=U rfl
  have M:=Lib.hid aH
  have g1:(0:Int)<(keys.length:Int):=by omega
  have g2:IntKind.i64.wrap ((keys.length:Int)+1)=(kids.length:Int):=by rw[wrapN _ (by omega) (by omega)];omega
  clear L U aH aL aJ
  go_enter Tryz.func213,Tryz.ntmps213
  go_wp2_with (first
   | (refine wp_loadW rfl 43 (.tmp 1) rfl w.heap.size rfl rowNod B (by rfl) ?_)
   | (go_at_call 124;refine HK.mono ?_;rintro e V ⟨A,c,rfl,q,E⟩)
   | (go_at_call 276;refine(sortedS_gives V A c ks q p).mono ?_;rintro e H ⟨r3,rfl,j,C⟩;obtain rfl:r3=true:=C.2 aC.out;clear C)
   | (go_at_call 208;refine(sclone_gives H A c ks (q.grow j) p).mono ?_;rintro e N ⟨K,c4,rfl,I,z⟩)
   | (go_at_call 277;obtain⟨A5,c5,W,aA⟩:=ownG_in I (skC_one _);injection W with e51 e52 e53;subst e51 e53;refine(compact_same N K c4 ks aA p aI.out).mono ?_;rintro e w5 ⟨rfl,r⟩)
   | (go_at_call 278;refine(eachS_gives w5 A c ks ((((q.grow j).grow z)).grow r) p).mono ?_;rintro e d ⟨Z,rfl,S,G⟩;obtain rfl:Z=true:=G.2 aG.out;clear G;have f:=E.trans ((j.trans ((z.trans ((r.trans (S.mono r.size)).mono z.size)).mono j.size)).mono E.size);have g:=B.below f B.lt;have k0:d.cell? ⟨w.heap.size,0,none⟩=some (.bool false):=(by rw[g.cell];rfl);have k1:d.cell? ⟨w.heap.size,1,none⟩=some (.slice n 0 cc):=(by rw[g.cell];rfl);have k2:d.cell? ⟨w.heap.size,2,none⟩=some (.slice s keys.length u):=(by rw[g.cell];rfl);have k3:d.cell? ⟨w.heap.size,3,none⟩=some (.slice m kids.length k):=(by rw[g.cell];rfl))
   | (go_at_call 282;refine(eachI_gives d m k kids (h1.i.grow f) aK).mono ?_;rintro e w8 ⟨X,rfl,O,F⟩;obtain rfl:X=true:=F.2 M.out;clear F)
   | (go_at_call 142;refine(must_ok _ _).mono ?_;rintro e w7 ⟨⟨v7,rfl⟩,rfl⟩))
  go_end0
  exact⟨⟨_,rfl⟩,(hB.trans (f.mono hB.size)).trans (O.mono (hB.trans (f.mono hB.size)).size)⟩
theorem number12_gives (w:World)(n:Nat)(hn:n<9223372036854775808):Calls Tryz.prog 214 #[.int .i64 (n:Int)] w (GivesB w (num n)):=by
 have hc:IntKind.u64.wrap (n:Int)=(n:Int):=by simp[IntKind.wrap,IntKind.bits,IntKind.signed];omega
 go_enter Tryz.func214,Tryz.ntmps214
 go_wp2_with (go_at_call 284;refine(number_gives n (by omega) w).mono ?_;rintro e c ⟨v,rfl,own,hB⟩)
 go_ret
 exact⟨v,rfl,own,hB⟩
theorem joined_gives {c:List (List UInt8)}{v:Value}{w:World}(h:Lists c v w)(f:c.length<=1000)(hf:c.flatten.length<=1000000000):Calls Tryz.prog 143 #[v] w (GivesB w c.flatten):=by
 have d:=concatL_gives h f hf
 obtain⟨b,rfl,_⟩:=h
 generalize c.flatten=l at *
 go_enter Tryz.func143,Tryz.ntmps143
 go_wp2_with (go_at_call 137;refine d.mono ?_;rintro e g ⟨v,rfl,own,hB⟩)
 go_ret
 exact⟨v,rfl,own,hB⟩
def bytS (s:ByteArray):List UInt8:=strL s.data.toList
theorem ostr_gives (w:World)(s:ByteArray)(hs:s.size<=1000000000):Calls Tryz.prog 270 #[.string s] w (GivesB w (bytS s)):=by
 have h:=string_gives s.data.toList (by rw[qL];exact hs) w
 rw[<-str_of] at h
 exact h
theorem lots1_gives (w:World)(c:Cel)(hs:c.val.size<=1000000000):Calls Tryz.prog 269 #[.agg (celC c).toArray] w (GivesB w (bytS c.val)):=by
 have d:=BlkIs.new w 49 (celC c).toArray
 have hB:Below w.heap.size w (w.alloc (.cells (celC c).toArray 49)):=(Below.refl _ w).alloc (zH _) _
 have c1:(w.alloc (.cells (celC c).toArray 49)).cell? ⟨w.heap.size,1,none⟩=some (.string c.val):=by rw[d.cell];rfl
 go_enter Tryz.func269,Tryz.ntmps269
 go_wp2_with (go_at_call 270;refine(ostr_gives _ _ hs).mono ?_;rintro e g ⟨v,rfl,own,f⟩)
 go_ret
 exact⟨v,rfl,OwnB.base own hB.size,hB.trans (f.mono hB.size)⟩
theorem lots2_gives (w:World)(c:Cel)(n:Nat)(hn:c.size=(n:Int))(g:n<9223372036854775808):Calls Tryz.prog 271 #[.agg (celC c).toArray] w (GivesB w (num n)):=by
 have d:=BlkIs.new w 49 (celC c).toArray
 have hB:Below w.heap.size w (w.alloc (.cells (celC c).toArray 49)):=(Below.refl _ w).alloc (zH _) _
 have c3:(w.alloc (.cells (celC c).toArray 49)).cell? ⟨w.heap.size,3,none⟩=some (.int .i64 (n:Int)):=by rw[d.cell,<-hn];rfl
 go_enter Tryz.func271,Tryz.ntmps271
 go_wp2_with (go_at_call 214;refine(number12_gives _ n g).mono ?_;rintro e h ⟨v,rfl,own,f⟩)
 go_ret
 exact⟨v,rfl,OwnB.base own hB.size,hB.trans (f.mono hB.size)⟩
def celB (c:Cel):List UInt8:=bytS c.key++num c.page.toNat++(if c.page=0 then bytS c.val else num c.size.toNat)
def keyB (s:ByteArray)(i:Int):List UInt8:=bytS s++num i.toNat
def lotsB (x:Nod):List (List UInt8):=x.cells.map celB++(List.range x.keys.length).map λj=>keyB (x.keys.getD j ByteArray.empty) (x.kids.getD (j+1) 0)
theorem elLists:ElT 151 87 1 24 (.slice none 0 0):=⟨Tryz.underlying151,by kernel_rfl,by kernel_rfl,by decide⟩
theorem own_apart {w:World}{b f:Nat}{T d:TypeId}{sz k n m:Nat}{v v':Value}{cs cs':List Value}(h:w.ownsRow b T sz v n cs)(i:w.ownsRow f d k v' m cs')(j:T≠d):∀r,v'.ownBlock=some r->some r≠v.ownBlock:=by
 intro r c e
 rcases h.2 with⟨rfl,_⟩|⟨g,cap,cur,rfl,_,hq,_⟩
 ·cases e
 ·rcases i.2 with⟨rfl,_⟩|⟨g',cap',cur',rfl,_,hq',_⟩
  ·cases c
  ·injection c with c
   injection e with e
   subst c
   subst e
   rw[hq] at hq'
   injection hq' with hq'
   injection hq' with _ h2
   exact j h2
theorem own_past {w w':World}{b e:Nat}{T c:TypeId}{sz g n i:Nat}{v v':Value}{cs cs':List Value}(h:w.ownsRow b T sz v n cs)(d:w.ownsRow e c g v' i cs')(k:T≠c)(j:w.grownBy w' v.ownBlock):w'.ownsRow e c g v' i cs' :=
 ownG_later d λr f=>j.block r (ownG_lt d r f) (own_apart h d k r f)
theorem own_blk {w:World}{b:Nat}{T d:TypeId}{sz n g:Nat}{v:Value}{cs:List Value}{cs':Array Value}(h:w.ownsRow b T sz v n cs)(f:BlkIs w g d cs')(i:T≠d):some g≠v.ownBlock:=by
 intro e
 rcases h.2 with⟨rfl,_⟩|⟨g',cap,cur,rfl,_,hq,_⟩
 ·cases e
 ·injection e with e
  subst e
  have c:w.heap[g]? = some (.cells cs' d (0,0)):=f
  rw[hq] at c
  injection c with c
  injection c with _ h2
  exact i h2
theorem own_map {w:World}{b:Nat}{T:TypeId}{sz n r c:Nat}{v:Value}{cs:List Value}{d:Array MapEntry}(h:w.ownsRow b T sz v n cs)(g:MapIs w r d c):some r≠v.ownBlock:=by
 intro e
 rcases h.2 with⟨rfl,_⟩|⟨g',cap,cur,rfl,_,hq,_⟩
 ·cases e
 ·injection e with e
  subst e
  have f:w.heap[r]? = some (.map d c):=g
  rw[hq] at f
  cases f
structure LotR (w:World)(base:Nat)(v:Value)(ls:List (List UInt8))(vs:List Value):Prop where
 own:w.ownsRow base 87 1 v ls.length vs
 one:∀v∈vs,v.oneCell'=true
 at_:∀j,(h:j<ls.length)->∃A c,vs[j]? = some (.slice A ls[j].length c)/\OwnB w 0 (.slice A ls[j].length c) ls[j]
theorem LotR.none (w:World)(base:Nat):LotR w base (.slice none 0 0) [] []:=⟨World.ownsRow_nil _ _ _ _,λv h=>by simp at h,λj h=>by simp at h⟩
theorem LotR.grow {w w':World}{base:Nat}{v:Value}{d:List (List UInt8)}{vs:List Value}(h:LotR w base v d vs)(hB:Below w.heap.size w w'):LotR w' base v d vs:=by
 refine⟨ownG_grow h.own hB,h.one,λj f => ?_⟩
 obtain⟨A,c,e,g⟩:=h.at_ j f
 exact⟨A,c,e,ownG_grow g hB⟩
theorem LotR.more {w w':World}{base m:Nat}{v v':Value}{d:List (List UInt8)}{f:List Value}(h:LotR w base v d f){l:List UInt8}{A:Option Addr}{c:Nat}(q:OwnB w m (.slice A l.length c) l)
  (own:w'.ownsRow base 87 1 v' (d.length+1) (f++[.slice A l.length c])) (g:w.grownBy w' v.ownBlock):LotR w' base v' (d++[l]) (f++[.slice A l.length c]):=by
 have s:f.length=d.length:=by have:=h.own.1;omega
 have i:87≠5:=by decide
 refine⟨by rw[zJ];exact own,?_,λj x => ?_⟩
 ·intro u hu
  rcases qK.1 hu with hu|hu
  ·exact h.one u hu
  ·obtain rfl:=qN.1 hu
   rfl
 ·by_cases e:j<d.length
  ·obtain⟨p,c',n,k⟩:=h.at_ j e
   refine⟨p,c',?_,?_⟩
   ·rw[List.getElem?_append_left (by omega),n,List.getElem_append_left e]
   ·rw[List.getElem_append_left e]
    exact own_past h.own k i g
  ·have r:j=d.length:=by simp at x;omega
   subst r
   refine⟨A,c,?_,?_⟩
   ·rw[List.getElem?_append_right (by omega),s,Nat.sub_self,List.getElem_append_right (zH _)]
    simp
   ·rw[List.getElem_append_right (zH _)]
    have:=own_past h.own (OwnB.base q (Nat.zero_le _)) i g
    simp only[Nat.sub_self,zB]
    exact this
def LotsOut (w:World)(ls:List (List UInt8))(e:Ending)(w':World):Prop:=∃A c vs,e = .returned (.slice A ls.length c)/\LotR w' w.heap.size (.slice A ls.length c) ls vs/\Below w.heap.size w w'
theorem bytS_length (s:ByteArray):(bytS s).length<=10+s.size:=by
 unfold bytS strL
 rw[zJ]
 have h1:=num_length s.data.toList.length
 have h2:s.data.toList.length=s.size:=qL
 omega
theorem right_cases {c:Cel}(h:rightB c=true):∃d sn:Nat,c.page=d/\c.size=sn/\d<=2000/\sn<=4000/\(d=0->c.val.size<=60):=by
 unfold rightB at h
 by_cases f:c.page=0
 ·rw[if_pos f] at h
  simp only[Bool.and_eq_true,decide_eq_true_eq,beq_iff_eq] at h
  exact⟨0,0,by omega,by omega,by omega,by omega,λ_=>h.1⟩
 ·rw[if_neg f] at h
  simp only[pageB,Bool.and_eq_true,decide_eq_true_eq] at h
  exact⟨c.page.toNat,c.size.toNat,by omega,by omega,by omega,by omega,λe=>by omega⟩
theorem celB_length {c:Cel}(n:c.key.size<=81)(e:rightB c=true):(celB c).length<=200:=by
 obtain⟨g,sn,h,k,h1,h2,d⟩:=right_cases e
 unfold celB
 rw[zJ,zJ]
 have j:=bytS_length c.key
 have i:=num_length c.page.toNat
 have m:=bytS_length c.val
 have f:=num_length c.size.toNat
 split
 ·have:=d (by omega)
  omega
 ·omega
def lotEs:Array MapEntry:=#[{ key:=.bool true,val:=.func (.func 269) #[] #[],born:=0 },{ key:=.bool false,val:=.func (.func 271) #[] #[],born:=1 }]
theorem lot_find (b:Bool):Instr.findNow .bool (.bool b) lotEs.toList 0=some (some (if b then 0 else 1,.func (.func (if b then 269 else 271)) #[] #[])):=by cases b<;>rfl
theorem lot_get {W:World}{r:Nat}(h:MapIs W r lotEs 2)(b:Bool):(Instr.lookup 342 (.map (some r)) (.bool b) false).run Tryz.prog W = .ok (.func (.func (if b then 269 else 271)) #[] #[]) W :=
 run_get Tryz.underlying342 Tryz.underlying4 (show MapKept.IsKey .bool (.bool b) from trivial) h (lot_find b)
theorem join3 {q j f:World}{p n k:Option Addr}{c5 i m:Nat}{c d g l:List UInt8}(C:InB q q.heap.size p c5 c)(B:InB j j.heap.size n i d)(A:InB f f.heap.size k m g)(x:Below q.heap.size q j)(r:Below j.heap.size j f)(hl:[c,d,g].flatten=l)(E:l.length<=200) :
  Calls Tryz.prog 143 #[.slice (some ⟨f.heap.size,0,none⟩) 3 3] (f.alloc (.cells #[.slice p c.length c5,.slice n d.length i,.slice k g.length m] 87)) (GivesB (f.alloc (.cells #[.slice p c.length c5,.slice n d.length i,.slice k g.length m] 87)) l):=by
 have u:=x.trans (r.mono x.size)
 have z:=Lists.new (w:=f) [((p,c5),c),((n,i),d),((k,m),g)] (by
  intro y s
  simp at s
  rcases s with rfl|rfl|rfl
  ·exact(C.below u).more u.size
  ·exact(B.below r).more r.size
  ·exact A)
 have h:=joined_gives z (by simp) (by show [c,d,g].flatten.length<=_;rw[hl];omega)
 have e:(([((p,c5),c),((n,i),d),((k,m),g)]:List ((Option Addr×Nat)×List UInt8)).map (·.2)).flatten=l:=hl
 rw[e] at h
 exact h
theorem join2 {k f:World}{j i:Option Addr}{c5 g:Nat}{c d l:List UInt8}(r:InB k k.heap.size j c5 c)(q:InB f f.heap.size i g d)(n:Below k.heap.size k f)(hl:[c,d].flatten=l)(s:l.length<=1000000000) :
  Calls Tryz.prog 143 #[.slice (some ⟨f.heap.size,0,none⟩) 2 2] (f.alloc (.cells #[.slice j c.length c5,.slice i d.length g] 87)) (GivesB (f.alloc (.cells #[.slice j c.length c5,.slice i d.length g] 87)) l):=by
 have p:=Lists.new (w:=f) [((j,c5),c),((i,g),d)] (by
  intro y m
  simp at m
  rcases m with rfl|rfl
  ·exact(r.below n).more n.size
  ·exact q)
 have h:=joined_gives p (by simp) (by show [c,d].flatten.length<=_;rw[hl];omega)
 have e:(([((j,c5),c),((i,g),d)]:List ((Option Addr×Nat)×List UInt8)).map (·.2)).flatten=l:=hl
 rw[e] at h
 exact h
def keyAt (keys:List ByteArray)(kids:List Int)(j:Nat):List UInt8:=keyB (keys.getD j ByteArray.empty) (kids.getD (j+1) 0)
theorem lots_gives (w:World)(x:Nod)(Ac:Option Addr)(cc:Nat)(Ak:Option Addr)(ck:Nat)(Ai:Option Addr)(ci:Nat)(h:NIs w w.heap.size x Ac cc Ak ck Ai ci)(hl:x.cells.length<=1000000)(cI:x.keys.length<=1000000)(cE:x.kids.length<=1000000)(hR:RightP x) :
  Calls Tryz.prog 206 #[.agg (nodC x Ac cc Ak ck Ai ci)] w (LotsOut w (lotsB x)):=by
 have b0:=BlkIs.new w 43 (nodC x Ac cc Ak ck Ai ci)
 have hB:Below w.heap.size w (w.alloc (.cells (nodC x Ac cc Ak ck Ai ci) 43)):=(Below.refl _ w).alloc (zH _) _
 have h1:=h.grow hB
 obtain⟨hc,hk,hi⟩:=h
 have lc:=hc.le
 have mc:=hc.max
 have lk:=hk.le
 have li:=hi.le
 obtain⟨leaf,cells,keys,kids⟩:=x
 unfold nodC at *
 simp only at *
 have cA:∀c∈cells,rightB c=true/\c.key.size<=81:=λc hc=>by
  cases leaf with
  | true =>
   refine⟨(hR.leaf rfl).2.2 c hc,?_⟩
   have:=hR.short c.key (List.mem_map.2 ⟨c,hc,rfl⟩)
   unfold shortS at this
   simpa using this
  | false =>
   have e:cells=[]:=(hR.inner rfl).1
   rw[e] at hc
   cases hc
 have b1:∀j,(h:j<keys.length)->keys[j].size<=81/\∃n:Nat,n<=2000/\∃h2:j+1<kids.length,kids[j+1]=(n:Int):=λj hj=>by
  cases leaf with
  | true =>
   have e:keys=[]:=(hR.leaf rfl).1
   subst e
   simp at hj
  | false =>
   obtain⟨_,_,aZ,hp⟩:=hR.inner rfl
   simp only at aZ hp
   have h2:j+1<kids.length:=by omega
   have bX:=hp _ (qF h2)
   simp only[pageB,Bool.and_eq_true,decide_eq_true_eq] at bX
   have hs:=hR.short keys[j] (qF hj)
   refine⟨by unfold shortS at hs;simpa using hs,kids[j+1].toNat,by omega,h2,by omega⟩
 go_enter Tryz.func206,Tryz.ntmps206
 have e0:Instr.findNow .bool (.bool true) (#[]:Array MapEntry).toList 0=some none:=rfl
 have e1:Instr.findNow .bool (.bool false) (#[{ key:=.bool true,val:=.func (.func 269) #[] #[],born:=0 }]:Array MapEntry).toList 0=some none:=rfl
 have E0:=Lib.hid e0
 have E1:=Lib.hid e1
 clear e0 e1
 obtain⟨W1,a2⟩:∃W1,W1=w.alloc (.cells #[.bool leaf,.slice Ac cells.length cc,.slice Ak keys.length ck,.slice Ai kids.length ci] 43):=⟨_,rfl⟩
 rw[<-a2] at b0 hB h1
 have bM:W1.heap.size=w.heap.size+1:=by rw[a2];exact World.size_alloc _ _
 have bV:=Lib.hid a2
 have cB:=Lib.hid bM
 clear a2 bM
 go_wp2_with (first
  | (refine wp_makeMap rfl rfl ?_;rw[<-bV.out];intro bQ;have a3:=(Below.refl _ W1).alloc (zH _) (.map #[] 0))
  | (refine wp_put_new rfl (.tmp 8) (.const (.bool true)) (.func 269) (.inl rfl) Tryz.underlying342 Tryz.underlying4 (show MapKept.IsKey .bool (.bool true) from trivial) rfl rfl rfl bQ E0.out ?_;intro w3 bT a7)
  | (refine wp_put_new rfl (.tmp 8) (.const (.bool false)) (.func 271) (.inl rfl) Tryz.underlying342 Tryz.underlying4 (show MapKept.IsKey .bool (.bool false) from trivial) rfl rfl rfl bT E1.out ?_;intro w4 bO bB;have a5:Below W1.heap.size W1 w4:=((a3.trans (grown_below a7 a3.size (λr e=>by injection e with e;omega))).trans (grown_below bB (zU a3.size a7.size) (λr e=>by injection e with e;omega)));have b4:=b0.below a5 b0.lt;have k1:w4.cell? ⟨w.heap.size,1,none⟩=some (.slice Ac cells.length cc):=(by rw[b4.cell];rfl)))
 have hm:MapIs w4 W1.heap.size lotEs 2:=bO
 obtain⟨r,hr⟩:∃r,r=W1.heap.size:=⟨_,rfl⟩
 rw[<-hr] at hm ⊢
 have I:Below w.heap.size w w4:=hB.trans (a5.mono hB.size)
 clear hr bQ bT bO a7 bB a3 h1 a5
 go_loopw [2,13] (λv i wr=>∃(k:Nat) (A:Option Addr) (c:Nat) (vs:List Value),k<=cells.length/\i = .int .i64 k/\v = .slice A k c/\LotR wr w4.heap.size (.slice A k c) ((cells.take k).map celB) vs/\Below w4.heap.size w4 wr) (λ_ i _=>cells.length - (intOf i).toNat)
 case atStart=>exact⟨0,none,0,[],by omega,rfl,rfl,LotR.none _ _,Below.refl _ _⟩
 case round =>
  obtain⟨k,A,c,vs,b3,rfl,rfl,V,f⟩:=hrel
  by_cases aK:k<cells.length
  ·obtain⟨g,o,rfl,hg,_⟩:=hc.lies (by omega)
   have b8:wr.rangeAt g (o+k*4) (celC cells[k]):=λj v hj=>(f.cell (p:=⟨g,o+k*4+j,none⟩) (zO hg I.size)).trans ((I.cell (p:=⟨g,o+k*4+j,none⟩) hg).trans (cel_at hc rfl k aK j v hj))
   have b6:=cA _ (qF aK)
   have bE:(cells.take (k+1)).map celB=(cells.take k).map celB++[celB cells[k]]:=by rw[zW aK,List.map_append];rfl
   have aF:((cells.take k).map celB).length=k:=by rw[qM,qG];omega
   generalize cells[k]=x at *
   obtain⟨bR,bF⟩:=b6
   have aZ:=celB_length bF bR
   obtain⟨B,sn,e1,e2,h1,h2,h3⟩:=right_cases bR
   obtain⟨d,u,xp,xz⟩:=x
   simp only at bF e1 e2 h3
   subst e1 e2
   have n0:=BlkIs.new wr 49 (celC zCel).toArray
   have nb:=n0.setRow (celC (⟨d,u,(B:Int),(sn:Int)⟩:Cel)).toArray
   have nB:Below wr.heap.size wr ((wr.alloc (.cells (celC zCel).toArray 49)).setRow wr.heap.size (celC (⟨d,u,(B:Int),(sn:Int)⟩:Cel)).toArray):=below_setRow ((Below.refl _ wr).alloc (zH _) _) (zH _) _
   obtain⟨S,a6⟩:∃S,S=(wr.alloc (.cells (celC zCel).toArray 49)).setRow wr.heap.size (celC (⟨d,u,(B:Int),(sn:Int)⟩:Cel)).toArray:=⟨_,rfl⟩
   rw[<-a6] at nb nB
   have HW:=Lib.hid a6
   have aC:=f.trans (nB.mono f.size)
   have bJ:=V.grow nB
   generalize (cells.take k).map celB=ls at *
   have aJ:=Lib.hid aF
   have a0:=Lib.hid bE
   have bI:∀W,Below S.heap.size S W->MapIs W r lotEs 2:=λW hW=>(hm.below aC hm.lt).below hW (zO hm.lt aC.size)
   obtain⟨q,a1⟩:∃q,q=wr.heap.size:=⟨_,rfl⟩
   have m:∀W,Below S.heap.size S W->W.cell? ⟨q,0,none⟩=some (.string d)/\W.cell? ⟨q,1,none⟩=some (.string u)/\W.cell? ⟨q,2,none⟩=some (.int .i64 (B:Int))/\W.cell? ⟨q,3,none⟩=some (.int .i64 (sn:Int))/\MapIs W r lotEs 2:=λW hW=>by
    have b:=nb.below hW nb.lt
    rw[<-a1] at b
    exact⟨by rw[b.cell];rfl,by rw[b.cell];rfl,by rw[b.cell];rfl,by rw[b.cell];rfl,bI W hW⟩
   clear a6 bE aF V bI
   go_wp2_with (first
    | (refine wp_execN rfl (x_loadM rowCel b8 rfl rfl rfl) ?_)
    | (refine wp_execN rfl (x_allocCel rfl) ?_)
    | (refine wp_storeW rfl 49 (.tmp 5) (.tmp 16) rfl wr.heap.size rfl rfl rowCel n0 rfl rfl (celC_one _) ?_;rw[<-HW.out]))
   rw[<-a1]
   have bP:=Lib.hid a1
   clear a1
   simp only[Act.put,zA,zG,zF]
   have aD:Below S.heap.size S S.drew:=(Below.refl _ S).drew
   rcases Nat.eq_zero_or_pos B with h0|h0
   ·have bU:u.size<=1000000000:=by have:=h3 h0;omega
    subst h0
    have qd:=m _ aD
    have b7:∀W,MapIs W r lotEs 2->(Instr.lookup 342 (.map (some r)) (.bool true) false).run Tryz.prog W = .ok (.func (.func 269) #[] #[]) W:=λW h=>lot_get h true
    have aX:Hid ([bytS d,num 0,bytS u].flatten=celB (⟨d,u,((0:Nat):Int),(sn:Int)⟩:Cel)):=Lib.hid (by unfold celB;simp)
    go_region_held3 (λW=>W.cell? ⟨q,0,none⟩=some (.string d)/\W.cell? ⟨q,1,none⟩=some (.string u)/\W.cell? ⟨q,2,none⟩=some (.int .i64 0)/\W.cell? ⟨q,3,none⟩=some (.int .i64 (sn:Int))/\MapIs W r lotEs 2) (first|exact qd|exact q5|exact q6|exact q7|exact q8|exact q9|exact U|exact aT) (first
     | (go_at_call 270;refine(ostr_gives _ d (by omega)).mono ?_;rintro e W5 ⟨v5,rfl,aN,aQ⟩;have O:=aD.trans (aQ.mono aD.size);have q5:=m _ O;obtain⟨A5,c5,rfl,aU⟩:=aN.inB)
     | (go_at_call 214;refine(number12_gives _ 0 (by omega)).mono ?_;rintro e W6 ⟨v6,rfl,aP,aB⟩;have L:=O.trans (aB.mono O.size);have q6:=m _ L;obtain⟨A6,c6,rfl,aO⟩:=aP.inB)
     | (go_at_call 269;refine(lots1_gives _ (⟨d,u,((0:Nat):Int),(sn:Int)⟩:Cel) bU).mono ?_;rintro e W7 ⟨v7,rfl,a9,aM⟩;have aL:=L.trans (aM.mono L.size);have q7:=m _ aL;obtain⟨A7,c7,rfl,a8⟩:=a9.inB;have K:=aL.alloc aL.size (.cells #[.slice A5 (bytS d).length c5,.slice A6 (num 0).length c6,.slice A7 (bytS u).length c7] 87);have q8:=m _ K)
     | (go_at_call 143;have HJ:=join3 aU aO a8 aB aM aX.out aZ;refine HJ.mono ?_;rintro e z ⟨v9,rfl,aH,aV⟩;have H:=K.trans (aV.mono K.size);have q9:=m _ H;obtain⟨N,M,rfl,bH⟩:=aH.inB;have C:=H.alloc H.size (.cells #[.slice N (celB (⟨d,u,((0:Nat):Int),(sn:Int)⟩:Cel)).length M] 87);have U:=m _ C;have aG:=bJ.grow C;have E:=aG.own;rw[aJ.out] at E;have Z:=zU aC.size C.size)
     | (refine step_appG rfl elLists (.tmp 17) (.tmp 33) rfl w4.heap.size (.slice A k c) k vs rfl E _ _ 1 1 [.slice N (celB (⟨d,u,((0:Nat):Int),(sn:Int)⟩:Cel)).length M] rfl (row_one z 87 _ rfl) (by unfold maxLen;omega) (by omega) Z ?_;intro bC G aA F;have aI:=nb.below C nb.lt;rw[<-bP.out] at aI;have X:=aI.grown F (own_blk E aI (by decide));have aT:G.cell? ⟨q,0,none⟩=some (.string d)/\G.cell? ⟨q,1,none⟩=some (.string u)/\G.cell? ⟨q,2,none⟩=some (.int .i64 0)/\G.cell? ⟨q,3,none⟩=some (.int .i64 (sn:Int))/\MapIs G r lotEs 2:=⟨by rw[X.cell];rfl,by rw[X.cell];rfl,by rw[X.cell];rfl,by rw[X.cell];rfl,U.2.2.2.2.grown F (own_map E U.2.2.2.2)⟩))
    go_wp2
    all_goals
     have aR:Below z.heap.size z (z.alloc (.cells #[.slice N (celB (⟨d,u,((0:Nat):Int),(sn:Int)⟩:Cel)).length M] 87)):=(Below.refl _ z).alloc (zH _) _
     have aE:=aG.more (ownG_grow aH aR) (by rw[aJ.out];exact aA) F
     obtain⟨aS,aW,rfl,_⟩:=ownG_in aA aE.one
     exact⟨⟨k+1,aS,aW,_,by omega,by simp,rfl,by rw[a0.out];exact aE,(aC.trans (C.mono aC.size)).trans (grown_below F Z (ownG_ge E))⟩,by simp[intOf];omega⟩
   ·have cJ:((B:Int) == 0)=false:=by simp;omega
    have qd:=m _ aD
    have b7:∀W,MapIs W r lotEs 2->(Instr.lookup 342 (.map (some r)) (.bool false) false).run Tryz.prog W = .ok (.func (.func 271) #[] #[]) W:=λW h=>lot_get h false
    have aX:Hid ([bytS d,num B,num sn].flatten=celB (⟨d,u,(B:Int),(sn:Int)⟩:Cel)):=Lib.hid (by unfold celB;rw[if_neg (by show ¬ ((B:Int)=0);omega)];simp)
    go_region_held3 (λW=>W.cell? ⟨q,0,none⟩=some (.string d)/\W.cell? ⟨q,1,none⟩=some (.string u)/\W.cell? ⟨q,2,none⟩=some (.int .i64 (B:Int))/\W.cell? ⟨q,3,none⟩=some (.int .i64 (sn:Int))/\MapIs W r lotEs 2) (first|exact qd|exact q5|exact q6|exact q7|exact q8|exact q9|exact U|exact aT) (first
     | (go_at_call 270;refine(ostr_gives _ d (by omega)).mono ?_;rintro e W5 ⟨v5,rfl,aN,aQ⟩;have O:=aD.trans (aQ.mono aD.size);have q5:=m _ O;obtain⟨A5,c5,rfl,aU⟩:=aN.inB)
     | (go_at_call 214;refine(number12_gives _ B (by omega)).mono ?_;rintro e W6 ⟨v6,rfl,aP,aB⟩;have L:=O.trans (aB.mono O.size);have q6:=m _ L;obtain⟨A6,c6,rfl,aO⟩:=aP.inB)
     | (go_at_call 271;refine(lots2_gives _ (⟨d,u,(B:Int),(sn:Int)⟩:Cel) sn rfl (by omega)).mono ?_;rintro e W7 ⟨v7,rfl,a9,aM⟩;have aL:=L.trans (aM.mono L.size);have q7:=m _ aL;obtain⟨A7,c7,rfl,a8⟩:=a9.inB;have K:=aL.alloc aL.size (.cells #[.slice A5 (bytS d).length c5,.slice A6 (num B).length c6,.slice A7 (num sn).length c7] 87);have q8:=m _ K)
     | (go_at_call 143;have HJ:=join3 aU aO a8 aB aM aX.out aZ;refine HJ.mono ?_;rintro e z ⟨v9,rfl,aH,aV⟩;have H:=K.trans (aV.mono K.size);have q9:=m _ H;obtain⟨N,M,rfl,bH⟩:=aH.inB;have C:=H.alloc H.size (.cells #[.slice N (celB (⟨d,u,(B:Int),(sn:Int)⟩:Cel)).length M] 87);have U:=m _ C;have aG:=bJ.grow C;have E:=aG.own;rw[aJ.out] at E;have Z:=zU aC.size C.size)
     | (refine step_appG rfl elLists (.tmp 17) (.tmp 33) rfl w4.heap.size (.slice A k c) k vs rfl E _ _ 1 1 [.slice N (celB (⟨d,u,(B:Int),(sn:Int)⟩:Cel)).length M] rfl (row_one z 87 _ rfl) (by unfold maxLen;omega) (by omega) Z ?_;intro bC G aA F;have aI:=nb.below C nb.lt;rw[<-bP.out] at aI;have X:=aI.grown F (own_blk E aI (by decide));have aT:G.cell? ⟨q,0,none⟩=some (.string d)/\G.cell? ⟨q,1,none⟩=some (.string u)/\G.cell? ⟨q,2,none⟩=some (.int .i64 (B:Int))/\G.cell? ⟨q,3,none⟩=some (.int .i64 (sn:Int))/\MapIs G r lotEs 2:=⟨by rw[X.cell];rfl,by rw[X.cell];rfl,by rw[X.cell];rfl,by rw[X.cell];rfl,U.2.2.2.2.grown F (own_map E U.2.2.2.2)⟩))
    go_wp2
    all_goals
     have aR:Below z.heap.size z (z.alloc (.cells #[.slice N (celB (⟨d,u,(B:Int),(sn:Int)⟩:Cel)).length M] 87)):=(Below.refl _ z).alloc (zH _) _
     have aE:=aG.more (ownG_grow aH aR) (by rw[aJ.out];exact aA) F
     obtain⟨aS,aW,rfl,_⟩:=ownG_in aA aE.one
     exact⟨⟨k+1,aS,aW,_,by omega,by simp,rfl,by rw[a0.out];exact aE,(aC.trans (C.mono aC.size)).trans (grown_below F Z (ownG_ge E))⟩,by simp[intOf];omega⟩
  ·obtain rfl:k=cells.length:=by omega
   rw[List.take_length] at V
   have cD:Below w.heap.size w wr:=I.trans (f.mono I.size)
   have b5:BlkIs wr w.heap.size 43 _:=b4.below f b4.lt
   have k2:wr.cell? ⟨w.heap.size,2,none⟩=some (.slice Ak keys.length ck):=by rw[b5.cell];rfl
   have cH:=b4.lt
   go_wp2
   go_loopw [2,39] (λv i w2=>∃(k:Nat) (A:Option Addr) (c:Nat) (vs:List Value),k<=keys.length/\i = .int .i64 k/\v = .slice A (cells.length+k) c/\LotR w2 w4.heap.size (.slice A (cells.length+k) c) (cells.map celB++(List.range k).map (keyAt keys kids)) vs/\Below w4.heap.size w4 w2) (λ_ i _=>keys.length - (intOf i).toNat)
   case atStart=>exact⟨0,A,c,vs,by omega,rfl,rfl,by simpa using V,f⟩
   case round =>
    obtain⟨k,A,c,vs,b3,rfl,rfl,V,f⟩:=hrel
    by_cases aK:k<keys.length
    ·obtain⟨cF,n,hn,bA,a4⟩:=b1 k aK
     obtain⟨g,o,rfl,hg,_⟩:=hk.lies (by omega)
     obtain⟨gi,oi,rfl,bN,_⟩:=hi.lies (by omega)
     have d0:wr.cell? ⟨g,o+k,none⟩=some (.string keys[k]):=(f.cell (p:=⟨g,o+k,none⟩) (zO hg I.size)).trans ((I.cell (p:=⟨g,o+k,none⟩) hg).trans (str_at hk rfl k aK))
     have m:∀W,Below w4.heap.size w4 W->W.cell? ⟨w.heap.size,3,none⟩=some (.slice (some ⟨gi,oi,none⟩) kids.length ci)/\W.cell? ⟨gi,oi+(k+1),none⟩=some (.int .i64 (n:Int)):=λW hW=>by
      refine⟨?_,?_⟩
      ·have b:=b4.below hW b4.lt
       rw[b.cell]
       rfl
      ·rw[<-a4]
       exact(hW.cell (p:=⟨gi,oi+(k+1),none⟩) (zO bN I.size)).trans ((I.cell (p:=⟨gi,oi+(k+1),none⟩) bN).trans (int_at hi rfl (k+1) bA))
     have bD:keyAt keys kids k=bytS keys[k] ++ num n:=by
      unfold keyAt keyB
      rw[List.getD_eq_getElem?_getD,zM aK,List.getD_eq_getElem?_getD,zM bA,Option.getD_some,Option.getD_some,a4]
      rfl
     have bS:(List.range (k+1)).map (keyAt keys kids)=(List.range k).map (keyAt keys kids)++[bytS keys[k] ++ num n]:=by rw[List.range_succ,List.map_append,List.map_singleton,bD]
     have aF:(cells.map celB++(List.range k).map (keyAt keys kids)).length=cells.length+k:=by simp
     generalize keys[k]=s at *
     have b9:=bytS_length s
     have bZ:=num_length n
     obtain⟨kB,aY⟩:∃kB,kB=bytS s++num n:=⟨_,rfl⟩
     generalize bG:cells.map celB++(List.range k).map (keyAt keys kids)=ls at *
     have a0:Hid (cells.map celB++(List.range (k+1)).map (keyAt keys kids)=ls++[kB]):=Lib.hid (by rw[bS,<-List.append_assoc,bG,aY])
     have aJ:=Lib.hid aF
     have cC:IntKind.i64.wrap ((k:Int)+1)=(k:Int)+1:=wrapN _ (by omega) (by omega)
     have cG:(0:Int)<=(k:Int)+1:=by omega
     have cK:(k:Int)+1<(kids.length:Int):=by omega
     have aX:Hid ([bytS s,num n].flatten=kB):=Lib.hid (by rw[aY];simp)
     have bY:kB.length<=1000000000:=by rw[aY,zJ];omega
     have aD:=f.drew
     have qd:=m _ aD
     have bK:Below wr.heap.size wr wr.drew:=(Below.refl _ wr).drew
     clear bD bS aF bG a4 bZ b9 aY
     go_wp2
     go_region_held3 (λW=>W.cell? ⟨w.heap.size,3,none⟩=some (.slice (some ⟨gi,oi,none⟩) kids.length ci)/\W.cell? ⟨gi,oi+(k+1),none⟩=some (.int .i64 (n:Int))) (first|exact qd|exact q5|exact q6|exact q8|exact q9|exact U|exact aT) (first
      | (go_at_call 270;refine(ostr_gives _ s (by omega)).mono ?_;rintro e W5 ⟨v5,rfl,aN,aQ⟩;have O:=bK.trans (aQ.mono bK.size);have q5:=m _ (f.trans (O.mono f.size));obtain⟨A5,c5,rfl,aU⟩:=aN.inB)
      | (go_at_call 214;refine(number12_gives _ n (by omega)).mono ?_;rintro e W6 ⟨v6,rfl,aP,aB⟩;have L:=O.trans (aB.mono O.size);have q6:=m _ (f.trans (L.mono f.size));obtain⟨A6,c6,rfl,aO⟩:=aP.inB;have K:=L.alloc L.size (.cells #[.slice A5 (bytS s).length c5,.slice A6 (num n).length c6] 87);have q8:=m _ (f.trans (K.mono f.size)))
      | (go_at_call 143;have HJ:=join2 aU aO aB aX.out bY;refine HJ.mono ?_;rintro e z ⟨v9,rfl,aH,aV⟩;have H:=K.trans (aV.mono K.size);have q9:=m _ (f.trans (H.mono f.size));obtain⟨N,M,rfl,bH⟩:=aH.inB;have C:=H.alloc H.size (.cells #[.slice N kB.length M] 87);have U:=m _ (f.trans (C.mono f.size));have aG:=V.grow C;have E:=aG.own;rw[aJ.out] at E;have Z:=zU f.size C.size)
      | (refine step_appG rfl elLists (.tmp 44) (.tmp 56) rfl w4.heap.size (.slice A (cells.length+k) c) (cells.length+k) vs rfl E _ _ 1 1 [.slice N kB.length M] rfl (row_one z 87 _ rfl) (by unfold maxLen;omega) (by omega) Z ?_;intro bC G aA F;have bL:=(f.trans (C.mono f.size)).trans (grown_below F Z (ownG_ge E));have aT:=m _ bL))
     go_wp2
     have aR:Below z.heap.size z (z.alloc (.cells #[.slice N kB.length M] 87)):=(Below.refl _ z).alloc (zH _) _
     have aE:=aG.more (ownG_grow aH aR) (by rw[aJ.out];exact aA) F
     obtain⟨aS,aW,rfl,_⟩:=ownG_in aA aE.one
     exact⟨⟨k+1,aS,aW,_,by omega,by simp,by rw[Nat.add_assoc],by rw[a0.out,<-Nat.add_assoc];exact aE,bL⟩,by simp[intOf];omega⟩
    ·obtain rfl:k=keys.length:=by omega
     go_wp2
     go_ret
     have aF:(lotsB ⟨leaf,cells,keys,kids⟩).length=cells.length+keys.length:=by simp[lotsB]
     have b2:w.heap.size<=w4.heap.size:=I.size
     have bW:LotR wr w.heap.size (.slice A (cells.length+keys.length) c) (lotsB ⟨leaf,cells,keys,kids⟩) vs:=⟨ownG_base V.own b2,V.one,V.at_⟩
     exact⟨A,c,vs,by rw[aF];rfl,by rw[aF];exact bW,I.trans (f.mono I.size)⟩
theorem pieces_of {w:World}{A:Option Addr}{c:Nat}{d:List (List UInt8)}{k:List Value}(h:InG w w.heap.size 1 A d.length c k)(f:∀j,(h:j<d.length)->∃A c,k[j]? = some (.slice A d[j].length c)/\InB w w.heap.size A c d[j]) :
  ∃zs:List (Piece w w.heap.size),zs.length=d.length/\zs.map Piece.l=d/\InLL w w.heap.size A c zs:=by
 have key:∀n,n<=d.length->∃zs:List (Piece w w.heap.size),zs.length=n/\zs.map Piece.l=d.take n/\∀j (f:j<zs.length),k[j]? = some zs[j].val:=by
  intro n
  induction n with
  | zero=>exact λ_=>⟨[],rfl,by simp,λj f=>by simp at f⟩
  | succ n ih =>
   intro hn
   obtain⟨zs,h1,h2,i⟩:=ih (by omega)
   obtain⟨A,c,p,q⟩:=f n (by omega)
   refine⟨zs++[⟨((A,c),d[n]),q⟩],by simp[h1],?_,λj f => ?_⟩
   ·rw[List.map_append,h2,zW (by omega)]
    rfl
   ·by_cases e:j<zs.length
    ·rw[List.getElem_append_left e]
     exact i j e
    ·have:j=n:=by simp at f;omega
     subst this
     rw[List.getElem_append_right (by omega)]
     simp only[h1,Nat.sub_self,zB]
     exact p
 obtain⟨zs,h1,h2,i⟩:=key d.length (zH _)
 refine⟨zs,h1,by rw[h2,List.take_length],⟨by rw[h1];exact h.le,h.max,λs => ?_⟩⟩
 obtain⟨g,o,e,m,r⟩:=h.lies (by omega)
 exact⟨g,o,e,m,λj f=>r j _ (i j f)⟩
theorem joinedR_gives {w:World}{base:Nat}{A:Option Addr}{c:Nat}{d:List (List UInt8)}{s:List Value}(h:LotR w base (.slice A d.length c) d s)(hf:d.flatten.length<=1000000000) :
  Calls Tryz.prog 143 #[.slice A d.length c] w (GivesB w d.flatten):=by
 obtain⟨x,c',e,r⟩:=ownG_in h.own h.one
 injection e with e1 g f
 subst e1 f
 obtain⟨zs,m,k,p⟩:=pieces_of r (λj u=>by
  obtain⟨q,c2,g,own⟩:=h.at_ j u
  obtain⟨z,c3,f,n⟩:=OwnB.inB own
  injection f with e31 e32 e33
  subst e31 e33
  exact⟨q,c2,g,n⟩)
 have i:=concat_gives w A c zs p (by rw[k];exact hf)
 rw[m,k] at i
 generalize d.flatten=l at *
 go_enter Tryz.func143,Tryz.ntmps143
 go_wp2_with (go_at_call 137;refine i.mono ?_;rintro e B ⟨v,rfl,own,hB⟩)
 go_ret
 exact⟨v,rfl,own,hB⟩
theorem flat_bound (c:List (List UInt8))(m:Nat)(h:∀l∈c,l.length<=m):c.flatten.length<=c.length*m:=by
 induction c with
 | nil=>simp
 | cons l c ih =>
  have h1:=h l (by simp)
  have h2:=ih (λx d=>h x (by simp[d]))
  rw[List.flatten_cons,zJ,zP,Nat.add_mul]
  omega
def laidB (x:Nod):List UInt8:=(if x.leaf then 1 else 2)::num (lotsB x).length++(if x.leaf then [] else num (x.kids.getD 0 0).toNat)++(lotsB x).flatten
theorem lots_each {x:Nod}(d:RightP x):∀l∈lotsB x,l.length<=200:=by
 obtain⟨leaf,cells,keys,kids⟩:=x
 intro l hl
 rcases qK.1 hl with hl|hl
 ·obtain⟨c,hc,rfl⟩:=List.mem_map.1 hl
  cases leaf with
  | true =>
   have hs:=d.short c.key (List.mem_map.2 ⟨c,hc,rfl⟩)
   exact celB_length (by unfold shortS at hs;simpa using hs) ((d.leaf rfl).2.2 c hc)
  | false =>
   have e:cells=[]:=(d.inner rfl).1
   subst e
   cases hc
 ·obtain⟨j,g,rfl⟩:=List.mem_map.1 hl
  have f:j<keys.length:=by simpa using g
  unfold keyB
  have h2:=num_length (kids.getD (j+1) 0).toNat
  cases leaf with
  | true =>
   have e:keys=[]:=(d.leaf rfl).1
   subst e
   simp at f
  | false =>
   have hs:=d.short keys[j] (qF f)
   have h1:=bytS_length keys[j]
   have e:keys.getD j ByteArray.empty=keys[j]:=by rw[List.getD_eq_getElem?_getD,zM f];rfl
   have h:keys[j].size<=81:=by unfold shortS at hs;simpa using hs
   simp only
   rw[e,zJ]
   omega

def rdN12 (l:List UInt8):Option (Nat×List UInt8) :=
 match rd l with
 | some (n,k)=>if n<=100000 then some (n,l.drop k) else none
 | none=>none
def rdT12 (l:List UInt8):Option (ByteArray×List UInt8) :=
 match rdS l with
 | some (s,k)=>some (str s,l.drop k)
 | none=>none
def rdCel (l:List UInt8):Option (Cel×List UInt8) :=
 match rdT12 l with
 | none=>none
 | some (s,r) =>
  match rdN12 r with
  | none=>none
  | some (p,r2) =>
   if p=0 then
    match rdT12 r2 with
    | none=>none
    | some (v,r3)=>some (⟨s,v,0,0⟩,r3)
   else
    match rdN12 r2 with
    | none=>none
    | some (z,r3)=>some (⟨s,ByteArray.empty,p,z⟩,r3)
def rdKey (l:List UInt8):Option ((ByteArray×Int)×List UInt8) :=
 match rdT12 l with
 | none=>none
 | some (s,r) =>
  match rdN12 r with
  | none=>none
  | some (p,r2)=>some ((s,(p:Int)),r2)
def rdMany {α : Type}(f:List UInt8->Option (α × List UInt8)):Nat->List UInt8->Option (List α × List UInt8)
 | 0,l=>some ([],l)
 | k+1,l =>
  match f l with
  | none=>none
  | some (c,r) =>
   match rdMany f k r with
   | none=>none
   | some (cs,r2)=>some (c::cs,r2)
theorem rdMany_next {α : Type}(f:List UInt8->Option (α × List UInt8)):∀(k:Nat) (d:List UInt8) (cs:List α) (l:List UInt8) (c : α) (r:List UInt8),rdMany f k d=some (cs,l)->f l=some (c,r)->rdMany f (k+1) d=some (cs++[c],r)
 | 0,d,cs,l,c,r,h,hf=>by
  simp only[rdMany,Option.some.injEq,Prod.mk.injEq] at h
  obtain⟨rfl,rfl⟩:=h
  simp[rdMany,hf]
 | k+1,d,cs,l,c,r,h,hf=>by
  rw[rdMany] at h ⊢
  cases g:f d with
  | none=>rw[g] at h;cases h
  | some y =>
   obtain⟨c1,r1⟩:=y
   rw[g] at h
   simp only at h ⊢
   cases e:rdMany f k r1 with
   | none=>rw[e] at h;cases h
   | some z =>
    obtain⟨i,r2⟩:=z
    rw[e] at h
    simp only[Option.some.injEq,Prod.mk.injEq] at h
    obtain⟨rfl,rfl⟩:=h
    rw[rdMany_next f k r1 i r2 c r e hf]
    rfl
theorem rdMany_stop {α : Type}(f:List UInt8->Option (α × List UInt8))(c:List UInt8)(cs:List α)(l:List UInt8)(k:Nat)(h:rdMany f k c=some (cs,l))(hf:f l=none):∀d,rdMany f (k+1+d) c=none:=by
 intro d
 induction k generalizing c cs with
 | zero =>
  simp only[rdMany,Option.some.injEq,Prod.mk.injEq] at h
  obtain⟨rfl,rfl⟩:=h
  rw[show 0+1+d=d+1 from by omega,rdMany,hf]
 | succ k ih =>
  rw[show k+1+1+d=(k+1+d)+1 from by omega,rdMany]
  rw[rdMany] at h
  cases g:f c with
  | none=>rfl
  | some y =>
   obtain⟨c1,r1⟩:=y
   rw[g] at h
   simp only at h ⊢
   cases e:rdMany f k r1 with
   | none=>rw[e] at h;cases h
   | some z =>
    obtain⟨i,r2⟩:=z
    rw[e] at h
    simp only[Option.some.injEq,Prod.mk.injEq] at h
    obtain⟨rfl,rfl⟩:=h
    rw[ih r1 i e]
theorem rdMany_length {α : Type}(f:List UInt8->Option (α × List UInt8)):∀(k:Nat) (c:List UInt8) (cs:List α) (l:List UInt8),rdMany f k c=some (cs,l)->cs.length=k
 | 0,c,cs,l,h=>by
  simp only[rdMany,Option.some.injEq,Prod.mk.injEq] at h
  rw[<-h.1]
  rfl
 | k+1,c,cs,l,h=>by
  rw[rdMany] at h
  cases e:f c with
  | none=>rw[e] at h;cases h
  | some y =>
   obtain⟨c1,r1⟩:=y
   rw[e] at h
   simp only at h
   cases d:rdMany f k r1 with
   | none=>rw[d] at h;cases h
   | some z =>
    obtain⟨g,r2⟩:=z
    rw[d] at h
    simp only[Option.some.injEq,Prod.mk.injEq] at h
    rw[<-h.1,zP,rdMany_length f k r1 g r2 d]
theorem rdN12_less {l r:List UInt8}{n:Nat}(h:rdN12 l=some (n,r)):r.length<l.length/\n<=100000:=by
 unfold rdN12 at h
 cases e:rd l with
 | none=>rw[e] at h;cases h
 | some y =>
  obtain⟨m,k⟩:=y
  rw[e] at h
  simp only at h
  have c:=rd_bound e
  split at h
  ·simp only[Option.some.injEq,Prod.mk.injEq] at h
   obtain⟨rfl,rfl⟩:=h
   rw[qQ]
   omega
  ·cases h
theorem rdT12_less {l r:List UInt8}{s:ByteArray}(h:rdT12 l=some (s,r)):r.length<l.length:=by
 unfold rdT12 rdS at h
 cases e:rd l with
 | none=>rw[e] at h;cases h
 | some y =>
  obtain⟨m,k⟩:=y
  rw[e] at h
  simp only at h
  have c:=rd_bound e
  split at h
  ·rename_i h2
   split at h2
   ·simp only[Option.some.injEq,Prod.mk.injEq] at h h2
    obtain⟨rfl,rfl⟩:=h
    obtain⟨_,h2⟩:=h2
    rw[qQ]
    omega
   ·cases h2
  ·cases h
theorem rdCel_less {l r:List UInt8}{c:Cel}(h:rdCel l=some (c,r)):r.length<l.length:=by
 unfold rdCel at h
 cases e:rdT12 l with
 | none=>rw[e] at h;cases h
 | some y =>
  obtain⟨s,r1⟩:=y
  rw[e] at h
  simp only at h
  have h1:=rdT12_less e
  cases f:rdN12 r1 with
  | none=>rw[f] at h;cases h
  | some z =>
   obtain⟨p,r2⟩:=z
   rw[f] at h
   simp only at h
   have h2:=rdN12_less f
   split at h
   ·cases d:rdT12 r2 with
    | none=>rw[d] at h;cases h
    | some u =>
     obtain⟨v,r3⟩:=u
     rw[d] at h
     simp only[Option.some.injEq,Prod.mk.injEq] at h
     have g:=rdT12_less d
     rw[<-h.2]
     omega
   ·cases d:rdN12 r2 with
    | none=>rw[d] at h;cases h
    | some u =>
     obtain⟨v,r3⟩:=u
     rw[d] at h
     simp only[Option.some.injEq,Prod.mk.injEq] at h
     have g:=rdN12_less d
     rw[<-h.2]
     omega
theorem rdKey_less {l r:List UInt8}{c:ByteArray×Int}(h:rdKey l=some (c,r)):r.length<l.length:=by
 unfold rdKey at h
 cases e:rdT12 l with
 | none=>rw[e] at h;cases h
 | some y =>
  obtain⟨s,r1⟩:=y
  rw[e] at h
  simp only at h
  have h1:=rdT12_less e
  cases d:rdN12 r1 with
  | none=>rw[d] at h;cases h
  | some z =>
   obtain⟨p,r2⟩:=z
   rw[d] at h
   simp only[Option.some.injEq,Prod.mk.injEq] at h
   have h2:=rdN12_less d
   rw[<-h.2]
   omega
theorem rdMany_less {α : Type}{f:List UInt8->Option (α × List UInt8)}(hf:∀l c r,f l=some (c,r)->r.length<l.length):∀(k:Nat) (d:List UInt8) (cs:List α) (l:List UInt8),rdMany f k d=some (cs,l)->cs.length+l.length<=d.length
 | 0,d,cs,l,h=>by
  simp only[rdMany,Option.some.injEq,Prod.mk.injEq] at h
  rw[<-h.1,<-h.2]
  simp
 | k+1,d,cs,l,h=>by
  rw[rdMany] at h
  cases e:f d with
  | none=>rw[e] at h;cases h
  | some y =>
   obtain⟨c1,r1⟩:=y
   rw[e] at h
   simp only at h
   cases g:rdMany f k r1 with
   | none=>rw[g] at h;cases h
   | some z =>
    obtain⟨i,r2⟩:=z
    rw[g] at h
    simp only[Option.some.injEq,Prod.mk.injEq] at h
    have h1:=hf _ _ _ e
    have h2:=rdMany_less hf k r1 i r2 g
    rw[<-h.1,<-h.2,zP]
    omega
def rdRest (leaf:Bool)(l:List UInt8):Option Nod :=
 match rdN12 l with
 | none=>none
 | some (many,r) =>
  if leaf then
   match rdMany rdCel many r with
   | none=>none
   | some (cs,_)=>some ⟨true,cs,[],[]⟩
  else
   match rdN12 r with
   | none=>none
   | some (kid,r2) =>
    match rdMany rdKey many r2 with
    | none=>none
    | some (ks,_)=>some ⟨false,[],ks.map (·.1),(kid:Int)::ks.map (·.2)⟩
def rdNod (b:List UInt8):Option Nod :=
 match rdN12 b with
 | none=>none
 | some (f,r)=>if f=1 then rdRest true r else if f=2 then rdRest false r else none
def FitsIn (x:Nod)(b:List UInt8):Prop:=RightP x/\(laidB x).length<=512/\laidB x++zR (512 - (laidB x).length) 0=b
theorem nlaid_gives (w:World)(x:Nod)(B:Option Addr)(cc:Nat)(A:Option Addr)(C:Nat)(f:Option Addr)(g:Nat)(h:NIs w w.heap.size x B cc A C f g)(hl:x.cells.length<=1000)(bT:x.keys.length<=1000)(bR:x.kids.length<=1001)(hR:RightP x) :
  Calls Tryz.prog 141 #[.agg (nodC x B cc A C f g)] w (GivesB w (laidB x)):=by
 have j:=BlkIs.new w 43 (nodC x B cc A C f g)
 have hB:Below w.heap.size w (w.alloc (.cells (nodC x B cc A C f g) 43)):=(Below.refl _ w).alloc (zH _) _
 have h1:=h.grow hB
 have HC:=check_ok _ x B cc A C f g h1 (by omega) (by omega) (by omega) hR
 have HL:∀W,Below (w.alloc (.cells (nodC x B cc A C f g) 43)).heap.size (w.alloc (.cells (nodC x B cc A C f g) 43)) W->Calls Tryz.prog 206 #[.agg (nodC x B cc A C f g)] W (LotsOut W (lotsB x)):=λW hW=>lots_gives W x B cc A C f g (h1.grow hW) (by omega) (by omega) (by omega) hR
 have a2:(lotsB x).length=x.cells.length+x.keys.length:=by simp[lotsB]
 have bQ:(lotsB x).flatten.length<=1000000:=by
  have:=flat_bound (lotsB x) 200 (lots_each hR)
  omega
 have a1:laidB x=((if x.leaf then 1 else 2)::num (lotsB x).length++(if x.leaf then [] else num (x.kids.getD 0 0).toNat))++(lotsB x).flatten:=rfl
 have aN:x.leaf=false->∃n:Nat,n<=2000/\∃h2:0<x.kids.length,x.kids[0]=(n:Int):=λe=>by
  obtain⟨_,_,bW,hp⟩:=hR.inner e
  have h2:0<x.kids.length:=by omega
  have a5:=hp _ (qF h2)
  simp only[pageB,Bool.and_eq_true,decide_eq_true_eq] at a5
  exact⟨x.kids[0].toNat,by omega,h2,by omega⟩
 rw[a1]
 generalize lotsB x=d at *
 generalize aZ:d.flatten=I at *
 have aB:=Lib.hid aZ
 clear aZ
 have bU:=num_length d.length
 clear a1
 have bI:d.length<=2000:=by omega
 clear a2
 obtain⟨leaf,cells,keys,kids⟩:=x
 unfold nodC at *
 simp only at *
 unfold Void at HC
 cases leaf with
 | true =>
  clear aN
  go_enter Tryz.func141,Tryz.ntmps141
  go_wp2_with (first
   | (refine wp_loadW rfl 43 (.tmp 1) rfl w.heap.size rfl rowNod j (by rfl) ?_)
   | (refine wp_loadW rfl 43 (.tmp 1) rfl w.heap.size rfl rowNod b2 (by rfl) ?_)
   | (go_at_call 213;refine HC.mono ?_;rintro e w2 ⟨⟨v2,rfl⟩,m⟩;have b2:=j.below m j.lt)
   | (go_at_call 206;refine(HL _ m).mono ?_;rintro e c ⟨A3,c3,vs,rfl,aV,aK⟩;have k:=m.trans (aK.mono m.size);have V:=j.below k j.lt))
  have N:Below c.heap.size c (c.alloc (.cells #[.int .u8 2] 5)):=(Below.refl _ c).alloc (zH _) _
  have S:BlkIs (c.alloc (.cells #[.int .u8 2] 5)) c.heap.size 5 (([2]:List UInt8).map b8).toArray:=BlkIs.new c 5 _
  have aU:InB (c.alloc (.cells #[.int .u8 2] 5)) (c.alloc (.cells #[.int .u8 2] 5)).heap.size (some ⟨c.heap.size,0,none⟩) 1 [2]:=S.inB _ S.lt (by decide)
  refine(number12_gives _ d.length (by omega)).mono ?_
  rintro e z ⟨v4,rfl,aM,U⟩
  obtain⟨A4,c4,rfl,aW⟩:=aM.inB
  go_wp2_with fail
  refine(join2 aU aW U rfl (by simp;omega)).mono ?_
  rintro e w5 ⟨v5,rfl,u,aP⟩
  have e5:([[2],num d.length]:List (List UInt8)).flatten=2::num d.length:=by simp
  rw[e5] at u
  have E:Below z.heap.size z (z.alloc (.cells #[.slice (some ⟨c.heap.size,0,none⟩) 1 1,.slice A4 (num d.length).length c4] 87)):=(Below.refl _ z).alloc (zH _) _
  have F:=N.trans (U.mono N.size)
  have r:=F.trans ((E.trans (aP.mono E.size)).mono F.size)
  have O:=V.below r V.lt
  have k0:w5.cell? ⟨w.heap.size,0,none⟩=some (.bool true):=by rw[O.cell];rfl
  have k3:w5.cell? ⟨w.heap.size,3,none⟩=some (.slice f kids.length g):=by rw[O.cell];rfl
  obtain⟨g5,aG,rfl,aO,bG,a8⟩:=u.at_ (by simp)
  have aY:c.heap.size<=g5:=zU (zU F.size E.size) aO
  have aA:=(hB.trans (k.mono hB.size)).trans (r.mono (hB.trans (k.mono hB.size)).size)
  have k5:=u.cell 0 (by simp)
  have f5:=u.free 0
  have bC:(1:Int)<=((2::num d.length:List UInt8).length:Int):=by simp;omega
  have aD:=u.set 0 1 (by decide)
  have e6:(2::num d.length:List UInt8).set 0 (UInt8.ofNat 1)=1::num d.length:=rfl
  rw[e6] at aD
  have aH:Below c.heap.size c (w5.setCell ⟨g5,0,none⟩ (.int .u8 1)):=r.setCell aY _
  have X:Below w.heap.size w (w5.setCell ⟨g5,0,none⟩ (.int .u8 1)):=aA.setCell (by have:=aA.size;have:=(hB.trans (k.mono hB.size)).size;show w.heap.size<=g5;omega) _
  have bK:(2::num d.length:List UInt8).length=(num d.length).length+1:=rfl
  go_wp2_with fail
  have HJ:=joinedR_gives (aV.grow aH) (by rw[aB.out];omega)
  rw[aB.out] at HJ
  refine HJ.mono ?_
  rintro e s ⟨v7,rfl,aS,M⟩
  obtain⟨A7,c7,rfl,aQ⟩:=aS.inB
  obtain⟨A6,c6,aI,aF⟩:=aD.inB
  injection aI with e61 e62 e63
  subst e61 e63
  go_wp2_with fail
  refine(join2 aF aQ M rfl (by simp only[List.flatten_cons,List.flatten_nil,List.append_nil,zJ,zP];omega)).mono ?_
  rintro e w8 ⟨v8,rfl,Z,aL⟩
  have H:Below s.heap.size s (s.alloc (.cells #[.slice (some ⟨g5,0,none⟩) ((1::num d.length:List UInt8)).length aG,.slice A7 I.length c7] 87)):=(Below.refl _ s).alloc (zH _) _
  have G:=X.trans (M.mono X.size)
  have aJ:=G.trans ((H.trans (aL.mono H.size)).mono G.size)
  have e8:([(1::num d.length:List UInt8),I]:List (List UInt8)).flatten=1::(num d.length++I):=by simp
  rw[e8] at Z
  go_wp2
  go_ret
  exact⟨v8,rfl,OwnB.base Z (zU G.size H.size),aJ⟩
 | false =>
  obtain⟨q,hq,aE,aC⟩:=aN rfl
  clear aN
  go_enter Tryz.func141,Tryz.ntmps141
  go_wp2_with (first
   | (refine wp_loadW rfl 43 (.tmp 1) rfl w.heap.size rfl rowNod j (by rfl) ?_)
   | (refine wp_loadW rfl 43 (.tmp 1) rfl w.heap.size rfl rowNod b2 (by rfl) ?_)
   | (go_at_call 213;refine HC.mono ?_;rintro e w2 ⟨⟨v2,rfl⟩,m⟩;have b2:=j.below m j.lt)
   | (go_at_call 206;refine(HL _ m).mono ?_;rintro e c ⟨A3,c3,vs,rfl,aV,aK⟩;have k:=m.trans (aK.mono m.size);have V:=j.below k j.lt))
  have N:Below c.heap.size c (c.alloc (.cells #[.int .u8 2] 5)):=(Below.refl _ c).alloc (zH _) _
  have S:BlkIs (c.alloc (.cells #[.int .u8 2] 5)) c.heap.size 5 (([2]:List UInt8).map b8).toArray:=BlkIs.new c 5 _
  have aU:InB (c.alloc (.cells #[.int .u8 2] 5)) (c.alloc (.cells #[.int .u8 2] 5)).heap.size (some ⟨c.heap.size,0,none⟩) 1 [2]:=S.inB _ S.lt (by decide)
  refine(number12_gives _ d.length (by omega)).mono ?_
  rintro e z ⟨v4,rfl,aM,U⟩
  obtain⟨A4,c4,rfl,aW⟩:=aM.inB
  go_wp2_with fail
  refine(join2 aU aW U rfl (by simp;omega)).mono ?_
  rintro e w5 ⟨v5,rfl,u,aP⟩
  have e5:([[2],num d.length]:List (List UInt8)).flatten=2::num d.length:=by simp
  rw[e5] at u
  have E:Below z.heap.size z (z.alloc (.cells #[.slice (some ⟨c.heap.size,0,none⟩) 1 1,.slice A4 (num d.length).length c4] 87)):=(Below.refl _ z).alloc (zH _) _
  have F:=N.trans (U.mono N.size)
  have r:=F.trans ((E.trans (aP.mono E.size)).mono F.size)
  have O:=V.below r V.lt
  have k0:w5.cell? ⟨w.heap.size,0,none⟩=some (.bool false):=by rw[O.cell];rfl
  have k3:w5.cell? ⟨w.heap.size,3,none⟩=some (.slice f kids.length g):=by rw[O.cell];rfl
  obtain⟨g5,aG,rfl,aO,bG,a8⟩:=u.at_ (by simp)
  have aY:c.heap.size<=g5:=zU (zU F.size E.size) aO
  have aA:=(hB.trans (k.mono hB.size)).trans (r.mono (hB.trans (k.mono hB.size)).size)
  obtain⟨gi,oi,rfl,bB,_⟩:=h1.i.lies aE
  have d0:w5.cell? ⟨gi,oi,none⟩=some (.int .i64 (q:Int)):=by
   have h2:=int_at h1.i rfl 0 aE
   rw[aC] at h2
   have a3:=k.trans (r.mono k.size)
   exact(a3.cell (p:=⟨gi,oi,none⟩) bB).trans h2
  have bC:(1:Int)<=(kids.length:Int):=by omega
  have bO:(0:Int)<(kids.length:Int):=by omega
  have e0:kids.getD 0 0=(q:Int):=by rw[List.getD_eq_getElem?_getD,zM aE,Option.getD_some,aC]
  have a9:=Lib.hid aC
  have bS:=num_length q
  clear e0 aC
  obtain⟨bP,bN,a6,bD⟩:=u.inB
  injection a6 with e51 e52 e53
  subst e51 e53
  go_wp2_with fail
  refine(number12_gives _ q (by omega)).mono ?_
  rintro e wa ⟨va,rfl,bA,aR⟩
  obtain⟨Aa,ca,rfl,a4⟩:=bA.inB
  go_wp2_with fail
  refine(join2 bD a4 aR rfl (by simp only[List.flatten_cons,List.flatten_nil,List.append_nil,zJ,zP];omega)).mono ?_
  rintro e wb ⟨vb,rfl,aT,a7⟩
  have eb:([(2::num d.length:List UInt8),num q]:List (List UInt8)).flatten=2::(num d.length++num q):=by simp
  obtain⟨K,L⟩:∃K:List UInt8,K=2::(num d.length++num q):=⟨_,rfl⟩
  rw[eb,<-L] at aT
  have bJ:K.length<=21:=by rw[L];simp;omega
  have bH:0<K.length:=by rw[L];simp
  have bF:=Lib.hid L
  clear L
  have aX:Below wa.heap.size wa (wa.alloc (.cells #[.slice (some ⟨g5,0,none⟩) (2::num d.length:List UInt8).length aG,.slice Aa (num q).length ca] 87)):=(Below.refl _ wa).alloc (zH _) _
  have a0:=aR.trans ((aX.trans (a7.mono aX.size)).mono aR.size)
  have aH:=r.trans (a0.mono r.size)
  have X:=aA.trans (a0.mono aA.size)
  obtain⟨gq,bE,rfl,bM,bV,bL⟩:=aT.at_ bH
  have aD:=aT
  go_wp2_with fail
  have HJ:=joinedR_gives (aV.grow aH) (by rw[aB.out];omega)
  rw[aB.out] at HJ
  refine HJ.mono ?_
  rintro e s ⟨v7,rfl,aS,M⟩
  obtain⟨A7,c7,rfl,aQ⟩:=aS.inB
  obtain⟨A6,c6,aI,aF⟩:=aD.inB
  injection aI with e61 e62 e63
  subst e61 e63
  go_wp2_with fail
  refine(join2 aF aQ M rfl (by simp only[List.flatten_cons,List.flatten_nil,List.append_nil,zJ];omega)).mono ?_
  rintro e w8 ⟨v8,rfl,Z,aL⟩
  have H:Below s.heap.size s (s.alloc (.cells #[.slice (some ⟨gq,0,none⟩) (K).length bE,.slice A7 I.length c7] 87)):=(Below.refl _ s).alloc (zH _) _
  have G:=X.trans (M.mono X.size)
  have aJ:=G.trans ((H.trans (aL.mono H.size)).mono G.size)
  have e8:([K,I]:List (List UInt8)).flatten=2::(num d.length++(num q++I)):=by rw[bF.out];simp
  rw[e8] at Z
  go_wp2
  go_ret
  refine⟨v8,rfl,?_,aJ⟩
  have ek:kids[0].toNat=q:=by rw[a9.out];rfl
  rw[ek]
  exact OwnB.base Z (zU G.size H.size)
theorem caught_idle (p f:Value)(w:World) :
  CallsD Tryz.prog 139 #[p,f] .returning w λe c w'=>e = .returned (.tuple #[])/\c = .returning/\w'=w:=by
 refine callsD_of_wpS Tryz.func139 rfl λd cs hu => ?_
 apply wpS_seq
 apply wpS_region
 simp[wpOpsS,go_sem,recoverD,hu,Tryz.ntmps139,Exit.thenS]
 apply wpS_seq
 apply wpS_region
 simp[wpOpsS,go_sem,Exit.thenS]
 refine wpS_cond (t:=false) (by simp[Act.eval,Array.replicate]) ?_
 simp only[Bool.false_eq_true,if_false]
 refine wpS_of_wp (wp_skip ?_)
 cases d
 simp_all [bodyPostS,results,Tryz.results139]
theorem bytes_ok (w:World)(x:Nod)(g:Option Addr)(cc:Nat)(i:Option Addr)(j:Nat)(d:Option Addr)(c:Nat)(h:NIs w w.heap.size x g cc i j d c)(hl:x.cells.length<=1000)(K:x.keys.length<=1000)(F:x.kids.length<=1001)(E:RightP x) :
  Calls Tryz.prog 153 #[.agg (nodC x g cc i j d c)] w λe w'=>e = .returned (.tuple #[.int .i64 ((laidB x).length:Int),.int .i64 0])/\Below w.heap.size w w':=by
 have C:∀W,Below w.heap.size w W->Calls Tryz.prog 141 #[.agg (nodC x g cc i j d c)] W (GivesB W (laidB x)):=λW H=>nlaid_gives W x g cc i j d c (h.grow H) hl K F E
 generalize laidB x=lb at *
 have A:=BlkIs.new w 43 (nodC x g cc i j d c)
 have O:∀(fn:Fn) (first B:Array Value) (w:World),(Instr.makeFunc fn first B).run Tryz.prog w = .ok (.func fn first B) w:=λ_ _ _ _=>rfl
 unfold nodC at *
 obtain⟨W1,k⟩:∃W1,W1=((w.alloc (.cells #[.bool x.leaf,.slice g x.cells.length cc,.slice i x.keys.length j,.slice d x.kids.length c] 43)).alloc (.cells #[.int .i64 0] 3)).alloc (.cells #[.int .i64 0] 27):=⟨_,rfl⟩
 have G:BlkIs W1 w.heap.size 43 #[.bool x.leaf,.slice g x.cells.length cc,.slice i x.keys.length j,.slice d x.kids.length c]:=by rw[k];exact(A.alloc _).alloc _
 have z:BlkIs W1 (w.heap.size+1) 3 #[.int .i64 0]:=by
  have:=BlkIs.new (w.alloc (.cells #[.bool x.leaf,.slice g x.cells.length cc,.slice i x.keys.length j,.slice d x.kids.length c] 43)) 3 #[.int .i64 0]
  rw[World.size_alloc] at this
  rw[k]
  exact this.alloc _
 have u:BlkIs W1 (w.heap.size+1+1) 27 #[.int .i64 0]:=by
  have:=BlkIs.new ((w.alloc (.cells #[.bool x.leaf,.slice g x.cells.length cc,.slice i x.keys.length j,.slice d x.kids.length c] 43)).alloc (.cells #[.int .i64 0] 3)) 27 #[.int .i64 0]
  rw[World.size_alloc,World.size_alloc] at this
  rw[k]
  exact this
 have r:Below w.heap.size w W1:=by rw[k];exact(((Below.refl _ w).alloc (zH _) _).alloc (by simp) _).alloc (by simp;omega) _
 have N:=Lib.hid k
 clear k A
 go_enter_defers Tryz.func153,Tryz.ntmps153
 go_wp2_with (first
  | (rw[<-N.out];refine wp_loadW rfl 43 (.tmp 1) rfl w.heap.size rfl rowNod G (by rfl) ?_)
  | (go_at_call 141;refine(C _ r).mono ?_;rintro e m ⟨v,rfl,own,n⟩;obtain⟨Z,c2,rfl,S⟩:=own.inB;have s:=z.below n z.lt;have q:=u.below n u.lt;have k2:=s.boxed;have k3:=q.boxed;have U:=s.free 0;have f3:=q.free 0))
 refine leaves_cons (f:=139) (args:=#[.pointer (some ⟨w.heap.size+1+1,0,none⟩),.func (.func 220) #[] #[.pointer (some ⟨w.heap.size+1,0,none⟩)]]) (by simp) (by simp[go_sem]) ?_
 refine(caught_idle _ _ _).mono ?_
 rintro e u' X ⟨rfl,rfl,rfl⟩
 have I:((m.setCell ⟨w.heap.size+1,0,none⟩ (.int .i64 (lb.length:Int))).setCell ⟨w.heap.size+1+1,0,none⟩ (.int .i64 0)).cell? ⟨w.heap.size+1,0,none⟩=some (.int .i64 (lb.length:Int)):=((s.set 0 _).other (p:=⟨w.heap.size+1+1,0,none⟩) (by simp) _).boxed
 have L:((m.setCell ⟨w.heap.size+1,0,none⟩ (.int .i64 (lb.length:Int))).setCell ⟨w.heap.size+1+1,0,none⟩ (.int .i64 0)).cell? ⟨w.heap.size+1+1,0,none⟩=some (.int .i64 0):=((q.other (p:=⟨w.heap.size+1,0,none⟩) (by simp) _).set 0 _).boxed
 have M:Below w.heap.size w ((m.setCell ⟨w.heap.size+1,0,none⟩ (.int .i64 (lb.length:Int))).setCell ⟨w.heap.size+1+1,0,none⟩ (.int .i64 0)):=((r.trans (n.mono r.size)).setCell (by simp) _).setCell (by simp;omega) _
 generalize (m.setCell ⟨w.heap.size+1,0,none⟩ (.int .i64 (lb.length:Int))).setCell ⟨w.heap.size+1+1,0,none⟩ (.int .i64 0)=V at *
 simp[Leaves,settle,results,Tryz.results153,go_sem,I,L]
 exact M
theorem x_makeU (w:World)(n:Nat)(hn:n<=1000000) :
  (Instr.makeSlice 87 (.int .i64 (n:Int)) (.int .i64 (n:Int))).run Tryz.prog w = .ok (.slice (some ⟨w.heap.size,0,none⟩) n n) (w.alloc (.cells ((zR n (0:UInt8)).map b8).toArray 5)):=by
 have h:=run_make_row' (P:=Tryz.prog) 87 5 (.int .u8 0) 1 Tryz.underlying87 inf_u8 rfl .i64 .i64 n (by omega) (by omega) w
 have e:madeCells #[Value.int .u8 0] n=((zR n (0:UInt8)).map b8).toArray:=by
  apply Array.toList_inj.1
  rw[toList_madeCells_one]
  simp[b8]
 rw[e] at h
 exact h
theorem ownB_set {w:World}{base r:Nat}{v:Value}{l:List UInt8}(h:OwnB w base v l)(d:r<base)(i:Nat)(u:Value):OwnB (w.setCell ⟨r,i,none⟩ u) base v l :=
 World.ownsRow.kept h (grownBy_set w r i u) (by
  cases c:v.ownBlock with
  | none=>exact .inl rfl
  | some b=>exact .inr (λe=>by injection e with e;have:=h.ownGe b c;omega))
def EncOut (w:World)(lb:List UInt8)(e:Ending)(w':World):Prop:=∃A c,e = .returned (.tuple #[.slice A 512 c,.int .i64 0])/\InB w' w'.heap.size A c (lb++zR (512 - lb.length) 0)/\Below w.heap.size w w'
theorem encode_ok (w:World)(x:Nod)(k:Option Addr)(cc:Nat)(g:Option Addr)(n:Nat)(d:Option Addr)(j:Nat)(h:NIs w w.heap.size x k cc g n d j)(hl:x.cells.length<=1000)(aP:x.keys.length<=1000)(aM:x.kids.length<=1001)(hR:RightP x)(aV:(laidB x).length<=512) :
  Calls Tryz.prog 86 #[.agg (nodC x k cc g n d j)] w (EncOut w (laidB x)):=by
 have HL:∀W,Below w.heap.size w W->Calls Tryz.prog 141 #[.agg (nodC x k cc g n d j)] W (GivesB W (laidB x)):=λW E=>nlaid_gives W x k cc g n d j (h.grow E) hl aP aM hR
 generalize laidB x=lb at *
 have b0:=BlkIs.new w 43 (nodC x k cc g n d j)
 have aT:∀(fn:Fn) (first aE:Array Value) (w:World),(Instr.makeFunc fn first aE).run Tryz.prog w = .ok (.func fn first aE) w:=λ_ _ _ _=>rfl
 unfold nodC at *
 obtain⟨W1,z⟩:∃W1,W1=((w.alloc (.cells #[.bool x.leaf,.slice k x.cells.length cc,.slice g x.keys.length n,.slice d x.kids.length j] 43)).alloc (.cells #[.slice none 0 0] 87)).alloc (.cells #[.int .i64 0] 27):=⟨_,rfl⟩
 have b1:BlkIs W1 w.heap.size 43 #[.bool x.leaf,.slice k x.cells.length cc,.slice g x.keys.length n,.slice d x.kids.length j]:=by rw[z];exact(b0.alloc _).alloc _
 have b2:BlkIs W1 (w.heap.size+1) 87 #[.slice none 0 0]:=by
  have:=BlkIs.new (w.alloc (.cells #[.bool x.leaf,.slice k x.cells.length cc,.slice g x.keys.length n,.slice d x.kids.length j] 43)) 87 #[.slice none 0 0]
  rw[World.size_alloc] at this
  rw[z]
  exact this.alloc _
 have b3:BlkIs W1 (w.heap.size+1+1) 27 #[.int .i64 0]:=by
  have:=BlkIs.new ((w.alloc (.cells #[.bool x.leaf,.slice k x.cells.length cc,.slice g x.keys.length n,.slice d x.kids.length j] 43)).alloc (.cells #[.slice none 0 0] 87)) 27 #[.int .i64 0]
  rw[World.size_alloc,World.size_alloc] at this
  rw[z]
  exact this
 have O:Below w.heap.size w W1:=by rw[z];exact(((Below.refl _ w).alloc (zH _) _).alloc (by simp) _).alloc (by simp;omega) _
 have aA:=Lib.hid z
 clear z b0
 go_enter_defers Tryz.func86,Tryz.ntmps86
 have aN:(lb.length:Int)<=512:=by omega
 have aL:IntKind.i64.wrap (512 - (lb.length:Int))=((512 - lb.length:Nat):Int):=by rw[wrapN _ (by omega) (by omega)];omega
 go_wp2_with (first
  | (rw[<-aA.out];refine wp_loadW rfl 43 (.tmp 1) rfl w.heap.size rfl rowNod b1 (by rfl) ?_)
  | (go_at_call 141;refine(HL _ O).mono ?_;rintro e H ⟨v,rfl,own,G⟩;obtain⟨c,c2,rfl,aY⟩:=own.inB;have M:=b2.below G b2.lt;have I:=b3.below G b3.lt;have k2:=M.boxed;have k3:=I.boxed;have f2:=M.free 0;have f3:=I.free 0)
  | (go_at_call 142;refine(must_ok _ _).mono ?_;rintro e w7 ⟨⟨v7,rfl⟩,rfl⟩))
 have aW:W1.heap.size=w.heap.size+3:=by rw[aA.out,World.size_alloc,World.size_alloc,World.size_alloc]
 have aR:=O.trans (G.mono O.size)
 have own2:OwnB (H.setCell ⟨w.heap.size+1,0,none⟩ (.slice c lb.length c2)) W1.heap.size (.slice c lb.length c2) lb :=
  ownB_set own (by omega) 0 _
 have v2:=M.set 0 (.slice c lb.length c2)
 have v3:=I.other (p:=⟨w.heap.size+1,0,none⟩) (by simp) (.slice c lb.length c2)
 have aC:Below w.heap.size w (H.setCell ⟨w.heap.size+1,0,none⟩ (.slice c lb.length c2)):=aR.setCell (by simp) _
 generalize H.setCell ⟨w.heap.size+1,0,none⟩ (.slice c lb.length c2)=V at *
 obtain⟨aU,aQ,aI,aS⟩:=own2.inB
 injection aI with e21 e22 e23
 subst e21 e23
 obtain⟨m,B⟩:∃m,m=512 - lb.length:=⟨_,rfl⟩
 rw[<-B] at aL
 have A:∀W,Below V.heap.size V W->W.cell? ⟨w.heap.size+1,0,none⟩=some (.slice c lb.length c2)/\W.cell? ⟨w.heap.size+1+1,0,none⟩=some (.int .i64 0)/\W.frozen? ⟨w.heap.size+1,0,none⟩=false/\W.frozen? ⟨w.heap.size+1+1,0,none⟩=false:=λW E=>by
  have x2:=v2.below E v2.lt
  have x3:=v3.below E v3.lt
  exact⟨by rw[x2.cell];rfl,by rw[x3.cell];rfl,x2.free 0,x3.free 0⟩
 have K:Below V.heap.size V V.drew:=(Below.refl _ V).drew
 have qd:=A _ K
 obtain⟨W5,s⟩:∃W5,W5=V.drew.alloc (.cells ((zR m (0:UInt8)).map b8).toArray 5):=⟨_,rfl⟩
 have L:Below V.heap.size V W5:=by rw[s];exact K.alloc K.size _
 have q5:=A _ L
 have aD:InB W5 W5.heap.size (some ⟨V.heap.size,0,none⟩) (zR m (0:UInt8)).length (zR m (0:UInt8)):=by
  have h:=(BlkIs.new V.drew 5 ((zR m (0:UInt8)).map b8).toArray).inB (l:=zR m (0:UInt8)) W5.heap.size (by rw[s,World.size_alloc];exact Nat.lt_succ_self _) (by simp;omega)
  rw[<-s] at h
  exact h
 have N:=join2 (aS.drew) aD (by rw[s];exact(Below.refl _ V.drew).alloc (zH _) _) (show [lb,zR m (0:UInt8)].flatten=lb++zR m 0 by simp) (by simp;omega)
 rw[List.length_replicate] at N aD
 have aB:(lb++zR m (0:UInt8)).length=512:=by rw[zJ,List.length_replicate];omega
 have aK:Hid (lb++zR (512 - lb.length) (0:UInt8)=lb++zR m (0:UInt8)):=Lib.hid (by rw[<-B])
 generalize lb++zR m (0:UInt8)=full at *
 have X:=x_makeU V.drew m (by omega)
 rw[<-s] at X
 have U:V.drew.heap.size=V.heap.size:=rfl
 rw[U] at X
 have aF:=Lib.hid aB
 have aX:=Lib.hid s
 have HM:=Lib.hid B
 have r:=L.alloc L.size (.cells #[.slice c lb.length c2,.slice (some ⟨V.heap.size,0,none⟩) m m] 87)
 have q6:=A _ r
 clear s B U aB
 obtain⟨d1,d2,d3,d4⟩:=qd
 obtain⟨c1,aQ,c3,c4⟩:=q5
 obtain⟨r1,r2,r3,r4⟩:=q6
 refine wp_region_noPanic ?_
 go_region_law (first
  | (go_at_call 143;refine N.mono ?_;rintro e u ⟨v7,rfl,F,C⟩;obtain⟨y1,y2,y3,y4⟩:=A _ (r.trans (C.mono r.size));obtain⟨q,i,rfl,aO⟩:=F.inB)
  | (go_simp;go_at_call 143;refine N.mono ?_;rintro e u ⟨v7,rfl,F,C⟩;obtain⟨y1,y2,y3,y4⟩:=A _ (r.trans (C.mono r.size));obtain⟨q,i,rfl,aO⟩:=F.inB))
 all_goals
  refine NoPanic.normal ?_
  go_wp2
  refine leaves_cons (f:=139) (args:=#[.pointer (some ⟨w.heap.size+1+1,0,none⟩),.func (.func 140) #[] #[.pointer (some ⟨w.heap.size+1,0,none⟩)]]) (by simp) (by simp[go_sem]) ?_
  refine(caught_idle _ _ _).mono ?_
  rintro e u' aZ ⟨rfl,rfl,rfl⟩
  have S:=r.trans (C.mono r.size)
  have z2:=v2.below S v2.lt
  have z3:=v3.below S v3.lt
  have q2:((u.setCell ⟨w.heap.size+1,0,none⟩ (.slice q full.length i)).setCell ⟨w.heap.size+1+1,0,none⟩ (.int .i64 0)).cell? ⟨w.heap.size+1,0,none⟩=some (.slice q full.length i):=((z2.set 0 _).other (p:=⟨w.heap.size+1+1,0,none⟩) (by simp) _).boxed
  have q3:((u.setCell ⟨w.heap.size+1,0,none⟩ (.slice q full.length i)).setCell ⟨w.heap.size+1+1,0,none⟩ (.int .i64 0)).cell? ⟨w.heap.size+1+1,0,none⟩=some (.int .i64 0):=((z3.other (p:=⟨w.heap.size+1,0,none⟩) (by simp) _).set 0 _).boxed
  have aN:W1.heap.size<=V.heap.size:=by have:=v3.lt;omega
  have U:V.heap.size<=(W5.alloc (.cells #[.slice c lb.length c2,.slice (some ⟨V.heap.size,0,none⟩) m m] 87)).heap.size:=r.size
  have aG:OwnB ((u.setCell ⟨w.heap.size+1,0,none⟩ (.slice q full.length i)).setCell ⟨w.heap.size+1+1,0,none⟩ (.int .i64 0)) (W5.alloc (.cells #[.slice c lb.length c2,.slice (some ⟨V.heap.size,0,none⟩) m m] 87)).heap.size (.slice q full.length i) full :=
   ownB_set (ownB_set F (by omega) 0 _) (by omega) 0 _
  have aJ:Below w.heap.size w ((u.setCell ⟨w.heap.size+1,0,none⟩ (.slice q full.length i)).setCell ⟨w.heap.size+1+1,0,none⟩ (.int .i64 0)):=((aC.trans (S.mono aC.size)).setCell (by simp) _).setCell (by simp;omega) _
  obtain⟨A9,c9,e9,aH⟩:=aG.inB
  injection e9 with e91 e92 e93
  subst e91 e93
  generalize (u.setCell ⟨w.heap.size+1,0,none⟩ (.slice q full.length i)).setCell ⟨w.heap.size+1+1,0,none⟩ (.int .i64 0)=Z at *
  simp[Leaves,settle,results,Tryz.results86,go_sem,q2,q3]
  rw[aF.out]
  exact⟨q,i,rfl,by rw[aK.out];exact aH,aJ⟩
def gave (e:Int)(r:Bool):PanicEntry:={ v:=.iface 27 (.int .i64 e),recovered:=r }
theorem must_no (w:World)(e:Int):Calls Tryz.prog 142 #[.bool false,.int .i64 e] w λc w'=>c = .panicked [gave e false]/\w=w':=by
 go_enter Tryz.func142,Tryz.ntmps142
 go_wp2
 exact⟨rfl,rfl,rfl⟩
@[local go_sem] theorem as_errno (v:Value) (w:World):(Instr.typeAssert (.iface 27 v) 20 27 false).run Tryz.prog w = .ok v w:=by kernel_rfl

theorem below_grownB {w w':World}(h:Below w.heap.size w w')(r:Nat):w.grownBy w' (some r):=⟨h.os,h.tape,h.output,h.size,λk c _=>h.block k c⟩
theorem grownB_trans {a b c:World}{row:Option Nat}(h1:a.grownBy b row)(h2:b.grownBy c row):a.grownBy c row :=
 ⟨h2.os.trans h1.os,h2.tape.trans h1.tape,h2.output.trans h1.output,zU h1.size h2.size,λk e d=>(h2.block k (zO e h1.size) d).trans (h1.block k e d)⟩
theorem must_gives (w:World)(b:Bool)(n:Int):Calls Tryz.prog 142 #[.bool b,.int .i64 n] w λe w'=>w=w'/\(b=true->∃v,e = .returned v)/\(b=false->e = .panicked [gave n false]):=by
 cases b with
 | true=>exact(must_ok w n).mono λe w' h=>⟨h.2,λ_=>h.1,(λe=>by cases e)⟩
 | false=>exact(must_no w n).mono λe w' h=>⟨h.2,(λe=>by cases e),λ_=>h.1⟩
def RdIs (w:World)(q B:Nat)(l:List UInt8):Prop:=∃A c,BlkIs w q 232 #[.slice A l.length c]/\InB w B A c l
theorem InB.rest {w:World}{B g o c:Nat}{l:List UInt8}(h:InB w B (some ⟨g,o,none⟩) c l)(k:Nat)(m:k<l.length):InB w B (some ⟨g,o+k,none⟩) (l.length - k) (l.drop k):=by
 have h1:=h.le
 have h2:=h.max
 refine⟨by rw[qQ];exact zH _,by omega,(λe=>by cases e),λ_ => ?_⟩
 obtain⟨i,o',e,d,hc⟩:=h.lies (by omega)
 injection e with e
 injection e with e1 e2
 subst e1 e2
 refine⟨g,o+k,rfl,d,λj f => ?_⟩
 rw[qQ] at f
 rw[Nat.add_assoc,hc (k+j) (by omega),List.getElem_drop]
theorem InB.none_left {w:World}{B g o:Nat}:InB w B (some ⟨g,o,none⟩) 0 []:=⟨zH _,by omega,(λe=>by cases e),λh=>by cases h⟩
theorem cut_no (w:World)(q:Nat)(k e:Int)(f:¬ e=0):Calls Tryz.prog 286 #[.pointer (some ⟨q,0,none⟩),.int .i64 k,.int .i64 e] w λd w'=>d = .panicked [gave 220 false]/\w=w':=by
 go_enter Tryz.func286,Tryz.ntmps286
 go_wp2_with (go_at_call 142;refine(must_gives _ _ _).mono ?_;rintro e g ⟨rfl,c⟩;obtain rfl:=c.2 (by simp[f]))
 exact⟨rfl,rfl,rfl⟩
theorem cut_ok (w:World)(q B:Nat)(l:List UInt8)(h:RdIs w q B l)(hq:B<=q)(k:Nat)(N:k<=l.length)(hl:0<l.length):Calls Tryz.prog 286 #[.pointer (some ⟨q,0,none⟩),.int .i64 (k:Int),.int .i64 0] w λx w'=>(∃v,x = .returned v)/\RdIs w' q B (l.drop k)/\w.grownBy w' (some q):=by
 obtain⟨A,c,m,j⟩:=h
 obtain⟨g,o,rfl,E,_⟩:=j.lies hl
 have L:=j.le
 have M:=j.max
 have c0:=m.boxed
 have C:=m.free 0
 have X:(0:Int)<=(k:Int):=by omega
 have O:(k:Int)<=(l.length:Int):=by omega
 have U:(l.length:Int)<=(c:Int):=by omega
 have V:((l.length:Int) - (k:Int)).toNat=l.length - k:=by omega
 have Z:¬ c<k:=by omega
 have G:k<=c:=by omega
 have F:¬ c<l.length:=by omega
 obtain⟨ok,i⟩:∃ok,ok=if l.length=k then o else o+k:=⟨_,rfl⟩
 have H:∀W:World,W.cell? ⟨q,0,none⟩=some (.slice (some ⟨g,o,none⟩) l.length c)->W.cell? ⟨q,0,none⟩=some (.slice (some ⟨g,o,none⟩) l.length c):=λ_ h=>h
 have s:=Lib.hid j
 have n:=Lib.hid i
 clear j
 go_enter Tryz.func286,Tryz.ntmps286
 go_wp2_with (go_at_call 142;refine(must_gives _ _ _).mono ?_;rintro e S ⟨rfl,u⟩;obtain⟨v7,rfl⟩:=u.1 (by simp))
 have d:w.drew.cell? ⟨q,0,none⟩=some (.slice (some ⟨g,o,none⟩) l.length c):=c0
 clear c0 i
 refine RegF.start (λW=>W.cell? ⟨q,0,none⟩=some (.slice (some ⟨g,o,none⟩) l.length c)) 19 (by kernel_rfl) ?_
 refine RegF.t 0 (.pointer (some ⟨q,0,none⟩)) rfl d (λW f=>by go_simp) ?_
 simp only[zE,zB,Act.put,zA,zG,zF]
 refine RegF.t 1 (.pointer (some ⟨q,0,none⟩)) rfl d (λW f=>by go_simp) ?_
 simp only[zE,zD,zB,Act.put,zA,zG,zF]
 refine RegF.t 2 (.pointer (some ⟨q,0,none⟩)) rfl d (λW f=>by go_simp) ?_
 simp only[zE,zD,zB,Act.put,zA,zG,zF]
 refine RegF.t 3 (.pointer (some ⟨q,0,none⟩)) rfl d (λW f=>by go_simp) ?_
 simp only[zE,zD,zB,Act.put,zA,zG,zF]
 refine RegF.t 4 (.slice (some ⟨g,o,none⟩) l.length c) rfl d (λW f=>by go_simp) ?_
 simp only[zE,zD,zB,Act.put,zA,zG,zF]
 refine RegF.t 5 (.int .i64 (k:Int)) rfl d (λW f=>by go_simp) ?_
 simp only[zE,zD,zB,Act.put,zA,zG,zF]
 refine RegF.t 6 (.pointer (some ⟨q,0,none⟩)) rfl d (λW f=>by go_simp) ?_
 simp only[zE,zD,zB,Act.put,zA,zG,zF]
 refine RegF.t 7 (.pointer (some ⟨q,0,none⟩)) rfl d (λW f=>by go_simp) ?_
 simp only[zE,zD,zB,Act.put,zA,zG,zF]
 refine RegF.t 8 (.pointer (some ⟨q,0,none⟩)) rfl d (λW f=>by go_simp) ?_
 simp only[zE,zD,zB,Act.put,zA,zG,zF]
 refine RegF.t 9 (.slice (some ⟨g,o,none⟩) l.length c) rfl d (λW f=>by go_simp) ?_
 simp only[zE,zD,zB,Act.put,zA,zG,zF]
 refine RegF.t 10 (.int .i64 (l.length:Int)) rfl d (λW f=>by go_simp) ?_
 simp only[zE,zD,zB,Act.put,zA,zG,zF]
 refine RegF.t 11 (.pointer (some ⟨q,0,none⟩)) rfl d (λW f=>by go_simp) ?_
 simp only[zE,zD,zB,Act.put,zA,zG,zF]
 refine RegF.t 12 (.pointer (some ⟨q,0,none⟩)) rfl d (λW f=>by go_simp) ?_
 simp only[zE,zD,zB,Act.put,zA,zG,zF]
 refine RegF.t 13 (.pointer (some ⟨q,0,none⟩)) rfl d (λW f=>by go_simp) ?_
 simp only[zE,zD,zB,Act.put,zA,zG,zF]
 refine RegF.t 14 (.slice (some ⟨g,o,none⟩) l.length c) rfl d (λW f=>by go_simp) ?_
 simp only[zE,zD,zB,Act.put,zA,zG,zF]
 refine RegF.t 15 (.int .i64 (l.length:Int)) rfl d (λW f=>by go_simp) ?_
 simp only[zE,zD,zB,Act.put,zA,zG,zF]
 refine RegF.t 16 (.slice (some ⟨g,ok,none⟩) (l.length - k) (l.length - k)) rfl d (λW f=>by have i:=n.out;by_cases z:l.length=k<;>simp only[z,if_true,if_false] at i<;>subst i<;>go_simp) ?_
 simp only[zE,zD,zB,Act.put,zA,zG,zF]
 refine RegF.one 17 (by kernel_rfl) ?_
 refine RegF.opV (.pointer (some ⟨q,0,none⟩)) rfl rfl (by go_simp) ⟨λ_=>d,?_⟩
 simp only[zE,zD,zB,Act.put,zA,zG,zF]
 refine RegF.one 18 (by kernel_rfl) ?_
 refine RegF.opV (.pointer (some ⟨q,0,none⟩)) rfl rfl (by go_simp) ⟨λ_=>d,?_⟩
 simp only[zE,zD,zB,Act.put,zA,zG,zF]
 have c0:w.drew.cell? ⟨q,0,none⟩=some (.slice (some ⟨g,o,none⟩) l.length c):=d
 have K:w.drew.frozen? ⟨q,0,none⟩=false:=C
 refine RegF.one 19 (by kernel_rfl) ?_
 refine RegF.opS (w':=World.setCell w.drew ⟨q,0,none⟩ (.slice (some ⟨g,ok,none⟩) (l.length - k) (l.length - k))) rfl rfl (by go_simp) ⟨λh=>absurd rfl h,?_⟩
 simp only[zE,zD,zB,Act.put]
 refine RegF.done (by kernel_rfl) ?_
 go_wp2
 go_end0
 refine⟨⟨_,rfl⟩,⟨some ⟨g,ok,none⟩,l.length - k,?_,?_⟩,?_⟩
 ·rw[qQ]
  exact m.drew.set 0 _
 ·have j:=s.out
  have i:=n.out
  have r:InB w B (some ⟨g,ok,none⟩) (l.length - k) (l.drop k):=by
   by_cases e:l.length=k
   ·rw[if_pos e] at i
    subst i
    rw[<-e,List.drop_length,Nat.sub_self]
    exact InB.none_left
   ·rw[if_neg e] at i
    subst i
    exact j.rest k (by omega)
  exact r.keep λp I=>Below.cell (B:=q) ((Below.refl q w).drew.setCell (by simp) _) (by omega)
 ·exact grownB_trans (below_grownB (Below.refl _ w).drew q) (grownBy_set _ q 0 _)
def RdOut {α : Type}(val : α -> Value)(r:Option (α × List UInt8))(q B:Nat)(w:World)(e:Ending)(w':World):Prop :=
 w.grownBy w' (some q)/\match r with
  | some (a,l)=>e = .returned (val a)/\RdIs w' q B l
  | none=>e = .panicked [gave 220 false]
theorem rdN12_some {l:List UInt8}{n k:Nat}(h:rd l=some (n,k))(hn:n<=100000):rdN12 l=some (n,l.drop k):=by unfold rdN12;rw[h];simp only;rw[if_pos hn]
theorem rdN12_big {l:List UInt8}{n k:Nat}(h:rd l=some (n,k))(hn:¬ n<=100000):rdN12 l=none:=by unfold rdN12;rw[h];simp only;rw[if_neg hn]
theorem rdN12_none {l:List UInt8}(h:rd l=none):rdN12 l=none:=by unfold rdN12;rw[h]
theorem rd_pos {l:List UInt8}{n k:Nat}(h:rd l=some (n,k)):0<l.length:=by have:=rd_bound h;omega
theorem rnum_gives (w:World)(q B:Nat)(l:List UInt8)(h:RdIs w q B l)(hq:B<=q):Calls Tryz.prog 217 #[.pointer (some ⟨q,0,none⟩)] w (RdOut (λn:Nat => .int .i64 (n:Int)) (rdN12 l) q B w):=by
 have E:=h
 obtain⟨A,c,g,i⟩:=E
 have f:=readNumber_gives w B A c l i
 have c0:=g.boxed
 unfold RdOut
 have C:=below_grownB (Below.refl w.heap.size w) q
 cases d:rd l with
 | none =>
  rw[rdV_none d] at f
  rw[rdN12_none d]
  clear d i g h
  go_enter Tryz.func217,Tryz.ntmps217
  go_wp2_with (first
   | (go_at_call 285;refine f.mono ?_;rintro e W ⟨rfl,rfl⟩)
   | (go_at_call 286;refine(cut_no _ q _ 130 (by decide)).mono ?_;rintro e W ⟨rfl,rfl⟩))
  exact⟨rfl,C,rfl⟩
 | some y =>
  obtain⟨n,k⟩:=y
  have hl:=rd_pos d
  have m:=rd_bound d
  rw[rdV_some d] at f
  have s:=cut_ok w q B l h hq k m.2.2 hl
  by_cases hn:n<=100000
  ·rw[rdN12_some d hn]
   have u:(n:Int)<=100000:=by omega
   have F:IntKind.i64.wrap (n:Int)=(n:Int):=wrapN _ (by omega) (by omega)
   clear d i g h hn m hl
   go_enter Tryz.func217,Tryz.ntmps217
   go_wp2_with (first
    | (go_at_call 285;refine f.mono ?_;rintro e W ⟨rfl,rfl⟩)
    | (go_at_call 286;refine s.mono ?_;rintro e z ⟨⟨v2,rfl⟩,r,j⟩)
    | (go_at_call 142;refine(must_gives _ _ _).mono ?_;rintro e x ⟨rfl,p⟩;obtain⟨G,rfl⟩:=p.1 (by simp)))
   go_ret
   exact⟨j,rfl,r⟩
  ·rw[rdN12_big d hn]
   have u:¬ (n:Int)<=100000:=by omega
   clear d i g h m hl
   go_enter Tryz.func217,Tryz.ntmps217
   go_wp2_with (first
    | (go_at_call 285;refine f.mono ?_;rintro e W ⟨rfl,rfl⟩)
    | (go_at_call 286;refine s.mono ?_;rintro e z ⟨⟨v2,rfl⟩,r,j⟩)
    | (go_at_call 142;refine(must_gives _ _ _).mono ?_;rintro e x ⟨rfl,p⟩;obtain rfl:=p.2 (decide_eq_false (by omega))))
   exact⟨rfl,j,rfl⟩
theorem rdT12_none {l:List UInt8}(h:rdS l=none):rdT12 l=none:=by unfold rdT12;rw[h]
theorem rdT12_some {l:List UInt8}{s:List UInt8}{k:Nat}(h:rdS l=some (s,k)):rdT12 l=some (str s,l.drop k):=by unfold rdT12;rw[h]
theorem rdS_bound {l:List UInt8}{s:List UInt8}{k:Nat}(h:rdS l=some (s,k)):k<=l.length/\0<l.length:=by
 unfold rdS at h
 cases e:rd l with
 | none=>rw[e] at h;cases h
 | some y =>
  obtain⟨m,j⟩:=y
  rw[e] at h
  simp only at h
  have c:=rd_bound e
  split at h
  ·simp only[Option.some.injEq,Prod.mk.injEq] at h
   omega
  ·cases h
theorem rdSV_none {l:List UInt8}(h:rdS l=none):rdSV l = .tuple #[.string (str []),.int .i64 0,.int .i64 130]:=by unfold rdSV;rw[h]
theorem rdSV_some {l:List UInt8}{s:List UInt8}{k:Nat}(h:rdS l=some (s,k)):rdSV l = .tuple #[.string (str s),.int .i64 (k:Int),.int .i64 0]:=by unfold rdSV;rw[h]
theorem rtext_gives (w:World)(q B:Nat)(l:List UInt8)(h:RdIs w q B l)(hq:B<=q):Calls Tryz.prog 219 #[.pointer (some ⟨q,0,none⟩)] w (RdOut Value.string (rdT12 l) q B w):=by
 have x:=h
 obtain⟨A,c,g,j⟩:=x
 have z:=g.lt
 have m:=readString_gives w A c l (j.more (by omega))
 have c0:=g.boxed
 unfold RdOut
 cases f:rdS l with
 | none =>
  rw[rdSV_none f] at m
  rw[rdT12_none f]
  clear f j g h
  go_enter Tryz.func219,Tryz.ntmps219
  go_wp2_with (first
   | (go_at_call 287;refine m.mono ?_;rintro e i ⟨rfl,d⟩)
   | (go_at_call 286;refine(cut_no _ q _ 130 (by decide)).mono ?_;rintro e W ⟨rfl,rfl⟩))
  exact⟨rfl,below_grownB d q,rfl⟩
 | some y =>
  obtain⟨s,k⟩:=y
  have n:=rdS_bound f
  rw[rdSV_some f] at m
  rw[rdT12_some f]
  have u:∀i,Below w.heap.size w i->_:=λi d=>cut_ok i q B l ⟨A,c,g.below d g.lt,j.below (d.mono (by omega))⟩ hq k n.1 n.2
  clear f j g h
  go_enter Tryz.func219,Tryz.ntmps219
  go_wp2_with (first
   | (go_at_call 287;refine m.mono ?_;rintro e i ⟨rfl,d⟩)
   | (go_at_call 286;refine(u _ d).mono ?_;rintro e C ⟨⟨v2,rfl⟩,r,p⟩))
  go_ret
  exact⟨grownB_trans (below_grownB d q) p,rfl,r⟩
end Go.Proofs.YtpibjkbadnffgaaGreat
