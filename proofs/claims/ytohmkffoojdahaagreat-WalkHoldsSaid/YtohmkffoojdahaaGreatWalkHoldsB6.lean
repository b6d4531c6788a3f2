/- Texts that the proof of WalkHolds leans on, part 6. -/
import Derived.Lib.Overlaps
import Derived.Test.YtohmkffoojdahaaGreatWalkHoldsB5
open List renaming replicate->zP
set_option linter.unusedVariables false
set_option linter.unusedSimpArgs false
set_option maxRecDepth 100000
set_option maxHeartbeats 8000000

open ByteArray renaming empty->oR
open Go renaming Calls->pr,Addr->px,Operand->py,execOp->oB,TypeId->oD,maxLen->oo,Ending->dT
open Go.Act renaming put->pj
open Go.Builtin renaming copy_->dI,zeroCells->gK
open Go.Deferred renaming ofValue->nh
open Go.Result renaming andThen->pv
open Go.RowKit renaming Below->ph
open Go.Value renaming slice->dW
open Go.World renaming setRow->oe,setCell->oh
open Go.Proofs.Tryz renaming prog->Y3
open Go.Proofs.Tryz
namespace Go.Proofs.YtohmkffoojdahaaGreat
section
open Go Go.RowKit vA
def jO (w:World)(q B:Nat)(l:Y4):Prop:=∃A c,za w q 298 #[.slice A l.length c]/\qq w B A c l
theorem qq.rest {w:World}{B g o c:Nat}{l:Y4}(h:qq w B (some ⟨g,o,none⟩) c l)(k:Nat)(u:k<l.length):qq w B (some ⟨g,o+k,none⟩) (l.length-k) (l.drop k):=by
 have h1:=h.le;have h2:=h.max;refine⟨by rw[qD];exact zG _,by omega,(λe=>by cases e),λ_ => ?_⟩;obtain⟨r,o',e,d,hc⟩:=h.rC (by omega);injection e with e
 injection e with e1 e2
 subst e1 e2;refine⟨g,o+k,rfl,d,λj f => ?_⟩;rw[qD] at f;rw[dq,hc (k+j) (by omega),List.getElem_drop]
theorem Dr {w:World}{B g o:Nat}:qq w B (some ⟨g,o,none⟩) 0 []:=⟨zG _,by omega,(λe=>by cases e),λh=>by cases h⟩
theorem BM (w:World)(q:Nat)(k e:Int)(f:¬ e=0):pr Y3 314 #[.pointer (some ⟨q,0,none⟩),.int .i64 k,.int .i64 e] w λc w'=>c=.panicked [TT 220 false]/\w=w':=by
 go_enter func314,ntmps314
 go_wp2_with (go_at_call 152;refine(yr _ _ _).mono ?_;rintro e g ⟨rfl,d⟩;obtain rfl:=d.2 (by simp[f]))
 exact⟨rfl,rfl,rfl⟩
theorem BL (w:World)(q B:Nat)(l:Y4)(h:jO w q B l)(hq:B<=q)(k:Nat)(P:k<=l.length)(hl:0<l.length):pr Y3 314 #[.pointer (some ⟨q,0,none⟩),.int .i64 (k:Int),.int .i64 0] w λF w'=>(∃v,F=.returned v)/\jO w' q B (l.drop k)/\w.grownBy w' (some q):=by
 obtain⟨A,c,u,r⟩:=h;obtain⟨g,o,rfl,O,_⟩:=r.rC hl;have U:=r.le;have c0:=u.boxed;have G:=u.free 0;have X:(0:Int)<=(k:Int):=by omega
 have Z:(k:Int)<=(l.length:Int):=by omega
 have i3:(l.length:Int)<=(c:Int):=by omega
 have i5:¬ c<k:=by omega
 have i6:k<=c:=by omega
 obtain⟨ok,j⟩:=Z9 (if l.length=k then o else o+k)
 have N:∀W:World,W.cell? ⟨q,0,none⟩=some (.slice (some ⟨g,o,none⟩) l.length c)->W.cell? ⟨q,0,none⟩=some (.slice (some ⟨g,o,none⟩) l.length c):=λ_ h=>h
 have E:=pk r;have C:=pk j;clear r
 go_enter func314,ntmps314
 go_wp2_with (go_at_call 152;refine(yr _ _ _).mono ?_;rintro e w7 ⟨rfl,H⟩;obtain⟨v7,rfl⟩:=H.1 (by simp))
 have d:w.drew.cell? ⟨q,0,none⟩=some (.slice (some ⟨g,o,none⟩) l.length c):=c0;clear c0 j;refine zb.st (λW=>W.cell? ⟨q,0,none⟩=some (.slice (some ⟨g,o,none⟩) l.length c)) 19 ?_;refine zb.q 0 (.pointer (some ⟨q,0,none⟩)) d ?_;refine zb.q 1 (.pointer (some ⟨q,0,none⟩)) d ?_;refine zb.q 2 (.pointer (some ⟨q,0,none⟩)) d ?_;refine zb.q 3 (.pointer (some ⟨q,0,none⟩)) d ?_;refine zb.q 4 (.slice (some ⟨g,o,none⟩) l.length c) d ?_;refine zb.q 5 (.int .i64 (k:Int)) d ?_;refine zb.q 6 (.pointer (some ⟨q,0,none⟩)) d ?_;refine zb.q 7 (.pointer (some ⟨q,0,none⟩)) d ?_;refine zb.q 8 (.pointer (some ⟨q,0,none⟩)) d ?_;refine zb.q 9 (.slice (some ⟨g,o,none⟩) l.length c) d ?_;refine zb.q 10 (.int .i64 (l.length:Int)) d ?_;refine zb.q 11 (.pointer (some ⟨q,0,none⟩)) d ?_;refine zb.q 12 (.pointer (some ⟨q,0,none⟩)) d ?_;refine zb.q 13 (.pointer (some ⟨q,0,none⟩)) d ?_;refine zb.q 14 (.slice (some ⟨g,o,none⟩) l.length c) d ?_;refine zb.q 15 (.int .i64 (l.length:Int)) d ?_;refine zb.t 16 (.slice (some ⟨g,ok,none⟩) (l.length-k) (l.length-k)) rfl d (λW f=>by have j:=C.out;by_cases L:l.length=k<;>simp only[L,if_true,if_false] at j<;>subst j<;>go_simp) ?_;simp only[Z8];refine zb.n 17 ?_;refine zb.opV (.pointer (some ⟨q,0,none⟩)) rfl rfl (by go_simp) ⟨λ_=>d,?_⟩;simp only[Z8];refine zb.n 18 ?_;refine zb.opV (.pointer (some ⟨q,0,none⟩)) rfl rfl (by go_simp) ⟨λ_=>d,?_⟩;simp only[Z8];have c0:w.drew.cell? ⟨q,0,none⟩=some (.slice (some ⟨g,o,none⟩) l.length c):=d;have M:w.drew.frozen? ⟨q,0,none⟩=false:=G;refine zb.n 19 ?_;refine zb.opS (w':=oh w.drew ⟨q,0,none⟩ (.slice (some ⟨g,ok,none⟩) (l.length-k) (l.length-k))) rfl rfl (by go_simp) ⟨λh=>absurd rfl h,?_⟩;simp only[zD,zC,zB,pj];refine zb.dn ?_;go_wp2;go_end0;refine⟨⟨_,rfl⟩,⟨some ⟨g,ok,none⟩,l.length-k,?_,?_⟩,?_⟩
 ·rw[qD];exact u.drew.set 0 _
 ·have r:=E.out;have j:=C.out;have I:qq w B (some ⟨g,ok,none⟩) (l.length-k) (l.drop k):=by
   by_cases e:l.length=k
   ·rw[if_pos e] at j;subst j;rw[<-e,List.drop_length,Nat.sub_self];exact Dr
   ·rw[if_neg e] at j;subst j;exact r.rest k (by omega)
  exact I.rE λp V=>Below.cell (B:=q) ((pf q w).drew.setCell (by simp) _) (by omega)
 ·exact jF (Qd (pf _ w).drew q) (vt _ q 0 _)
def QI {α : Type}(val : α -> Value)(r:Option (α × Y4))(q B:Nat)(w:World)(e:dT)(w':World):Prop :=
 w.grownBy w' (some q)/\match r with
  | some (a,l)=>e=Y0 (val a)/\jO w' q B l
  | none=>e=.panicked [TT 220 false]
theorem GZ {l:Y4}{n k:Nat}(h:rd l=some (n,k))(hn:n<=100000):xP l=some (n,l.drop k):=by unfold xP;rw[h];simp only;rw[if_pos hn]
theorem Eu {l:Y4}{n k:Nat}(h:rd l=some (n,k))(hn:¬ n<=100000):xP l=none:=by unfold xP;rw[h];simp only;rw[if_neg hn]
theorem Ps {l:Y4}(h:rd l=none):xP l=none:=by unfold xP;rw[h]
theorem uM {l:Y4}{n k:Nat}(h:rd l=some (n,k)):0<l.length:=by have:=Yw h;omega
theorem vp (w:World)(q B:Nat)(l:Y4)(h:jO w q B l)(hq:B<=q):pr Y3 275 #[.pointer (some ⟨q,0,none⟩)] w (QI (λn:Nat => .int .i64 (n:Int)) (xP l) q B w):=by
 have G:=h;obtain⟨A,c,g,j⟩:=G;have f:=Yv w B A c l j;have c0:=g.boxed;unfold QI;have H:=Qd (pf w.heap.size w) q;cases d:rd l with
 | none =>
  rw[KK d] at f;rw[Ps d];clear d j g h
  go_enter func275,ntmps275
  go_wp2_with (first
   | (go_at_call 313;refine f.mono ?_;rintro e W ⟨rfl,rfl⟩)
   | (go_at_call 314;refine(BM _ q _ 130 (by decide)).mono ?_;rintro e W ⟨rfl,rfl⟩))
  exact⟨rfl,H,rfl⟩
 | some y =>
  obtain⟨n,k⟩:=y;have hl:=uM d;have u:=Yw d;rw[GW d] at f;have C:=BL w q B l h hq k u.2.2 hl
  by_cases hn:n<=100000
  ·rw[GZ d hn];have F:(n:Int)<=100000:=by omega
   have N:IntKind.i64.wrap (n:Int)=(n:Int):=xd _;clear d j g h hn u hl
   go_enter func275,ntmps275
   go_wp2_with (first
    | (go_at_call 313;refine f.mono ?_;rintro e W ⟨rfl,rfl⟩)
    | (go_at_call 314;refine C.mono ?_;rintro e L ⟨⟨I,rfl⟩,E,v⟩)
    | (go_at_call 152;refine(yr _ _ _).mono ?_;rintro e M ⟨rfl,r⟩;obtain⟨O,rfl⟩:=r.1 (by simp[F])))
   go_ret;exact⟨v,rfl,E⟩
  ·rw[Eu d hn];have F:¬ (n:Int)<=100000:=by omega
   clear d j g h u hl
   go_enter func275,ntmps275
   go_wp2_with (first
    | (go_at_call 313;refine f.mono ?_;rintro e W ⟨rfl,rfl⟩)
    | (go_at_call 314;refine C.mono ?_;rintro e L ⟨⟨I,rfl⟩,E,v⟩)
    | (go_at_call 152;refine(yr _ _ _).mono ?_;rintro e M ⟨rfl,r⟩;obtain rfl:=r.2 (decide_eq_false (by omega))))
   exact⟨rfl,v,rfl⟩
theorem Pp {l:Y4}(h:Pq l=none):jk l=none:=by unfold jk;rw[h]
theorem GX {l:Y4}{s:Y4}{k:Nat}(h:Pq l=some (s,k)):jk l=some (Jz s,l.drop k):=by unfold jk;rw[h]
theorem Er {l:Y4}{s:Y4}{k:Nat}(h:Pq l=some (s,k)):k<=l.length/\0<l.length:=by
 unfold Pq at h;cases e:rd l with
 | none=>rw[e] at h;cases h
 | some y =>
  obtain⟨m,j⟩:=y;rw[e] at h;simp only at h;have c:=Yw e;split at h
  ·simp only[od,Prod.mk.injEq] at h;omega
  ·cases h
theorem Et {l:Y4}(h:Pq l=none):GY l=.tuple #[.string (Jz []),.int .i64 0,.int .i64 130]:=by unfold GY;rw[h]
theorem Es {l:Y4}{s:Y4}{k:Nat}(h:Pq l=some (s,k)):GY l=.tuple #[.string (Jz s),.int .i64 (k:Int),.int .i64 0]:=by unfold GY;rw[h]
theorem ZC (w:World)(q B:Nat)(l:Y4)(h:jO w q B l)(hq:B<=q):pr Y3 277 #[.pointer (some ⟨q,0,none⟩)] w (QI Value.string (jk l) q B w):=by
 have E:=h;obtain⟨A,c,g,u⟩:=E;have H:=g.lt;have r:=VE w A c l (u.more (by omega));have c0:=g.boxed;unfold QI;cases f:Pq l with
 | none =>
  rw[Et f] at r;rw[Pp f];clear f u g h
  go_enter func277,ntmps277
  go_wp2_with (first
   | (go_at_call 315;refine r.mono ?_;rintro e j ⟨rfl,d⟩)
   | (go_at_call 314;refine(BM _ q _ 130 (by decide)).mono ?_;rintro e W ⟨rfl,rfl⟩))
  exact⟨rfl,Qd d q,rfl⟩
 | some y =>
  obtain⟨s,k⟩:=y;have v:=Er f;rw[Es f] at r;rw[GX f];have C:∀j,ph w.heap.size w j->_:=λj d=>BL j q B l ⟨A,c,g.below d g.lt,u.below (d.mono (by omega))⟩ hq k v.1 v.2
  clear f u g h
  go_enter func277,ntmps277
  go_wp2_with (first
   | (go_at_call 315;refine r.mono ?_;rintro e j ⟨rfl,d⟩)
   | (go_at_call 314;refine(C _ d).mono ?_;rintro e L ⟨⟨I,rfl⟩,F,G⟩))
  go_ret;exact⟨jF (Qd d q) G,rfl,F⟩
structure Bq (n q:Nat)(w w':World):Prop where
 os:w'.os=w.os
 tape:w'.tape=w.tape
 output:w'.output=w.output
 size:w.heap.size<=w'.heap.size
 block:∀k,k<n->k≠q->w'.heap[k]?=w.heap[k]?
theorem Bq.of {n q:Nat}{w w':World}(h:ph n w w'):Bq n q w w':=⟨h.os,h.tape,h.output,h.size,λk c _=>h.block k c⟩
theorem Bq.trans {n q:Nat}{a b c:World}(h:Bq n q a b)(k:Bq n q b c):Bq n q a c:=⟨k.os.trans h.os,k.tape.trans h.tape,k.output.trans h.output,zT h.size k.size,λj h1 h2=>(k.block j h1 h2).trans (h.block j h1 h2)⟩
theorem Bq.call {n q:Nat}{a b c:World}(h:Bq n q a b)(hn:n<=b.heap.size)(d:b.grownBy c (some q)):Bq n q a c :=
 h.trans ⟨d.os,d.tape,d.output,d.size,λj h1 h2=>d.block j (by omega) (λe=>h2 (by injection e))⟩
theorem Bq.setRow {n q:Nat}{a b:World}(h:Bq n q a b){g:Nat}(c:n<=g)(cs:Y7):Bq n q a (b.setRow g cs):=h.trans (.of (zf (pf n b) c cs))
theorem Bq.grown {q:Nat}{w w':World}(h:Bq w.heap.size q w w'):w.grownBy w' (some q):=⟨h.os,h.tape,h.output,h.size,λk c d=>h.block k c (λe=>d (by rw[e]))⟩
theorem jO.rJ {w w':World}{q B n:Nat}{l:Y4}(h:jO w q B l)(hB:ph n w w')(hq:q<n)(d:B<=n):jO w' q B l:=by
 obtain⟨A,c,h1,h2⟩:=h;exact⟨A,c,h1.below hB hq,h2.below (hB.mono d)⟩
theorem jO.lt {w:World}{q B:Nat}{l:Y4}(h:jO w q B l):q<w.heap.size:=by
 obtain⟨A,c,h1,_⟩:=h;exact h1.lt
theorem Ki (w:World)(cs:Y7):∃W,((w.alloc (.cells #[.string {data:=#[]},.string {data:=#[]},.int .i64 0,.int .i64 0] 94)).setRow w.heap.size cs)=W/\za W w.heap.size 94 cs/\ph w.heap.size w W :=
 ⟨_,rfl,(za.new w 94 #[.string {data:=#[]},.string {data:=#[]},.int .i64 0,.int .i64 0]).setRow cs,zf ((pf _ w).alloc (zG _) _) (zG _) cs⟩
theorem zy {v0 v1 d v3:Value}(f:v0.oneCell'=true)(h1:v1.oneCell'=true)(h2:d.oneCell'=true)(g:v3.oneCell'=true):∀v∈(#[v0,v1,d,v3]:Y7).toList,v.oneCell'=true:=by
 intro v c;simp at c;rcases c with rfl|rfl|rfl|rfl<;>assumption
theorem SS (w:World)(q B:Nat)(l:Y4)(h:jO w q B l)(hq:B<=q):pr Y3 276 #[.pointer (some ⟨q,0,none⟩)] w (QI (λc:xK => .agg (zm c).toArray) (kH l) q B w):=by
 have aG:=h.lt;have U:ph w.heap.size w (w.alloc (.cells #[.string {data:=#[]},.string {data:=#[]},.int .i64 0,.int .i64 0] 94)):=(pf _ w).alloc (zG _) _;have p1:=za.new w 94 #[.string {data:=#[]},.string {data:=#[]},.int .i64 0,.int .i64 0];have h1:=h.rJ U aG (by omega);have g1:Bq w.heap.size q w (w.alloc (.cells #[.string {data:=#[]},.string {data:=#[]},.int .i64 0,.int .i64 0] 94)):=.of U;have s1:=pq w (.cells #[.string {data:=#[]},.string {data:=#[]},.int .i64 0,.int .i64 0] 94);have F:=ZC _ q B l h1 hq;unfold QI at F ⊢;unfold kH;cases P:jk l with
 | none =>
  rw[P] at F;simp only at F ⊢;clear P s1
  go_enter func276,ntmps276
  go_wp2_with fail
  refine F.mono ?_;rintro e w2 ⟨k,rfl⟩;exact⟨rfl,(g1.call U.size k).grown,rfl⟩
 | some y =>
  obtain⟨s,r⟩:=y;rw[P] at F;simp only at F ⊢;have M:=λW (hW:jO W q B r)=>vp W q B r hW hq
  unfold QI at M;cases V:xP r with
  | none =>
   rw[V] at M;simp only at M ⊢;clear P V s1
   go_enter func276,ntmps276
   go_wp2_with fail
   refine F.mono ?_;rintro e w2 ⟨k,rfl,h2⟩
   go_wp2_with fail
   refine(M _ h2).mono ?_;rintro e d ⟨E,rfl⟩;have C:=g1.call U.size k;exact⟨rfl,(C.call C.size E).grown,rfl⟩
  | some z =>
   obtain⟨p,r2⟩:=z;rw[V] at M;simp only at M ⊢;have HE:∀(v:ByteArray) (z:Int) (W:World) (e:dT) (r3:Y4),e=Y0 (.agg #[.string s,.string v,.int .i64 (p:Int),.int .i64 z])->jO W q B r3->(e=Y0 (.agg (zm ⟨s,v,p,z⟩).toArray)/\jO W q B r3):=λv z W e r3 he hr=>⟨he,hr⟩
   by_cases hp:p=0
   case pos =>
    subst hp;simp only[if_true];have f:=λW (hW:jO W q B r2)=>ZC W q B r2 hW hq
    unfold QI at f;cases N:jk r2 with
    | none =>
     rw[N] at f;simp only at f ⊢;clear P V N
     go_enter func276,ntmps276
     go_wp2_with fail
     refine F.mono ?_;rintro e w2 ⟨k,rfl,h2⟩
     go_wp2_with fail
     refine(M _ h2).mono ?_;rintro e d ⟨E,rfl,g⟩;have C:=g1.call U.size k;have G:=C.call C.size E;have aA:=jF k E;have A:za d w.heap.size 94 #[.string {data:=#[]},.string {data:=#[]},.int .i64 0,.int .i64 0]:=p1.grown aA (λe=>by injection e;omega);have n3:=za.new d 94 #[.string {data:=#[]},.string {data:=#[]},.int .i64 0,.int .i64 0];have aB:w.heap.size<d.heap.size:=A.lt;have aE:¬ w.heap.size=d.heap.size:=by omega
     go_wp2_with (first
      | (refine zt rfl 94 (.tmp 3) (.tmp 8) rfl d.heap.size rfl rfl qt n3 rfl rfl (zy rfl rfl rfl rfl) ?_;obtain⟨W4,I,O,j⟩:=Ki d #[.string s,.string {data:=#[]},.int .i64 0,.int .i64 0];rw[I];clear I;have aH:W4.cell? ⟨d.heap.size,2,none⟩=some (.int .i64 0):=(by rw[O.cell];rfl);have X:=g.rJ j g.lt (by have:=g.lt;omega);have aC:=A.below j A.lt;have H:Bq w.heap.size q w W4:=G.trans (.of (j.mono G.size))))
     refine(f _ X).mono ?_;rintro e w5 ⟨L,rfl⟩;exact⟨rfl,(H.call H.size L).grown,rfl⟩
    | some u =>
     obtain⟨v,r3⟩:=u;rw[N] at f;simp only at f ⊢;clear P V N
     go_enter func276,ntmps276
     go_wp2_with fail
     refine F.mono ?_;rintro e w2 ⟨k,rfl,h2⟩
     go_wp2_with fail
     refine(M _ h2).mono ?_;rintro e d ⟨E,rfl,g⟩;have C:=g1.call U.size k;have G:=C.call C.size E;have aA:=jF k E;have A:za d w.heap.size 94 #[.string {data:=#[]},.string {data:=#[]},.int .i64 0,.int .i64 0]:=p1.grown aA (λe=>by injection e;omega);have n3:=za.new d 94 #[.string {data:=#[]},.string {data:=#[]},.int .i64 0,.int .i64 0];have aB:w.heap.size<d.heap.size:=A.lt;have aE:¬ w.heap.size=d.heap.size:=by omega
     go_wp2_with (first
      | (refine zt rfl 94 (.tmp 3) (.tmp 8) rfl d.heap.size rfl rfl qt n3 rfl rfl (zy rfl rfl rfl rfl) ?_;obtain⟨W4,I,O,j⟩:=Ki d #[.string s,.string {data:=#[]},.int .i64 0,.int .i64 0];rw[I];clear I;have aH:W4.cell? ⟨d.heap.size,2,none⟩=some (.int .i64 0):=(by rw[O.cell];rfl);have X:=g.rJ j g.lt (by have:=g.lt;omega);have aC:=A.below j A.lt;have H:Bq w.heap.size q w W4:=G.trans (.of (j.mono G.size))))
     refine(f _ X).mono ?_;rintro e w5 ⟨L,rfl,h5⟩;have aF:q<d.heap.size:=by omega
     have n5:=O.grown L (λe=>by injection e;omega);have aI:=aC.grown L (λe=>by injection e;omega);have g5:=H.call H.size L;have c5:w5.cell? ⟨d.heap.size,1,none⟩=some (.string {data:=#[]}):=by rw[n5.cell];rfl
     have f5:=n5.free 1;have n6:=n5.set 1 (.string v);have Z:ph d.heap.size w5 (w5.setCell ⟨d.heap.size,1,none⟩ (.string v)):=(pf _ w5).setCell (by simp) _;have aD:=aI.below Z aB;have h6:=h5.rJ Z aF (by omega);have g6:Bq w.heap.size q w (w5.setCell ⟨d.heap.size,1,none⟩ (.string v)):=g5.trans (.of (Z.mono (by omega)));simp only[zA,zF,zE] at n6;have b7:=aD.setRow #[.string s,.string v,.int .i64 0,.int .i64 0];have g7:=g6.setRow (zG w.heap.size) #[.string s,.string v,.int .i64 0,.int .i64 0];have h7:=h6.rJ (zf (pf w.heap.size _) (zG _) #[.string s,.string v,.int .i64 0,.int .i64 0]) aG (by omega)
     go_wp2_with (first
      | (refine xA qt n6 ?_)
      | (refine zt rfl 94 (.tmp 2) (.tmp 18) rfl w.heap.size rfl rfl qt aD rfl rfl (zy rfl rfl rfl rfl) ?_))
     exact oE (yM 2 rfl rfl qt b7 rfl) rfl ⟨g7.grown,rfl,h7⟩
   case neg =>
    simp only[if_neg hp];have aJ:¬ (p:Int)=0:=by omega
    have f:=λW (hW:jO W q B r2)=>vp W q B r2 hW hq
    unfold QI at f;cases N:xP r2 with
    | none =>
     rw[N] at f;simp only at f ⊢;clear P V N
     go_enter func276,ntmps276
     go_wp2_with fail
     refine F.mono ?_;rintro e w2 ⟨k,rfl,h2⟩
     go_wp2_with fail
     refine(M _ h2).mono ?_;rintro e d ⟨E,rfl,g⟩;have C:=g1.call U.size k;have G:=C.call C.size E;have aA:=jF k E;have A:za d w.heap.size 94 #[.string {data:=#[]},.string {data:=#[]},.int .i64 0,.int .i64 0]:=p1.grown aA (λe=>by injection e;omega);have n3:=za.new d 94 #[.string {data:=#[]},.string {data:=#[]},.int .i64 0,.int .i64 0];have aB:w.heap.size<d.heap.size:=A.lt;have aE:¬ w.heap.size=d.heap.size:=by omega
     go_wp2_with (first
      | (refine zt rfl 94 (.tmp 3) (.tmp 8) rfl d.heap.size rfl rfl qt n3 rfl rfl (zy rfl rfl rfl rfl) ?_;obtain⟨W4,I,O,j⟩:=Ki d #[.string s,.string {data:=#[]},.int .i64 (p:Int),.int .i64 0];rw[I];clear I;have aH:W4.cell? ⟨d.heap.size,2,none⟩=some (.int .i64 (p:Int)):=(by rw[O.cell];rfl);have X:=g.rJ j g.lt (by have:=g.lt;omega);have aC:=A.below j A.lt;have H:Bq w.heap.size q w W4:=G.trans (.of (j.mono G.size))))
     refine(f _ X).mono ?_;rintro e w5 ⟨L,rfl⟩;exact⟨rfl,(H.call H.size L).grown,rfl⟩
    | some u =>
     obtain⟨v,r3⟩:=u;rw[N] at f;simp only at f ⊢;clear P V N
     go_enter func276,ntmps276
     go_wp2_with fail
     refine F.mono ?_;rintro e w2 ⟨k,rfl,h2⟩
     go_wp2_with fail
     refine(M _ h2).mono ?_;rintro e d ⟨E,rfl,g⟩;have C:=g1.call U.size k;have G:=C.call C.size E;have aA:=jF k E;have A:za d w.heap.size 94 #[.string {data:=#[]},.string {data:=#[]},.int .i64 0,.int .i64 0]:=p1.grown aA (λe=>by injection e;omega);have n3:=za.new d 94 #[.string {data:=#[]},.string {data:=#[]},.int .i64 0,.int .i64 0];have aB:w.heap.size<d.heap.size:=A.lt;have aE:¬ w.heap.size=d.heap.size:=by omega
     go_wp2_with (first
      | (refine zt rfl 94 (.tmp 3) (.tmp 8) rfl d.heap.size rfl rfl qt n3 rfl rfl (zy rfl rfl rfl rfl) ?_;obtain⟨W4,I,O,j⟩:=Ki d #[.string s,.string {data:=#[]},.int .i64 (p:Int),.int .i64 0];rw[I];clear I;have aH:W4.cell? ⟨d.heap.size,2,none⟩=some (.int .i64 (p:Int)):=(by rw[O.cell];rfl);have X:=g.rJ j g.lt (by have:=g.lt;omega);have aC:=A.below j A.lt;have H:Bq w.heap.size q w W4:=G.trans (.of (j.mono G.size))))
     refine(f _ X).mono ?_;rintro e w5 ⟨L,rfl,h5⟩;have aF:q<d.heap.size:=by omega
     have n5:=O.grown L (λe=>by injection e;omega);have aI:=aC.grown L (λe=>by injection e;omega);have g5:=H.call H.size L;have c5:w5.cell? ⟨d.heap.size,3,none⟩=some (.int .i64 0):=by rw[n5.cell];rfl
     have f5:=n5.free 3;have n6:=n5.set 3 (.int .i64 (v:Int));have Z:ph d.heap.size w5 (w5.setCell ⟨d.heap.size,3,none⟩ (.int .i64 (v:Int))):=(pf _ w5).setCell (by simp) _;have aD:=aI.below Z aB;have h6:=h5.rJ Z aF (by omega);have g6:Bq w.heap.size q w (w5.setCell ⟨d.heap.size,3,none⟩ (.int .i64 (v:Int))):=g5.trans (.of (Z.mono (by omega)));simp only[zA,zF,zE] at n6;have b7:=aD.setRow #[.string s,.string {data:=#[]},.int .i64 (p:Int),.int .i64 (v:Int)];have g7:=g6.setRow (zG w.heap.size) #[.string s,.string {data:=#[]},.int .i64 (p:Int),.int .i64 (v:Int)];have h7:=h6.rJ (zf (pf w.heap.size _) (zG _) #[.string s,.string {data:=#[]},.int .i64 (p:Int),.int .i64 (v:Int)]) aG (by omega)
     go_wp2_with (first
      | (refine xA qt n6 ?_)
      | (refine zt rfl 94 (.tmp 2) (.tmp 18) rfl w.heap.size rfl rfl qt aD rfl rfl (zy rfl rfl rfl rfl) ?_))
     exact oE (yM 2 rfl rfl qt b7 rfl) rfl ⟨g7.grown,rfl,h7⟩
end
section
open Go Go.RowKit vA Go.Shelf
def Us (w:World)(l:List xK)(e:dT)(w':World):Prop:=∃A c,e=Y0 (.slice A l.length c)/\w'.ownsRow w.heap.size 94 4 (.slice A l.length c) l.length (vV l)/\ph w.heap.size w w'
theorem BJ:Zj 65 94 4 48 (.agg #[.string oR,.string oR,.int .i64 0,.int .i64 0]):=⟨underlying65,by kernel_rfl,by kernel_rfl,by decide⟩
theorem Xf (w:World)(A:Y5)(c:Nat)(l:List xK)(h:yp w w.heap.size 4 A l.length c (vV l))(hl:l.length<=1000000):pr Y3 146 #[.slice A l.length c] w (Us w l):=by
 rcases A with _|k
 ·have hc:=h.nil rfl;subst hc;have v:=h.le;obtain rfl:l=[]:=qF (by omega);have hq:=λW=>jh (P:=Y3) W 65 94 none 0 0 underlying65
  go_enter func146,ntmps146
  go_wp2;go_ret;exact⟨none,0,rfl,oz _ _ _ _,pf _ _⟩
 ·have g:(w.alloc (.cells #[] 94)).ownsRow w.heap.size 94 4 (.slice (some ⟨w.heap.size,0,none⟩) 0 0) 0 []:=nM w #[] 0 (zG _) (by unfold oo;omega) rfl;have d:ph w.heap.size w (w.alloc (.cells #[] 94)):=(pf _ w).alloc (zG _) _;have hq:=λW=>jh (P:=Y3) W 65 94 (some k) l.length c underlying65
  go_enter func146,ntmps146
  go_wp2_with (at_builtin;refine xy rfl BJ (.tmp 5) (.tmp 6) rfl w.heap.size (.slice (some ⟨w.heap.size,0,none⟩) 0 0) 0 [] rfl g _ _ l.length c (vV l) rfl (h.grow d) (by unfold oo;omega) (by omega) d.size ?_;intro v5 w5 f u)
  go_ret;rw[qC,zQ] at f;obtain⟨j,r,rfl,_⟩:=qn f (Ya _);exact⟨j,r,rfl,f,d.trans (zl u d.size (zh g))⟩
def Ur (w:World)(l:List Int)(e:dT)(w':World):Prop:=∃A c,e=Y0 (.slice A l.length c)/\w'.ownsRow w.heap.size 3 1 (.slice A l.length c) l.length (Xr l)/\ph w.heap.size w w'
theorem Ro:Zj 67 3 1 8 (.int .i64 0):=⟨underlying67,by kernel_rfl,by kernel_rfl,by decide⟩
theorem XY (w:World)(A:Y5)(c:Nat)(l:List Int)(h:yp w w.heap.size 1 A l.length c (Xr l))(hl:l.length<=1000000):pr Y3 211 #[.slice A l.length c] w (Ur w l):=by
 rcases A with _|k
 ·have hc:=h.nil rfl;subst hc;have v:=h.le;obtain rfl:l=[]:=qF (by omega);have hq:=λW=>jh (P:=Y3) W 67 3 none 0 0 underlying67
  go_enter func211,ntmps211
  go_wp2;go_ret;exact⟨none,0,rfl,oz _ _ _ _,pf _ _⟩
 ·have g:(w.alloc (.cells #[] 3)).ownsRow w.heap.size 3 1 (.slice (some ⟨w.heap.size,0,none⟩) 0 0) 0 []:=nM w #[] 0 (zG _) (by unfold oo;omega) rfl;have d:ph w.heap.size w (w.alloc (.cells #[] 3)):=(pf _ w).alloc (zG _) _;have hq:=λW=>jh (P:=Y3) W 67 3 (some k) l.length c underlying67
  go_enter func211,ntmps211
  go_wp2_with (at_builtin;refine xy rfl Ro (.tmp 5) (.tmp 6) rfl w.heap.size (.slice (some ⟨w.heap.size,0,none⟩) 0 0) 0 [] rfl g _ _ l.length c (Xr l) rfl (h.grow d) (by unfold oo;omega) (by omega) d.size ?_;intro v5 w5 f u)
  go_ret;rw[qC,zQ] at f;obtain⟨j,r,rfl,_⟩:=qn f (YW _);exact⟨j,r,rfl,f,d.trans (zl u d.size (zh g))⟩
end
section
open Go Go.RowKit vA
section
variable {w:World}{ops:Array Oper}{i:Nat}{o:Oper}{a:Act}{Q:Exit->Act->World->Prop}{K:Act->World->Prop}
theorem Jf (F:ops[i]?=some o)(u:o.guard=none){S T:oD}{sz by_:Nat}{z:Value}(j:Zj S T sz by_ z)(s x:py)(hc:o.op=.call {callee:=.builtin .append,args:=#[s,x],argTypes:=#[S,S]})
  (base:Nat) (v:Value) (n:Nat) (cs:Y8) (hs:a.eval s=v) (G:w.ownsRow base T sz v n cs) (B:Nat) (A:Y5) (m c:Nat) (f:Y8) (I:a.eval x=.slice A m c) (C:yp w B sz A m c f)
  (E:n+m<=oo) (r:(n+m)*by_<=140737488355328) (k:base<=w.heap.size)
  (h:∀d w',w'.ownsRow base T sz d (n+m) (cs++f)->w.grownBy w' v.ownBlock->K (a.put o.dst d) w'):wpOp Y3 ops Q i K a w:=by
 obtain⟨d,w',H,h2,g⟩:=GV (w:=w) o.type j base v n cs G B A m c f C E r k;refine zb.opV d F u (w':=w') ?_ (h d w' h2 g);unfold oB;simp only[hc,resolve,invoke,builtin,oY,oU,oO,zI,zJ,zN,hs,I,H]
theorem RQ (f:FuncId)(xs:Array py)(A:Array oD)(r:ops[i]?=some o)(k:o.guard=none)(hc:o.op=.call {callee:=.value (.func f),args:=xs,argTypes:=A})
  (j:∀args w,(callFunc f args).run Y3 w=.ok (.enter f args) w) (args:Y7) (ha:xs.map a.eval=args) (h:pr Y3 f args w λe w'=>(∃v,e=Y0 v/\K (a.put o.dst v) w')∨∃ch,e=.panicked ch/\Q (.panic ch) a w'):wpOp Y3 ops Q i K a w:=by
 unfold wpOp;simp only[r];rw[if_pos (by simp[Region.wanted,k])];left;have u:(oB a.eval o).run Y3 w=.ok (.enter f args) w:=by have c:a.eval (.func f)=.func (.func f) #[] #[]:=rfl;simp[oB,hc,resolve,ha,c,nh,invoke,j args w]
 unfold Oper.wp;rw[u,Oper.upon_enter];refine h.mono ?_;rintro e w' (⟨v,rfl,d⟩|⟨ch,rfl,g⟩)
 ·exact d
 ·exact g
end
structure NS (w wr:World)(q B p:Nat)(lf:Bool)(cs:List xK)(ks:List ByteArray)(is:List Int)(l:Y4)(Ac:Y5)(cc:Nat)(Ak:Y5)(ck:Nat)(Ai:Y5)(ci:Nat):Prop where
 b:za wr p 69 #[.bool lf,.slice Ac cs.length cc,.slice Ak ks.length ck,.slice Ai is.length ci]
 c:wr.ownsRow (p+1) 94 4 (.slice Ac cs.length cc) cs.length (vV cs)
 k:wr.ownsRow (p+1) 9 1 (.slice Ak ks.length ck) ks.length (XJ ks)
 i:wr.ownsRow (p+1) 3 1 (.slice Ai is.length ci) is.length (Xr is)
 r:jO wr q B l
 g:Bq p q w wr
 hq:q<p
 hB:B<=q
section
variable {w wr w':World}{q B p:Nat}{lf:Bool}{cs:List xK}{ks:List ByteArray}{is:List Int}{l l':Y4}{Ac:Y5}{cc:Nat}{Ak:Y5}{ck:Nat}{Ai:Y5}{ci:Nat}
theorem Gh {wr w':World}{q p:Nat}{T:oD}{sz n:Nat}{v:Value}{cs:Y8}(h:wr.ownsRow (p+1) T sz v n cs)(d:wr.grownBy w' (some q))(hq:q<p):w'.ownsRow (p+1) T sz v n cs :=
 ql h λr c=>d.block r (kJ h r c) (λe=>by have:=zh h r c;injection e;omega)
theorem NS.call (h:NS w wr q B p lf cs ks is l Ac cc Ak ck Ai ci)(d:wr.grownBy w' (some q))(f:jO w' q B l'):NS w w' q B p lf cs ks is l' Ac cc Ak ck Ai ci :=
 ⟨h.b.grown d (λe=>by have:=h.hq;injection e;omega),Gh h.c d h.hq,Gh h.k d h.hq,Gh h.i d h.hq,f,h.g.call (dQ h.b.lt) d,h.hq,h.hB⟩
theorem NS.rJ (h:NS w wr q B p lf cs ks is l Ac cc Ak ck Ai ci)(hB:ph wr.heap.size wr w'):NS w w' q B p lf cs ks is l Ac cc Ak ck Ai ci :=
 ⟨h.b.below hB h.b.lt,qw h.c hB,qw h.k hB,qw h.i hB,h.r.rJ hB h.r.lt (by have:=h.hB;have:=h.r.lt;omega),h.g.trans (.of (hB.mono (dQ h.b.lt))),h.hq,h.hB⟩
theorem NS.drew (h:NS w wr q B p lf cs ks is l Ac cc Ak ck Ai ci):NS w wr.drew q B p lf cs ks is l Ac cc Ak ck Ai ci:=h.rJ (pf _ wr).drew
theorem LH {T:oD}{sz n m f:Nat}{v:Value}{c:Y5}{c':Nat}{old new:Y8}{h:Y7}(k:za wr p 69 h)(g:jO wr q B l)(E:Bq p q w wr)(hq:q<p)(hB:B<=q)
  (own:wr.ownsRow (p+1) T sz v n old) (C:wr.grownBy w' v.ownBlock) (u:w'.ownsRow (p+1) T sz (.slice c m c') m new) :
  za (w'.setCell ⟨p,f,none⟩ (.slice c m c')) p 69 (h.setIfInBounds f (.slice c m c'))/\jO (w'.setCell ⟨p,f,none⟩ (.slice c m c')) q B l/\Bq p q w (w'.setCell ⟨p,f,none⟩ (.slice c m c'))/\(w'.setCell ⟨p,f,none⟩ (.slice c m c')).ownsRow (p+1) T sz (.slice c m c') m new:=by
 have G:=k.lt;have d:ph (p+1) wr w':=zl C (by omega) (zh own);have A:=k.below d (by omega);have F:=g.rJ d (by omega) (by omega);have j:ph p w' (w'.setCell ⟨p,f,none⟩ (.slice c m c')):=(pf _ w').setCell (by simp) _;refine⟨A.set f _,F.rJ j hq (by omega),(E.trans (.of (d.mono (by omega)))).trans (.of j),ql u λr g=>oI w' ⟨p,f,none⟩ _ r (λe=>by have:=zh u r g;simp at e;omega)⟩
theorem Qa {w':World}{p f:Nat}{u v:Value}{T:oD}{sz n:Nat}{xs:Y8}(h:w'.ownsRow (p+1) T sz v n xs):(w'.setCell ⟨p,f,none⟩ u).ownsRow (p+1) T sz v n xs :=
 ql h λr c=>oI w' ⟨p,f,none⟩ u r (λe=>by have:=zh h r c;simp at e;omega)
theorem BV (cs:List xK)(c:xK):vV (cs++[c])=vV cs++zm c:=by unfold vV;simp
theorem CJ (ks:List ByteArray)(k:ByteArray):XJ (ks++[k])=XJ ks++[.string k]:=by unfold XJ;simp
theorem BB (is:List Int)(i:Int):Xr (is++[i])=Xr is++[.int .i64 i]:=by unfold Xr;simp
theorem NS.pS (h:NS w wr q B p lf cs ks is l Ac cc Ak ck Ai ci){c:xK}{d:Y5}{c':Nat}(A:w'.ownsRow (p+1) 94 4 (.slice d (cs.length+1) c') (cs.length+1) (vV cs++zm c))(j:wr.grownBy w' (dW Ac cs.length cc).ownBlock):NS w (w'.setCell ⟨p,1,none⟩ (.slice d (cs.length+1) c')) q B p lf (cs++[c]) ks is l d c' Ak ck Ai ci:=by
 obtain⟨h1,h2,u,v⟩:=LH (f:=1) h.b h.r h.g h.hq h.hB h.c j A;have e:(cs++[c]).length=cs.length+1:=by simp
 refine⟨by rw[e];exact h1,by rw[e,BV];exact v,Qa (QE h.c h.k (by decide) j),Qa (QE h.c h.i (by decide) j),h2,u,h.hq,h.hB⟩
theorem NS.pQ (h:NS w wr q B p lf cs ks is l Ac cc Ak ck Ai ci){s:ByteArray}{d:Y5}{c':Nat}(A:w'.ownsRow (p+1) 9 1 (.slice d (ks.length+1) c') (ks.length+1) (XJ ks++[.string s]))(j:wr.grownBy w' (dW Ak ks.length ck).ownBlock):NS w (w'.setCell ⟨p,2,none⟩ (.slice d (ks.length+1) c')) q B p lf cs (ks++[s]) is l Ac cc d c' Ai ci:=by
 obtain⟨h1,h2,u,v⟩:=LH (f:=2) h.b h.r h.g h.hq h.hB h.k j A;have e:(ks++[s]).length=ks.length+1:=by simp
 refine⟨by rw[e];exact h1,Qa (QE h.k h.c (by decide) j),by rw[e,CJ];exact v,Qa (QE h.k h.i (by decide) j),h2,u,h.hq,h.hB⟩
theorem NS.pN (h:NS w wr q B p lf cs ks is l Ac cc Ak ck Ai ci){s:Int}{d:Y5}{c':Nat}(A:w'.ownsRow (p+1) 3 1 (.slice d (is.length+1) c') (is.length+1) (Xr is++[.int .i64 s]))(j:wr.grownBy w' (dW Ai is.length ci).ownBlock):NS w (w'.setCell ⟨p,3,none⟩ (.slice d (is.length+1) c')) q B p lf cs ks (is++[s]) l Ac cc Ak ck d c':=by
 obtain⟨h1,h2,u,v⟩:=LH (f:=3) h.b h.r h.g h.hq h.hB h.i j A;have e:(is++[s]).length=is.length+1:=by simp
 refine⟨by rw[e];exact h1,Qa (QE h.i h.c (by decide) j),Qa (QE h.i h.k (by decide) j),by rw[e,BB];exact v,h2,u,h.hq,h.hB⟩
theorem NS.nis (h:NS w wr q B p lf cs ks is l Ac cc Ak ck Ai ci):XH wr wr.heap.size ⟨lf,cs,ks,is⟩ Ac cc Ak ck Ai ci:=by
 obtain⟨_,_,d,h1⟩:=qn h.c (Ya _);obtain⟨_,_,f,h2⟩:=qn h.k (jZ _);obtain⟨_,_,g,j⟩:=qn h.i (YW _);injection d with e11 e12 e13
 injection f with e21 e22 e23
 injection g with e31 e32 e33
 subst e11 e13 e21 e23 e31 e33;exact⟨h1,h2,j⟩
theorem NS.start {w:World}{q B:Nat}{l:Y4}(c:jO w q B l)(hB:B<=q):NS w (w.alloc (.cells #[.bool false,.slice none 0 0,.slice none 0 0,.slice none 0 0] 69)) q B w.heap.size false [] [] [] l none 0 none 0 none 0:=by
 have d:ph w.heap.size w (w.alloc (.cells #[.bool false,.slice none 0 0,.slice none 0 0,.slice none 0 0] 69)):=(pf _ w).alloc (zG _) _;exact⟨za.new w _ _,oz _ _ _ _,oz _ _ _ _,oz _ _ _ _,c.rJ d c.lt (by have:=c.lt;omega),.of d,c.lt,hB⟩
theorem NS.leaf (h:NS w wr q B p lf cs ks is l Ac cc Ak ck Ai ci)(b:Bool):NS w (wr.setCell ⟨p,0,none⟩ (.bool b)) q B p b cs ks is l Ac cc Ak ck Ai ci:=by
 have hB:ph p wr (wr.setCell ⟨p,0,none⟩ (.bool b)):=(pf _ wr).setCell (by simp) _;exact⟨h.b.set 0 _,Qa h.c,Qa h.k,Qa h.i,h.r.rJ hB h.hq (by have:=h.hB;have:=h.hq;omega),h.g.trans (.of hB),h.hq,h.hB⟩
end
theorem Yu (w:World)(T:oD)(sz:Nat)(cs:Y8)(hn:cs.length=sz)(h1:∀v∈cs,v.oneCell'=true):yp (w.alloc (.cells cs.toArray T)) (w.alloc (.cells cs.toArray T)).heap.size sz (some ⟨w.heap.size,0,none⟩) 1 1 cs :=
 ⟨zG _,by omega,(λe=>by cases e),by omega,h1,λ_=>⟨w.heap.size,0,rfl,by simp,λj v c=>by
  rw[(za.new w T cs.toArray).cell,qC]
  simpa using c⟩⟩
theorem PB {w:World}{o:Oper}{ρ:py->Value}{x:py}(c:xK)(d:o.op=.buildSlice 65 1 #[(0,x)])(h1:ρ x=.agg (zm c).toArray):(oB ρ o).run Y3 w=.ok (.value (.slice (some ⟨w.heap.size,0,none⟩) 1 1)) (w.alloc (.cells (zm c).toArray 94)):=by
 simp[oB,d,h1,go_sem,zm,pv]
theorem NS.same {w wr:World}{q B p:Nat}{lf:Bool}{cs:List xK}{ks:List ByteArray}{is:List Int}{l:Y4}{Ac:Y5}{cc:Nat}{Ak:Y5}{ck:Nat}{Ai:Y5}{ci:Nat}(h:NS w wr q B p lf cs ks is l Ac cc Ak ck Ai ci):NS w (wr.setRow p #[.bool lf,.slice Ac cs.length cc,.slice Ak ks.length ck,.slice Ai is.length ci]) q B p lf cs ks is l Ac cc Ak ck Ai ci:=by
 have hB:ph p wr (wr.setRow p #[.bool lf,.slice Ac cs.length cc,.slice Ak ks.length ck,.slice Ai is.length ci]):=zf (pf _ wr) (zG _) _;have d:∀{T:oD} {sz n:Nat} {v:Value} {xs:Y8},wr.ownsRow (p+1) T sz v n xs->(wr.setRow p #[.bool lf,.slice Ac cs.length cc,.slice Ak ks.length ck,.slice Ai is.length ci]).ownsRow (p+1) T sz v n xs:=λh=>ql h λr f=>oL _ _ r _ (by have:=zh h r f;omega)
 exact⟨h.b.setRow _,d h.c,d h.k,d h.i,h.r.rJ hB h.hq (by have:=h.hB;have:=h.hq;omega),h.g.trans (.of hB),h.hq,h.hB⟩
def Tv (n:Nat)(Ac Ak Ai:Y5):Prop:=∀g o,(Ac=some ⟨g,o,none⟩∨Ak=some ⟨g,o,none⟩∨Ai=some ⟨g,o,none⟩)->n<=g
structure xm (w:World)(n:Nat)(x:yo)(Ac:Y5)(cc:Nat)(Ak:Y5)(ck:Nat)(Ai:Y5)(ci:Nat):Prop where
 c:w.ownsRow n 94 4 (.slice Ac x.cells.length cc) x.cells.length (vV x.cells)
 k:w.ownsRow n 9 1 (.slice Ak x.keys.length ck) x.keys.length (XJ x.keys)
 i:w.ownsRow n 3 1 (.slice Ai x.kids.length ci) x.kids.length (Xr x.kids)
theorem xm.rows {w:World}{n:Nat}{x:yo}{Ac:Y5}{cc:Nat}{Ak:Y5}{ck:Nat}{Ai:Y5}{ci:Nat}(h:xm w n x Ac cc Ak ck Ai ci):Tv n Ac Ak Ai:=by
 rintro g o (rfl|rfl|rfl)
 ·exact zh h.c g rfl
 ·exact zh h.k g rfl
 ·exact zh h.i g rfl
theorem xm.rK {w w':World}{n:Nat}{x:yo}{Ac:Y5}{cc:Nat}{Ak:Y5}{ck:Nat}{Ai:Y5}{ci:Nat}(h:xm w n x Ac cc Ak ck Ai ci)(f:∀r,n<=r->r<w.heap.size->w'.heap[r]?=w.heap[r]?):xm w' n x Ac cc Ak ck Ai ci :=
 ⟨ql h.c λr d=>f r (zh h.c r d) (kJ h.c r d),ql h.k λr d=>f r (zh h.k r d) (kJ h.k r d),ql h.i λr d=>f r (zh h.i r d) (kJ h.i r d)⟩
theorem xm.base {w:World}{n m:Nat}{x:yo}{Ac:Y5}{cc:Nat}{Ak:Y5}{ck:Nat}{Ai:Y5}{ci:Nat}(h:xm w n x Ac cc Ak ck Ai ci)(d:m<=n):xm w m x Ac cc Ak ck Ai ci:=⟨yS h.c d,yS h.k d,yS h.i d⟩
theorem NS.own {w wr:World}{q B p:Nat}{lf:Bool}{cs:List xK}{ks:List ByteArray}{is:List Int}{l:Y4}{Ac:Y5}{cc:Nat}{Ak:Y5}{ck:Nat}{Ai:Y5}{ci:Nat}(h:NS w wr q B p lf cs ks is l Ac cc Ak ck Ai ci):xm wr p ⟨lf,cs,ks,is⟩ Ac cc Ak ck Ai ci:=⟨yS h.c (gI p),yS h.k (gI p),yS h.i (gI p)⟩
def xn (r:Option yo)(q:Nat)(w:World)(e:dT)(w':World):Prop :=
 w.grownBy w' (some q)/\match r with
  | some x=>∃Ac cc Ak ck Ai ci,e=Y0 (.agg (zu x Ac cc Ak ck Ai ci))/\XH w' w'.heap.size x Ac cc Ak ck Ai ci/\xm w' w.heap.size x Ac cc Ak ck Ai ci
  | none=>e=.panicked [TT 220 false]
theorem XT {r:Option yo}(h:r=none)(q:Nat)(w:World):∀w',w.grownBy w' (some q)->xn r q w (.panicked [TT 220 false]) w':=λw' c=>by subst h;exact⟨c,rfl⟩
theorem SM {r:Option yo}{x:yo}(h:r=some x)(q:Nat)(w w':World)(c:w.grownBy w' (some q))(Ac:Y5)(cc:Nat)(Ak:Y5)(ck:Nat)(Ai:Y5)(ci:Nat)(hn:XH w' w'.heap.size x Ac cc Ak ck Ai ci)(hf:xm w' w.heap.size x Ac cc Ak ck Ai ci):xn r q w (.returned (.agg (zu x Ac cc Ak ck Ai ci))) w':=by
 subst h;exact⟨c,Ac,cc,Ak,ck,Ai,ci,rfl,hn,hf⟩
theorem Pn (w:World)(q B:Nat)(l r:Y4)(h:jO w q B l)(hq:B<=q)(e1:xP l=some (1,r)):pr Y3 215 #[.pointer (some ⟨q,0,none⟩)] w (xn (ym true r) q w):=by
 have aM:=h.lt;have n1:=NS.start h hq;have N:=vp _ q B l n1.r hq;unfold QI at N;rw[e1] at N;simp only at N;have X:=λW lx (f:jO W q B lx)=>vp W q B lx f hq
 unfold QI at X;have H:=λW (f:jO W q B r)=>X W r f
 clear e1 h;cases I:xP r with
 | none =>
  rw[I] at H;simp only at H;have HP:=XT (r:=ym true r) (by unfold ym;rw[I]) q w;generalize xn (ym true r) q w=PO at *;clear I X
  go_enter func215,ntmps215
  go_wp2_with fail
  refine N.mono ?_;rintro e w2 ⟨Z,rfl,h2⟩;have E:=n1.call Z h2;have c2:w2.cell? ⟨w.heap.size,0,none⟩=some (.bool false):=by rw[E.b.cell];rfl
  have f2:=E.b.free 0
  go_wp2_with (go_at_call 152;refine(yr _ _ _).mono ?_;rintro e U ⟨rfl,h7⟩;obtain⟨v7,rfl⟩:=h7.1 rfl)
  have L:=E.leaf true;refine(H _ L.r).mono ?_;rintro e w4 ⟨aA,rfl⟩;exact⟨rfl,HP _ (L.g.call (dQ L.b.lt) aA).grown⟩
 | some y =>
  obtain⟨many,F⟩:=y;rw[I] at H;simp only at H;have aX:many<=100000:=(vr I).2;have aD:ym true r=match yY kH many F with|none=>none|some (cs,_)=>some ⟨true,cs,[],[]⟩:=by unfold ym;rw[I];rfl
  have aG:=λhr=>XT (r:=ym true r) hr q w
  have aH:=λx (hr:ym true r=some x)=>SM hr q w
  have aI:∀k cs d,k<many->yY kH k F=some (cs,d)->kH d=none->∀w',w.grownBy w' (some q)->xn (ym true r) q w (.panicked [TT 220 false]) w':=λk cs d hk j hf=>aG (by
   rw[aD];have:=Vu kH F cs d k j hf (many-k-1);rw[show k+1+(many-k-1)=many from by omega] at this
   rw[this])
  have aJ:∀cs d,yY kH many F=some (cs,d)->∀w' A c,w.grownBy w' (some q)->XH w' w'.heap.size ⟨true,cs,[],[]⟩ A c none 0 none 0->xm w' w.heap.size ⟨true,cs,[],[]⟩ A c none 0 none 0->xn (ym true r) q w (.returned (.agg #[.bool true,.slice A cs.length c,.slice none 0 0,.slice none 0 0])) w':=λcs d j w' A c hg hn hf=>aH ⟨true,cs,[],[]⟩ (by rw[aD,j]) w' hg A c none 0 none 0 hn hf
  generalize xn (ym true r) q w=PO at *;have aP:=pk aI;have aR:=pk aJ;clear I X aD aG aH aI aJ
  go_enter func215,ntmps215
  go_wp2_with fail
  refine N.mono ?_;rintro e w2 ⟨Z,rfl,h2⟩;have E:=n1.call Z h2;have c2:w2.cell? ⟨w.heap.size,0,none⟩=some (.bool false):=by rw[E.b.cell];rfl
  have f2:=E.b.free 0
  go_wp2_with (go_at_call 152;refine(yr _ _ _).mono ?_;rintro e U ⟨rfl,h7⟩;obtain⟨v7,rfl⟩:=h7.1 rfl)
  have L:=E.leaf true;refine(H _ L.r).mono ?_;rintro e w4 ⟨aA,rfl,h4⟩;have n4:=L.call aA h4;have c4:w4.cell? ⟨w.heap.size,0,none⟩=some (.bool true):=by rw[n4.b.cell];rfl
  clear n1 E L Z h2 c2 f2 aA h4 N H
  go_wp2_with fail
  go_loopw [30] (λi wr=>∃(k:Nat) (cs:List xK) (d:Y4) (Ac:Y5) (cc:Nat),k<=many/\i=.int .i64 k/\yY kH k F=some (cs,d)/\NS w wr q B w.heap.size true cs [] [] d Ac cc none 0 none 0) (λi _=>many-(intOf i).toNat)
  case atStart=>exact⟨0,[],F,none,0,by omega,rfl,rfl,n4⟩
  case round =>
   obtain⟨k,cs,d,Ac,cc,hk,rfl,j,P⟩:=hrel;clear n4 c4;have c0:wr.cell? ⟨w.heap.size,0,none⟩=some (.bool true):=by rw[P.b.cell];rfl
   have aL:=Yg kH k F cs d j
   by_cases aM:k<many
   ·have aW:(k:Int)<(many:Int):=by omega
    have aV:cs.length<=100000:=by omega
    have aY:IntKind.i64.wrap ((k:Int)+1)=(k:Int)+1:=xd _;have G:=λW (f:jO W q B d)=>SS W q B d f hq
    unfold QI at G;have V:=pk j;clear j aL;cases O:kH d with
    | none =>
     rw[O] at G;simp only at G;have aQ:=aP.out k cs d aM V.out O;clear O
     go_wp2_with fail
     have u:=P.drew;have C:za wr.drew w.heap.size 69 #[.bool true,.slice Ac cs.length cc,.slice none 0 0,.slice none 0 0]:=u.b;refine zb.st (λW=>za W w.heap.size 69 #[.bool true,.slice Ac cs.length cc,.slice none 0 0,.slice none 0 0]) 7 ?_;refine zb.q 0 (.pointer (some ⟨w.heap.size,1,none⟩)) C ?_;refine zb.t 1 (.slice Ac cs.length cc) rfl C (λW f=>by have e:W.cell? ⟨w.heap.size,1,none⟩=some (.slice Ac cs.length cc):=(by rw[f.cell];rfl);go_simp) ?_;refine zb.q 2 (.pointer (some ⟨q,0,none⟩)) C ?_;simp only[Z8];refine zb.n 3 ?_;refine RQ 276 #[.tmp 36] #[294] rfl rfl rfl (zb.eo func276) #[.pointer (some ⟨q,0,none⟩)] (by simp only[zI,zJ,zN];rfl) ((G _ u.r).mono ?_);rintro e w5 ⟨aB,rfl⟩;refine .inr ⟨_,rfl,?_⟩;exact⟨rfl,aQ _ (u.g.call (dQ u.b.lt) aB).grown⟩
    | some y3 =>
     obtain⟨c,aN⟩:=y3;rw[O] at G;simp only at G;have aO:=pk (ZF kH k F cs d c aN V.out O);clear O
     go_wp2_with fail
     have u:=P.drew;have C:za wr.drew w.heap.size 69 #[.bool true,.slice Ac cs.length cc,.slice none 0 0,.slice none 0 0]:=u.b;refine zb.st (λW=>za W w.heap.size 69 #[.bool true,.slice Ac cs.length cc,.slice none 0 0,.slice none 0 0]) 7 ?_;refine zb.q 0 (.pointer (some ⟨w.heap.size,1,none⟩)) C ?_;refine zb.t 1 (.slice Ac cs.length cc) rfl C (λW f=>by have e:W.cell? ⟨w.heap.size,1,none⟩=some (.slice Ac cs.length cc):=(by rw[f.cell];rfl);go_simp) ?_;refine zb.q 2 (.pointer (some ⟨q,0,none⟩)) C ?_;simp only[Z8];refine zb.n 3 ?_;refine RQ 276 #[.tmp 36] #[294] rfl rfl rfl (zb.eo func276) #[.pointer (some ⟨q,0,none⟩)] (by simp only[zI,zJ,zN];rfl) ((G _ u.r).mono ?_);rintro e w5 ⟨aB,rfl,h5⟩;have aE:=u.call aB h5;refine .inl ⟨_,rfl,λ_=>aE.b,?_⟩;simp only[Z8];have aK:ph w5.heap.size w5 (w5.alloc (.cells (zm c).toArray 94)):=(pf _ w5).alloc (zG _) _;have M:=aE.rJ aK;refine zb.n 4 ?_;refine zb.opV (w':=w5.alloc (.cells (zm c).toArray 94)) (.slice (some ⟨w5.heap.size,0,none⟩) 1 1) rfl rfl (PB c rfl rfl) ⟨λ_=>M.b,?_⟩;simp only[Z8];refine zb.n 5 ?_;refine Jf rfl rfl BJ (.tmp 35) (.tmp 38) rfl (w.heap.size+1) (.slice Ac cs.length cc) cs.length (vV cs) rfl M.c _ _ 1 1 (zm c) rfl (Yu w5 94 4 (zm c) rfl (ZZ _)) (by unfold oo;omega) (by omega) (by have:=M.b.lt;omega) ?_;intro v7 U aF aC;obtain⟨A7,c7,rfl,_⟩:=qn aF (λv hv=>by rcases qA.1 hv with h|h;exact Ya _ v h;exact ZZ _ v h);have aU:=M.pS aF aC;have b7:za U w.heap.size 69 #[.bool true,.slice Ac cs.length cc,.slice none 0 0,.slice none 0 0]:=M.b.grown aC (λe=>by have:=zh M.c w.heap.size e.symm;omega);refine⟨λ_=>b7,?_⟩;simp only[Z8];have aS:U.cell? ⟨w.heap.size,1,none⟩=some (.slice Ac cs.length cc):=by rw[b7.cell];rfl
     have aT:=b7.free 1;refine zb.n 6 ?_;refine zb.opV (.pointer (some ⟨w.heap.size,1,none⟩)) rfl rfl (by go_simp) ⟨λ_=>b7,?_⟩;simp only[Z8];refine zb.n 7 ?_;refine zb.opS (w':=U.setCell ⟨w.heap.size,1,none⟩ (.slice A7 (cs.length+1) c7)) rfl rfl (by go_simp) ⟨λh=>absurd rfl h,?_⟩;simp only[zD,zC,zB,pj];refine zb.dn ?_;clear aS aT b7 aF aC M aE aK C u aB h5;go_wp2;exact⟨⟨k+1,cs++[c],aN,A7,c7,by omega,by simp,aO.out,aU⟩,by simp[intOf];omega⟩
   ·obtain rfl:k=many:=by omega
    have V:=pk j;clear j aL;have ns:=P.same
    go_wp2_with (first
     | (refine xA (g:=w.heap.size) zj P.b ?_)
     | (refine zt rfl 69 (.tmp 2) (.tmp 56) rfl w.heap.size rfl rfl zj P.b (by rfl) (by rfl) (zy rfl rfl rfl rfl) ?_))
    exact oE (yM 2 rfl rfl zj ns.b (by rfl)) rfl (aR.out cs d V.out _ Ac cc ns.g.grown ns.nis ns.own)
theorem AO {l:Y4}(h:jk l=none):jJ l=none:=by unfold jJ;rw[h]
theorem AN {l r:Y4}{s:ByteArray}(h:jk l=some (s,r))(h2:xP r=none):jJ l=none:=by unfold jJ;rw[h];simp only;rw[h2]
theorem AM {l r c:Y4}{s:ByteArray}{n:Nat}(h:jk l=some (s,r))(h2:xP r=some (n,c)):jJ l=some ((s,(n:Int)),c):=by unfold jJ;rw[h];simp only;rw[h2]
theorem SK (w:World)(q B:Nat)(l r:Y4)(h:jO w q B l)(hq:B<=q)(e1:xP l=some (2,r)):pr Y3 215 #[.pointer (some ⟨q,0,none⟩)] w (xn (ym false r) q w):=by
 have aS:=h.lt;have n1:=NS.start h hq;have H1:=vp _ q B l n1.r hq;unfold QI at H1;rw[e1] at H1;simp only at H1;have X:=λW lx (d:jO W q B lx)=>vp W q B lx d hq
 unfold QI at X;have Z:=λW (d:jO W q B r)=>X W r d
 clear e1 h;cases N:xP r with
 | none =>
  rw[N] at Z;simp only at Z;have HP:=XT (r:=ym false r) (by unfold ym;rw[N]) q w;generalize xn (ym false r) q w=PO at *;clear N X
  go_enter func215,ntmps215
  go_wp2_with fail
  refine H1.mono ?_;rintro e w2 ⟨aD,rfl,h2⟩;have M:=n1.call aD h2;have c2:w2.cell? ⟨w.heap.size,0,none⟩=some (.bool false):=by rw[M.b.cell];rfl
  have f2:=M.b.free 0
  go_wp2_with (go_at_call 152;refine(yr _ _ _).mono ?_;rintro e j ⟨rfl,h7⟩;obtain⟨v7,rfl⟩:=h7.1 rfl)
  have V:=M.leaf false;refine(Z _ V.r).mono ?_;rintro e w4 ⟨aE,rfl⟩;exact⟨rfl,HP _ (V.g.call (dQ V.b.lt) aE).grown⟩
 | some y =>
  obtain⟨many,r1⟩:=y;rw[N] at Z;simp only at Z;have bO:many<=100000:=(vr N).2;have aC:=λW (d:jO W q B r1)=>X W r1 d
  cases e4:xP r1 with
  | none =>
   rw[e4] at aC;simp only at aC;have aO:=XT (r:=ym false r) (by unfold ym;rw[N];simp only[oF,if_false];rw[e4]) q w;generalize xn (ym false r) q w=PO at *;clear N e4 X
   go_enter func215,ntmps215
   go_wp2_with fail
   refine H1.mono ?_;rintro e w2 ⟨aD,rfl,h2⟩;have M:=n1.call aD h2;have c2:w2.cell? ⟨w.heap.size,0,none⟩=some (.bool false):=by rw[M.b.cell];rfl
   have f2:=M.b.free 0
   go_wp2_with (go_at_call 152;refine(yr _ _ _).mono ?_;rintro e j ⟨rfl,h7⟩;obtain⟨v7,rfl⟩:=h7.1 rfl)
   have V:=M.leaf false;refine(Z _ V.r).mono ?_;rintro e w4 ⟨aE,rfl,h4⟩;obtain⟨ks,is,Ak,ck,Ai,ci,a9,a6,n4⟩:∃(ks:List ByteArray) (is:List Int) (Ak:Y5) (ck:Nat) (Ai:Y5) (ci:Nat),ks.length<=0/\is.length<=0/\NS w w4 q B w.heap.size false [] ks is r1 none 0 Ak ck Ai ci:=⟨[],[],none,0,none,0,by simp,by simp,V.call aE h4⟩;have c4:w4.cell? ⟨w.heap.size,0,none⟩=some (.bool false):=by rw[n4.b.cell];rfl
   clear n1 M V aD h2 c2 f2 aE h4 H1 Z
   go_wp2_with fail
   have aA:=n4.drew;have f:za w4.drew w.heap.size 69 #[.bool false,.slice none 0 0,.slice Ak ks.length ck,.slice Ai is.length ci]:=aA.b;refine zb.st (λW=>za W w.heap.size 69 #[.bool false,.slice none 0 0,.slice Ak ks.length ck,.slice Ai is.length ci]) 7 ?_;refine zb.q 0 (.pointer (some ⟨w.heap.size,3,none⟩)) f ?_;refine zb.t 1 (.slice Ai is.length ci) rfl f (λW d=>by have e:W.cell? ⟨w.heap.size,3,none⟩=some (.slice Ai is.length ci):=(by rw[d.cell];rfl);go_simp) ?_;refine zb.q 2 (.pointer (some ⟨q,0,none⟩)) f ?_;simp only[Z8];refine zb.n 3 ?_;refine RQ 275 #[.tmp 24] #[294] rfl rfl rfl (zb.eo func275) #[.pointer (some ⟨q,0,none⟩)] (by simp only[zI,zJ,zN];rfl) ((aC _ aA.r).mono ?_);rintro e w5 ⟨C,rfl⟩;refine .inr ⟨_,rfl,?_⟩;exact⟨rfl,aO _ (aA.g.call (dQ aA.b.lt) C).grown⟩
  | some y4 =>
   obtain⟨U,r2⟩:=y4;rw[e4] at aC;simp only at aC;have aT:ym false r=match yY jJ many r2 with|none=>none|some (ks,_)=>some ⟨false,[],ks.map (·.1),(U:Int)::ks.map (·.2)⟩:=by unfold ym;rw[N];simp only[oF,if_false];rw[e4];rfl
   have a0:=λhr=>XT (r:=ym false r) hr q w
   have a1:=λx (hr:ym false r=some x)=>SM hr q w
   have a2:∀k cs u,k<many->yY jJ k r2=some (cs,u)->jJ u=none->∀w',w.grownBy w' (some q)->xn (ym false r) q w (.panicked [TT 220 false]) w':=λk cs u hk hm hf=>a0 (by
    rw[aT];have:=Vu jJ r2 cs u k hm hf (many-k-1);rw[show k+1+(many-k-1)=many from by omega] at this
    rw[this])
   have a3:∀E u,yY jJ many r2=some (E,u)->∀(ks:List ByteArray) (is:List Int) w' A c A' c',ks=E.map (·.1)->is=(U:Int)::E.map (·.2)->w.grownBy w' (some q)->XH w' w'.heap.size ⟨false,[],ks,is⟩ none 0 A c A' c'->xm w' w.heap.size ⟨false,[],ks,is⟩ none 0 A c A' c'->xn (ym false r) q w (.returned (.agg #[.bool false,.slice none 0 0,.slice A ks.length c,.slice A' is.length c'])) w':=λE u hm ks is w' A c A' c' e1 N hg hn hf=>a1 ⟨false,[],ks,is⟩ (by rw[aT,hm,e1,N]) w' hg none 0 A c A' c' hn hf
   generalize xn (ym false r) q w=PO at *;have aZ:=pk a2;have bF:=pk a3;clear N e4 aT a0 a1 a2 a3
   go_enter func215,ntmps215
   go_wp2_with fail
   refine H1.mono ?_;rintro e w2 ⟨aD,rfl,h2⟩;have M:=n1.call aD h2;have c2:w2.cell? ⟨w.heap.size,0,none⟩=some (.bool false):=by rw[M.b.cell];rfl
   have f2:=M.b.free 0
   go_wp2_with (go_at_call 152;refine(yr _ _ _).mono ?_;rintro e j ⟨rfl,h7⟩;obtain⟨v7,rfl⟩:=h7.1 rfl)
   have V:=M.leaf false;refine(Z _ V.r).mono ?_;rintro e w4 ⟨aE,rfl,h4⟩;obtain⟨ks,is,Ak,ck,Ai,ci,a9,a6,aY,aX,n4⟩:∃(ks:List ByteArray) (is:List Int) (Ak:Y5) (ck:Nat) (Ai:Y5) (ci:Nat),ks.length<=0/\is.length<=0/\Hid (ks=[])/\Hid (is=[])/\NS w w4 q B w.heap.size false [] ks is r1 none 0 Ak ck Ai ci:=⟨[],[],none,0,none,0,by simp,by simp,pk rfl,pk rfl,V.call aE h4⟩;have c4:w4.cell? ⟨w.heap.size,0,none⟩=some (.bool false):=by rw[n4.b.cell];rfl
   clear n1 M V aD h2 c2 f2 aE h4 H1 Z
   go_wp2_with fail
   have aA:=n4.drew;have f:za w4.drew w.heap.size 69 #[.bool false,.slice none 0 0,.slice Ak ks.length ck,.slice Ai is.length ci]:=aA.b;refine zb.st (λW=>za W w.heap.size 69 #[.bool false,.slice none 0 0,.slice Ak ks.length ck,.slice Ai is.length ci]) 7 ?_;refine zb.q 0 (.pointer (some ⟨w.heap.size,3,none⟩)) f ?_;refine zb.t 1 (.slice Ai is.length ci) rfl f (λW d=>by have e:W.cell? ⟨w.heap.size,3,none⟩=some (.slice Ai is.length ci):=(by rw[d.cell];rfl);go_simp) ?_;refine zb.q 2 (.pointer (some ⟨q,0,none⟩)) f ?_;simp only[Z8];refine zb.n 3 ?_;refine RQ 275 #[.tmp 24] #[294] rfl rfl rfl (zb.eo func275) #[.pointer (some ⟨q,0,none⟩)] (by simp only[zI,zJ,zN];rfl) ((aC _ aA.r).mono ?_);rintro e w5 ⟨C,rfl,O⟩;have aV:=aA.call C O;refine .inl ⟨_,rfl,λ_=>aV.b,?_⟩;simp only[Z8];have P:ph w5.heap.size w5 (w5.alloc (.cells #[.int .i64 (U:Int)] 3)):=(pf _ w5).alloc (zG _) _;have aK:=aV.rJ P;refine zb.n 4 ?_;refine zb.opV (w':=w5.alloc (.cells #[.int .i64 (U:Int)] 3)) (.slice (some ⟨w5.heap.size,0,none⟩) 1 1) rfl rfl (by go_simp) ⟨λ_=>aK.b,?_⟩;simp only[Z8];refine zb.n 5 ?_;refine Jf rfl rfl Ro (.tmp 23) (.tmp 26) rfl (w.heap.size+1) (.slice Ai is.length ci) is.length (Xr is) rfl aK.i _ _ 1 1 [.int .i64 (U:Int)] rfl (Yu w5 3 1 [.int .i64 (U:Int)] rfl (λv G=>by obtain rfl:=qK.1 G;rfl)) (by unfold oo;omega) (by omega) (by have:=aK.b.lt;omega) ?_;intro v7 j I F;obtain⟨A7,c7,rfl,_⟩:=qn I (λv G=>by rcases qA.1 G with h|h;exact YW _ v h;obtain rfl:=qK.1 h;rfl);have bD:=aK.pN I F;have b7:za j w.heap.size 69 #[.bool false,.slice none 0 0,.slice Ak ks.length ck,.slice Ai is.length ci]:=aK.b.grown F (λe=>by have:=zh aK.i w.heap.size e.symm;omega);refine⟨λ_=>b7,?_⟩;simp only[Z8];have aG:j.cell? ⟨w.heap.size,3,none⟩=some (.slice Ai is.length ci):=by rw[b7.cell];rfl
   have aH:=b7.free 3;refine zb.n 6 ?_;refine zb.opV (.pointer (some ⟨w.heap.size,3,none⟩)) rfl rfl (by go_simp) ⟨λ_=>b7,?_⟩;simp only[Z8];refine zb.n 7 ?_;refine zb.opS (w':=j.setCell ⟨w.heap.size,3,none⟩ (.slice A7 (is.length+1) c7)) rfl rfl (by go_simp) ⟨λh=>absurd rfl h,?_⟩;simp only[zD,zC,zB,pj];refine zb.dn ?_;clear aG aH b7 I F aK aV P f aA C O;have bA:Hid (ks=(([]:List (ByteArray×Int)).map (·.1))):=pk (by rw[aY.out];rfl);have a7:Hid (is++[(U:Int)]=(U:Int)::(([]:List (ByteArray×Int)).map (·.2))):=pk (by rw[aX.out];rfl);generalize a8:is++[(U:Int)]=bB at *;have bI:is.length+1=bB.length:=by rw[<-a8,zH];rfl
   clear a8 bI aC n4 c4
   go_wp2_with fail
   go_loopw [30] (λi wr=>∃(k:Nat) (E:List (ByteArray×Int)) (u:Y4) (ks:List ByteArray) (is:List Int) (Ak:Y5) (ck:Nat) (Ai:Y5) (ci:Nat),k<=many/\i=.int .i64 k/\yY jJ k r2=some (E,u)/\Hid (ks=E.map (·.1))/\Hid (is=(U:Int)::E.map (·.2))/\NS w wr q B w.heap.size false [] ks is u none 0 Ak ck Ai ci) (λi _=>many-(intOf i).toNat)
   case atStart=>exact⟨0,[],r2,ks,bB,Ak,ck,A7,c7,by omega,rfl,rfl,bA,a7,bD⟩
   case round =>
    clear bD bA a7 a9 a6 aY aX;obtain⟨k,E,u,ks,is,Ak,ck,Ai,ci,hk,rfl,hm,aQ,aP,nr⟩:=hrel;have c0:wr.cell? ⟨w.heap.size,0,none⟩=some (.bool false):=by rw[nr.b.cell];rfl
    have bJ:=Yg jJ k r2 E u hm;have bM:ks.length<=100000:=by rw[aQ.out,qE];omega
    have bL:is.length<=100001:=by rw[aP.out,zL,qE];omega
    have HM:=pk hm;clear hm bJ
    by_cases aS:k<many
    ·have bN:(k:Int)<(many:Int):=by omega
     have bP:IntKind.i64.wrap ((k:Int)+1)=(k:Int)+1:=xd _;have HT:=λW (d:jO W q B u)=>ZC W q B u d hq
     unfold QI at HT;cases e3:jk u with
     | none =>
      rw[e3] at HT;simp only at HT;have aO:=aZ.out k E u aS HM.out (AO e3);clear e3 X
      go_wp2_with fail
      have L:=nr.drew;have f:za wr.drew w.heap.size 69 #[.bool false,.slice none 0 0,.slice Ak ks.length ck,.slice Ai is.length ci]:=L.b;refine zb.st (λW=>za W w.heap.size 69 #[.bool false,.slice none 0 0,.slice Ak ks.length ck,.slice Ai is.length ci]) 7 ?_;refine zb.q 0 (.pointer (some ⟨w.heap.size,2,none⟩)) f ?_;refine zb.t 1 (.slice Ak ks.length ck) rfl f (λW d=>by have e:W.cell? ⟨w.heap.size,2,none⟩=some (.slice Ak ks.length ck):=(by rw[d.cell];rfl);go_simp) ?_;refine zb.q 2 (.pointer (some ⟨q,0,none⟩)) f ?_;simp only[Z8];refine zb.n 3 ?_;refine RQ 277 #[.tmp 43] #[294] rfl rfl rfl (zb.eo func277) #[.pointer (some ⟨q,0,none⟩)] (by simp only[zI,zJ,zN];rfl) ((HT _ L.r).mono ?_);rintro e w5 ⟨C,rfl⟩;refine .inr ⟨_,rfl,?_⟩;exact⟨rfl,aO _ (L.g.call (dQ L.b.lt) C).grown⟩
     | some y3 =>
      obtain⟨s,aU⟩:=y3;rw[e3] at HT;simp only at HT;have aM:=λW (d:jO W q B aU)=>X W aU d
      cases e5:xP aU with
      | none =>
       rw[e5] at aM;simp only at aM;have aO:=aZ.out k E u aS HM.out (AN e3 e5);clear e3 e5 X
       go_wp2_with fail
       have L:=nr.drew;have f:za wr.drew w.heap.size 69 #[.bool false,.slice none 0 0,.slice Ak ks.length ck,.slice Ai is.length ci]:=L.b;refine zb.st (λW=>za W w.heap.size 69 #[.bool false,.slice none 0 0,.slice Ak ks.length ck,.slice Ai is.length ci]) 7 ?_;refine zb.q 0 (.pointer (some ⟨w.heap.size,2,none⟩)) f ?_;refine zb.t 1 (.slice Ak ks.length ck) rfl f (λW d=>by have e:W.cell? ⟨w.heap.size,2,none⟩=some (.slice Ak ks.length ck):=(by rw[d.cell];rfl);go_simp) ?_;refine zb.q 2 (.pointer (some ⟨q,0,none⟩)) f ?_;simp only[Z8];refine zb.n 3 ?_;refine RQ 277 #[.tmp 43] #[294] rfl rfl rfl (zb.eo func277) #[.pointer (some ⟨q,0,none⟩)] (by simp only[zI,zJ,zN];rfl) ((HT _ L.r).mono ?_);rintro e w5 ⟨C,rfl,O⟩;have aJ:=L.call C O;refine .inl ⟨_,rfl,λ_=>aJ.b,?_⟩;simp only[Z8];have P:ph w5.heap.size w5 (w5.alloc (.cells #[.string s] 9)):=(pf _ w5).alloc (zG _) _;have H:=aJ.rJ P;refine zb.n 4 ?_;refine zb.opV (w':=w5.alloc (.cells #[.string s] 9)) (.slice (some ⟨w5.heap.size,0,none⟩) 1 1) rfl rfl (by go_simp) ⟨λ_=>H.b,?_⟩;simp only[Z8];refine zb.n 5 ?_;refine Jf rfl rfl Ov (.tmp 42) (.tmp 45) rfl (w.heap.size+1) (.slice Ak ks.length ck) ks.length (XJ ks) rfl H.k _ _ 1 1 [.string s] rfl (Yu w5 9 1 [.string s] rfl (λv G=>by obtain rfl:=qK.1 G;rfl)) (by unfold oo;omega) (by omega) (by have:=H.b.lt;omega) ?_;intro v7 j I F;obtain⟨A7,c7,rfl,_⟩:=qn I (λv G=>by rcases qA.1 G with h|h;exact jZ _ v h;obtain rfl:=qK.1 h;rfl);have aN:=H.pQ I F;have b7:za j w.heap.size 69 #[.bool false,.slice none 0 0,.slice Ak ks.length ck,.slice Ai is.length ci]:=H.b.grown F (λe=>by have:=zh H.k w.heap.size e.symm;omega);refine⟨λ_=>b7,?_⟩;simp only[Z8];have aG:j.cell? ⟨w.heap.size,2,none⟩=some (.slice Ak ks.length ck):=by rw[b7.cell];rfl
       have aH:=b7.free 2;refine zb.n 6 ?_;refine zb.opV (.pointer (some ⟨w.heap.size,2,none⟩)) rfl rfl (by go_simp) ⟨λ_=>b7,?_⟩;simp only[Z8];refine zb.n 7 ?_;refine zb.opS (w':=j.setCell ⟨w.heap.size,2,none⟩ (.slice A7 (ks.length+1) c7)) rfl rfl (by go_simp) ⟨λh=>absurd rfl h,?_⟩;simp only[zD,zC,zB,pj];refine zb.dn ?_;clear aG aH b7 I F H aJ P f L C O;generalize aR:ks++[s]=aI at *;obtain⟨wy,aF⟩:∃W,j.setCell ⟨w.heap.size,2,none⟩ (.slice A7 (ks.length+1) c7)=W:=⟨_,rfl⟩;rw[aF] at aN;rw[aF];clear aR aF nr c0
       go_wp2_with fail
       have aB:=aN.drew;have f:za wy.drew w.heap.size 69 #[.bool false,.slice none 0 0,.slice A7 aI.length c7,.slice Ai is.length ci]:=aB.b;refine zb.st (λW=>za W w.heap.size 69 #[.bool false,.slice none 0 0,.slice A7 aI.length c7,.slice Ai is.length ci]) 7 ?_;refine zb.q 0 (.pointer (some ⟨w.heap.size,3,none⟩)) f ?_;refine zb.t 1 (.slice Ai is.length ci) rfl f (λW d=>by have e:W.cell? ⟨w.heap.size,3,none⟩=some (.slice Ai is.length ci):=(by rw[d.cell];rfl);go_simp) ?_;refine zb.q 2 (.pointer (some ⟨q,0,none⟩)) f ?_;simp only[Z8];refine zb.n 3 ?_;refine RQ 275 #[.tmp 50] #[294] rfl rfl rfl (zb.eo func275) #[.pointer (some ⟨q,0,none⟩)] (by simp only[zI,zJ,zN];rfl) ((aM _ aB.r).mono ?_);rintro e w5 ⟨C,rfl⟩;refine .inr ⟨_,rfl,?_⟩;exact⟨rfl,aO _ (aB.g.call (dQ aB.b.lt) C).grown⟩
      | some y5 =>
       obtain⟨pg,bC⟩:=y5;rw[e5] at aM;simp only at aM;have bE:=pk (ZF jJ k r2 E u (s,(pg:Int)) bC HM.out (AM e3 e5));clear e3 e5 X
       go_wp2_with fail
       have L:=nr.drew;have f:za wr.drew w.heap.size 69 #[.bool false,.slice none 0 0,.slice Ak ks.length ck,.slice Ai is.length ci]:=L.b;refine zb.st (λW=>za W w.heap.size 69 #[.bool false,.slice none 0 0,.slice Ak ks.length ck,.slice Ai is.length ci]) 7 ?_;refine zb.q 0 (.pointer (some ⟨w.heap.size,2,none⟩)) f ?_;refine zb.t 1 (.slice Ak ks.length ck) rfl f (λW d=>by have e:W.cell? ⟨w.heap.size,2,none⟩=some (.slice Ak ks.length ck):=(by rw[d.cell];rfl);go_simp) ?_;refine zb.q 2 (.pointer (some ⟨q,0,none⟩)) f ?_;simp only[Z8];refine zb.n 3 ?_;refine RQ 277 #[.tmp 43] #[294] rfl rfl rfl (zb.eo func277) #[.pointer (some ⟨q,0,none⟩)] (by simp only[zI,zJ,zN];rfl) ((HT _ L.r).mono ?_);rintro e w5 ⟨C,rfl,O⟩;have aJ:=L.call C O;refine .inl ⟨_,rfl,λ_=>aJ.b,?_⟩;simp only[Z8];have P:ph w5.heap.size w5 (w5.alloc (.cells #[.string s] 9)):=(pf _ w5).alloc (zG _) _;have H:=aJ.rJ P;refine zb.n 4 ?_;refine zb.opV (w':=w5.alloc (.cells #[.string s] 9)) (.slice (some ⟨w5.heap.size,0,none⟩) 1 1) rfl rfl (by go_simp) ⟨λ_=>H.b,?_⟩;simp only[Z8];refine zb.n 5 ?_;refine Jf rfl rfl Ov (.tmp 42) (.tmp 45) rfl (w.heap.size+1) (.slice Ak ks.length ck) ks.length (XJ ks) rfl H.k _ _ 1 1 [.string s] rfl (Yu w5 9 1 [.string s] rfl (λv G=>by obtain rfl:=qK.1 G;rfl)) (by unfold oo;omega) (by omega) (by have:=H.b.lt;omega) ?_;intro v7 j I F;obtain⟨A7,c7,rfl,_⟩:=qn I (λv G=>by rcases qA.1 G with h|h;exact jZ _ v h;obtain rfl:=qK.1 h;rfl);have aN:=H.pQ I F;have b7:za j w.heap.size 69 #[.bool false,.slice none 0 0,.slice Ak ks.length ck,.slice Ai is.length ci]:=H.b.grown F (λe=>by have:=zh H.k w.heap.size e.symm;omega);refine⟨λ_=>b7,?_⟩;simp only[Z8];have aG:j.cell? ⟨w.heap.size,2,none⟩=some (.slice Ak ks.length ck):=by rw[b7.cell];rfl
       have aH:=b7.free 2;refine zb.n 6 ?_;refine zb.opV (.pointer (some ⟨w.heap.size,2,none⟩)) rfl rfl (by go_simp) ⟨λ_=>b7,?_⟩;simp only[Z8];refine zb.n 7 ?_;refine zb.opS (w':=j.setCell ⟨w.heap.size,2,none⟩ (.slice A7 (ks.length+1) c7)) rfl rfl (by go_simp) ⟨λh=>absurd rfl h,?_⟩;simp only[zD,zC,zB,pj];refine zb.dn ?_;clear aG aH b7 I F H aJ P f L C O;have bH:Hid (ks++[s]=(E++[(s,(pg:Int))]).map (·.1)):=pk (by rw[aQ.out,qW];rfl);generalize aR:ks++[s]=aI at *;obtain⟨wy,aF⟩:∃W,j.setCell ⟨w.heap.size,2,none⟩ (.slice A7 (ks.length+1) c7)=W:=⟨_,rfl⟩;rw[aF] at aN;rw[aF];clear aR aF nr c0;obtain⟨Ak,a4⟩:∃A,A=A7:=⟨_,rfl⟩;obtain⟨ck,a5⟩:∃c,c=c7:=⟨_,rfl⟩;rw[<-a4,<-a5] at aN;clear a4 a5
       go_wp2_with fail
       have aB:=aN.drew;have f:za wy.drew w.heap.size 69 #[.bool false,.slice none 0 0,.slice Ak aI.length ck,.slice Ai is.length ci]:=aB.b;refine zb.st (λW=>za W w.heap.size 69 #[.bool false,.slice none 0 0,.slice Ak aI.length ck,.slice Ai is.length ci]) 7 ?_;refine zb.q 0 (.pointer (some ⟨w.heap.size,3,none⟩)) f ?_;refine zb.t 1 (.slice Ai is.length ci) rfl f (λW d=>by have e:W.cell? ⟨w.heap.size,3,none⟩=some (.slice Ai is.length ci):=(by rw[d.cell];rfl);go_simp) ?_;refine zb.q 2 (.pointer (some ⟨q,0,none⟩)) f ?_;simp only[Z8];refine zb.n 3 ?_;refine RQ 275 #[.tmp 50] #[294] rfl rfl rfl (zb.eo func275) #[.pointer (some ⟨q,0,none⟩)] (by simp only[zI,zJ,zN];rfl) ((aM _ aB.r).mono ?_);rintro e w5 ⟨C,rfl,O⟩;have aW:=aB.call C O;refine .inl ⟨_,rfl,λ_=>aW.b,?_⟩;simp only[Z8];have P:ph w5.heap.size w5 (w5.alloc (.cells #[.int .i64 (pg:Int)] 3)):=(pf _ w5).alloc (zG _) _;have aL:=aW.rJ P;refine zb.n 4 ?_;refine zb.opV (w':=w5.alloc (.cells #[.int .i64 (pg:Int)] 3)) (.slice (some ⟨w5.heap.size,0,none⟩) 1 1) rfl rfl (by go_simp) ⟨λ_=>aL.b,?_⟩;simp only[Z8];refine zb.n 5 ?_;refine Jf rfl rfl Ro (.tmp 49) (.tmp 52) rfl (w.heap.size+1) (.slice Ai is.length ci) is.length (Xr is) rfl aL.i _ _ 1 1 [.int .i64 (pg:Int)] rfl (Yu w5 3 1 [.int .i64 (pg:Int)] rfl (λv G=>by obtain rfl:=qK.1 G;rfl)) (by unfold oo;omega) (by omega) (by have:=aL.b.lt;omega) ?_;intro v7 j I F;obtain⟨A7,c7,rfl,_⟩:=qn I (λv G=>by rcases qA.1 G with h|h;exact YW _ v h;obtain rfl:=qK.1 h;rfl);have bK:=aL.pN I F;have b7:za j w.heap.size 69 #[.bool false,.slice none 0 0,.slice Ak aI.length ck,.slice Ai is.length ci]:=aL.b.grown F (λe=>by have:=zh aL.i w.heap.size e.symm;omega);refine⟨λ_=>b7,?_⟩;simp only[Z8];have aG:j.cell? ⟨w.heap.size,3,none⟩=some (.slice Ai is.length ci):=by rw[b7.cell];rfl
       have aH:=b7.free 3;refine zb.n 6 ?_;refine zb.opV (.pointer (some ⟨w.heap.size,3,none⟩)) rfl rfl (by go_simp) ⟨λ_=>b7,?_⟩;simp only[Z8];refine zb.n 7 ?_;refine zb.opS (w':=j.setCell ⟨w.heap.size,3,none⟩ (.slice A7 (is.length+1) c7)) rfl rfl (by go_simp) ⟨λh=>absurd rfl h,?_⟩;simp only[zD,zC,zB,pj];refine zb.dn ?_;clear aG aH b7 I F aL aW P f aB C O;have bG:Hid (is++[(pg:Int)]=(U:Int)::(E++[(s,(pg:Int))]).map (·.2)):=pk (by rw[aP.out,qW];rfl);go_wp2;exact⟨⟨k+1,E++[(s,(pg:Int))],bC,aI,is++[(pg:Int)],Ak,ck,A7,c7,by omega,by simp,bE.out,bH,bG,bK⟩,by simp[intOf];omega⟩
    ·obtain rfl:k=many:=by omega
     have ns:=nr.same
     go_wp2_with (first
      | (refine xA (g:=w.heap.size) zj nr.b ?_)
      | (refine zt rfl 69 (.tmp 2) (.tmp 56) rfl w.heap.size rfl rfl zj nr.b (by rfl) (by rfl) (zy rfl rfl rfl rfl) ?_))
     exact oE (yM 2 rfl rfl zj ns.b (by rfl)) rfl (bF.out E u HM.out ks is _ Ak ck Ai ci aQ.out aP.out ns.g.grown ns.nis ns.own)

attribute [local go_sem] Hy
theorem SL (w:World)(q B:Nat)(l:Y4)(h:jO w q B l)(hq:B<=q):pr Y3 215 #[.pointer (some ⟨q,0,none⟩)] w (xn (kG l) q w):=by
 cases c:xP l with
 | none =>
  have k:=XT (r:=kG l) (by unfold kG;rw[c]) q w;generalize xn (kG l) q w=C at *;have j:=NS.start h hq;have d:=vp _ q B l j.r hq;unfold QI at d;rw[c] at d;simp only at d;clear c h
  go_enter func215,ntmps215
  go_wp2_with fail
  refine d.mono ?_;rintro e H ⟨A,rfl⟩;exact⟨rfl,k _ (j.g.call (dQ j.b.lt) A).grown⟩
 | some y =>
  obtain⟨f,r⟩:=y
  by_cases u:f=1
  ·subst u;have e:kG l=ym true r:=by unfold kG;rw[c];rfl
   rw[e];exact Pn w q B l r h hq c
  ·by_cases v:f=2
   ·subst v;have e:kG l=ym false r:=by unfold kG;rw[c];rfl
    rw[e];exact SK w q B l r h hq c
   ·have k:=XT (r:=kG l) (by unfold kG;rw[c];simp only;rw[if_neg u,if_neg v]) q w;generalize xn (kG l) q w=C at *;have j:=NS.start h hq;have d:=vp _ q B l j.r hq;unfold QI at d;rw[c] at d;simp only at d;have F:¬ (f:Int)=1:=by omega
    have G:¬ (f:Int)=2:=by omega
    clear c h u v
    go_enter func215,ntmps215
    go_wp2_with fail
    refine d.mono ?_;rintro e H ⟨A,rfl,h2⟩
    go_wp2_with (go_at_call 152;refine(yr _ _ _).mono ?_;rintro e I ⟨rfl,E⟩;obtain rfl:=E.2 (by simp[F,G]))
    exact⟨rfl,k _ (j.g.call (dQ j.b.lt) A).grown⟩
theorem LK (w:World)(A v:Y5)(c c':Nat)(l l':Y4)(h:qq w w.heap.size A c l)(r:qq w w.heap.size v c' l'):pr Y3 71 #[.slice A l.length c,.slice v l'.length c'] w λe w'=>e=Y0 (.bool (decide (l=l')))/\ph w.heap.size w w':=by
 have Z:=h.le;have aB:=h.max
 by_cases hl:l.length=l'.length
 ·have aA:l'.length<=9223372036854775807:=by have:=r.le;have:=r.max;omega
  rw[<-hl];have C:=pk hl;clear hl
  go_enter func71,ntmps71
  go_wp2
  go_loopw [13] (λi wr=>∃k:Nat,k<=l.length/\i=.int .i64 k/\Hid (l.take k=l'.take k)/\ph w.heap.size w wr) (λi _=>l.length-(intOf i).toNat)
  case atStart=>exact⟨0,by omega,rfl,pk (by simp),pf _ _⟩
  case round =>
   obtain⟨k,W,rfl,E,hB⟩:=hrel
   by_cases G:k<l.length
   ·have H:k<l'.length:=by have:=C.out;omega
    obtain⟨g,o,rfl,N,hc⟩:=h.rC (by omega);obtain⟨j,o',rfl,O,u⟩:=r.rC (by omega);have L:wr.cell? ⟨g,o+k,none⟩=some (.int .u8 (l[k].toNat:Int)):=(hB.cell (p:=⟨g,o+k,none⟩) N).trans (hc k G);have F:wr.cell? ⟨j,o'+k,none⟩=some (.int .u8 (l'[k].toNat:Int)):=(hB.cell (p:=⟨j,o'+k,none⟩) O).trans (u k H);have U:wr.drew.cell? ⟨g,o+k,none⟩=some (.int .u8 (l[k].toNat:Int)):=L;have M:wr.drew.cell? ⟨j,o'+k,none⟩=some (.int .u8 (l'[k].toNat:Int)):=F;have j1:(k:Int)<(l.length:Int):=by omega
    have j2:(0:Int)<=(k:Int):=by omega
    have aC:IntKind.i64.wrap ((k:Int)+1)=(k:Int)+1:=xd _
    by_cases d:l[k]=l'[k]
    ·have P:Hid (l.take (k+1)=l'.take (k+1)):=pk (by rw[zU G,zU H,E.out,d]);rw[<-d] at F M;generalize l[k]=b at *;clear d hc u;go_wp2
     go_region
     go_wp2;exact⟨⟨k+1,by omega,by simp,P,hB.drew⟩,by simp[intOf];omega⟩
    ·have f:¬ l=l':=λe=>d (by subst e;rfl)
     have V:¬ (l[k].toNat:Int)=(l'[k].toNat:Int):=λe=>d (UInt8.toNat_inj.1 (by omega))
     generalize (l[k].toNat:Int)=x at *;generalize (l'[k].toNat:Int)=y at *;have I:=pk f;clear d hc u f;go_wp2
     go_region
     go_wp2;go_ret;exact⟨by simp[I.out],hB.drew⟩
   ·obtain rfl:k=l.length:=by omega
    have d:Hid (l=l'):=pk (by
     have h1:=E.out;rw[dD,C.out,dD] at h1
     exact h1)
    go_wp2;go_ret;exact⟨by simp[d.out],hB⟩
 ·have X:¬ (l.length:Int)=(l'.length:Int):=by omega
  have f:¬ l=l':=λe=>hl (by rw[e])
  go_enter func71,ntmps71
  go_wp2;go_ret;exact⟨by simp[f],pf _ _⟩
end
section
open Go Go.RowKit vA
def Ko (w:World)(ls:List Y4)(last:Nat)(e:dT)(w':World):Prop:=∃k:Nat,e=Y0 (.int .i64 (k:Int))/\kn ls last k/\ph w.heap.size w w'
theorem CE (ls:List Y4)(k:Nat):jy ls k<=ls.flatten.length:=by
 have:=JW ls k;omega
theorem Vf (w:World)(base:Nat)(A:Y5)(c:Nat)(ls:List Y4)(vs:Y8)(h:Zg w base (.slice A ls.length c) ls vs)(hf:ls.flatten.length<=1000000)(hm:ls.length<=1000000)(last:Nat)(aF:last<=ls.length):pr Y3 209 #[.slice A ls.length c,.int .i64 (last:Int)] w (Ko w ls last):=by
 have N:=Yi h (by omega);obtain⟨A',c',P,X⟩:=qn h.own h.one;injection P with e1 e2 e3
 subst e1 e3;unfold Ko;have u:∀k,jy ls k<=ls.flatten.length:=CE ls;have E:∀k,k<=last->(∀j,j<k->2*jy ls j<=ls.flatten.length)->(k=last∨ls.flatten.length<2*jy ls k)->kn ls last k:=λk h1 h2 U=>⟨h1,h2,U⟩
 generalize ls.flatten=r at *
 go_enter func209,ntmps209
 go_wp2_with (go_at_call 153;refine N.mono ?_;rintro e w2 ⟨v,rfl,own,hB⟩;obtain⟨A2,c2,rfl,aD⟩:=own.inB)
 have aB:jy ls 0=0:=by simp[jy]
 go_loopw [4,6] (λi v wr=>∃(k s:Nat),k<=last/\i=.int .i64 k/\v=.int .i64 s/\s=jy ls k/\(∀j,j<k->2*jy ls j<=r.length)/\wr=w2) (λi _ _=>last-(intOf i).toNat)
 case atStart=>exact⟨0,0,by omega,rfl,rfl,aB.symm,λj Z=>by omega,rfl⟩
 case round =>
  obtain⟨k,s,hk,rfl,rfl,hs,d,rfl⟩:=hrel;have aI:=u k;have F:=pk (E k hk);have aL:IntKind.i64.wrap ((k:Int)+1)=(k:Int)+1:=xd _;have aK:IntKind.i64.wrap (2*(s:Int))=2*(s:Int):=xd _
  by_cases aG:k<last
  ·by_cases aC:2*s<=r.length
   ·obtain⟨M,O,G,_⟩:=h.at_ k (by omega);obtain⟨g,o,rfl,V,I⟩:=X.rC (by omega);have d0:wr.cell? ⟨g,o+k,none⟩=some (.slice M ls[k].length O):=(hB.cell (p:=⟨g,o+k,none⟩) V).trans (I k _ G);have hn:=JX ls k (by omega);have aJ:=u (k+1);have W:2*(s:Int)<=(r.length:Int):=by omega
    have aH:(k:Int)<(ls.length:Int):=by omega
    have aA:(k:Int)<(last:Int):=by omega
    have aE:(0:Int)<=(k:Int):=by omega
    have H:∀j,j<k+1->2*jy ls j<=r.length:=λj Z=>by
     by_cases e:j=k
     ·subst e;omega
     ·exact d j (by omega)
    have L:s+ls[k].length=jy ls (k+1):=by omega
    have aM:IntKind.i64.wrap ((s:Int)+(ls[k].length:Int))=((s+ls[k].length:Nat):Int):=by rw[xd _];omega
    generalize ls[k].length=m at *;have C:=pk L;have f:=pk H;clear L H d hs hn G I h E u;go_wp2;exact⟨⟨k+1,s+m,by omega,by simp,by simp,C.out,f.out,by simp⟩,by simp[intOf];omega⟩
   ·have W:¬ 2*(s:Int)<=(r.length:Int):=by omega
    have aA:(k:Int)<(last:Int):=by omega
    have C:=pk hs;have f:=pk d;clear hs d h E u;go_wp2;go_ret;exact⟨k,rfl,F.out f.out (.inr (by rw[<-C.out];omega)),hB⟩
  ·obtain rfl:k=last:=by omega
   have hn:¬ (k:Int)<(k:Int):=by omega
   have C:=pk hs;have f:=pk d;clear hs d h E u;go_wp2;go_ret;exact⟨k,by simp,F.out f.out (.inl (by simp)),hB⟩
attribute [local go_sem] Hy
def YN:Y7:=#[.bool false,.slice none 0 0,.slice none 0 0,.slice none 0 0]
theorem Zo:∀v∈YN.toList,v.oneCell'=true:=by
 intro v c;simp[YN] at c;rcases c with rfl|rfl|rfl|rfl<;>rfl
structure Bx (w0 w:World)(p:Nat)(a b:Y7)(s e:Value):Prop where
 a:za w (p+1) 69 a
 b:za w (p+1+1) 69 b
 s:za w (p+1+1+1) 9 #[s]
 e:za w (p+1+1+1+1) 27 #[e]
 h:ph (p+1) w0 w
section
variable {w0 w w':World}{p:Nat}{a b:Y7}{s e:Value}
theorem Bx.rJ (h:Bx w0 w p a b s e)(hB:ph w.heap.size w w'):Bx w0 w' p a b s e :=
 ⟨h.a.below hB h.a.lt,h.b.below hB h.b.lt,h.s.below hB h.s.lt,h.e.below hB h.e.lt,h.h.trans (hB.mono (dQ h.a.lt))⟩
theorem Bx.base (h:Bx w0 w p a b s e):Bx w w p a b s e:=⟨h.a,h.b,h.s,h.e,pf _ w⟩
theorem Bx.drew (h:Bx w0 w p a b s e):Bx w0 w.drew p a b s e:=h.rJ (pf _ w).drew
theorem Bx.rq (h:Bx w0 w p a b s e)(i:Nat)(v:Value):Bx w0 (w.setCell ⟨p+1,i,none⟩ v) p (a.setIfInBounds i v) b s e :=
 ⟨h.a.set i v,h.b.other (by simp<;>omega) v,h.s.other (by simp<;>omega) v,h.e.other (by simp<;>omega) v,h.h.setCell (by simp<;>omega) v⟩
theorem Bx.rj (h:Bx w0 w p a b s e)(i:Nat)(v:Value):Bx w0 (w.setCell ⟨p+1+1,i,none⟩ v) p a (b.setIfInBounds i v) s e :=
 ⟨h.a.other (by simp<;>omega) v,h.b.set i v,h.s.other (by simp<;>omega) v,h.e.other (by simp<;>omega) v,h.h.setCell (by simp<;>omega) v⟩
theorem Bx.sX (h:Bx w0 w p a b s e)(v:Value):Bx w0 (w.setCell ⟨p+1+1+1,0,none⟩ v) p a b v e :=
 ⟨h.a.other (by simp<;>omega) v,h.b.other (by simp<;>omega) v,h.s.set 0 v,h.e.other (by simp<;>omega) v,h.h.setCell (by simp<;>omega) v⟩
theorem Bx.pP (h:Bx w0 w p a b s e)(v:Value):Bx w0 (w.setCell ⟨p+1+1+1+1,0,none⟩ v) p a b s v :=
 ⟨h.a.other (by simp<;>omega) v,h.b.other (by simp<;>omega) v,h.s.other (by simp<;>omega) v,h.e.set 0 v,h.h.setCell (by simp<;>omega) v⟩
theorem Bx.sB (h:Bx w0 w p a b s e)(cs:Y7):Bx w0 (w.setRow (p+1) cs) p cs b s e :=
 ⟨h.a.setRow cs,h.b.rB (by simp<;>omega) cs,h.s.rB (by simp<;>omega) cs,h.e.rB (by simp<;>omega) cs,zf h.h (by simp<;>omega) cs⟩
theorem Bx.sC (h:Bx w0 w p a b s e)(cs:Y7):Bx w0 (w.setRow (p+1+1) cs) p a cs s e :=
 ⟨h.a.rB (by simp<;>omega) cs,h.b.setRow cs,h.s.rB (by simp<;>omega) cs,h.e.rB (by simp<;>omega) cs,zf h.h (by simp<;>omega) cs⟩
end
def Av (w:World)(cs:Y7):World:=((((w.alloc (.cells cs 69)).alloc (.cells #[.bool false,.slice none 0 0,.slice none 0 0,.slice none 0 0] 69)).alloc (.cells #[.bool false,.slice none 0 0,.slice none 0 0,.slice none 0 0] 69)).alloc (.cells #[.string {data:=#[]}] 9)).alloc (.cells #[.int .i64 0] 27)
theorem BZ (w:World)(cs:Y7):za (Av w cs) w.heap.size 69 cs/\Bx (Av w cs) (Av w cs) w.heap.size YN YN (.string {data:=#[]}) (.int .i64 0)/\ph w.heap.size w (Av w cs):=by
 have c:=pq w (.cells cs 69);have a0:=za.new w 69 cs;have G:ph w.heap.size w (w.alloc (.cells cs 69)):=(pf _ w).alloc (zG _) _;unfold Av YN;generalize w.alloc (.cells cs 69)=f at *;have d:=pq f (.cells #[.bool false,.slice none 0 0,.slice none 0 0,.slice none 0 0] 69);have C:=za.new f 69 #[.bool false,.slice none 0 0,.slice none 0 0,.slice none 0 0];have u:=a0.alloc (.cells #[.bool false,.slice none 0 0,.slice none 0 0,.slice none 0 0] 69);have H:=G.alloc (by omega) (.cells #[.bool false,.slice none 0 0,.slice none 0 0,.slice none 0 0] 69);generalize f.alloc (.cells #[.bool false,.slice none 0 0,.slice none 0 0,.slice none 0 0] 69)=g at *;have r:=pq g (.cells #[.bool false,.slice none 0 0,.slice none 0 0,.slice none 0 0] 69);have F:=za.new g 69 #[.bool false,.slice none 0 0,.slice none 0 0,.slice none 0 0];have v:=u.alloc (.cells #[.bool false,.slice none 0 0,.slice none 0 0,.slice none 0 0] 69);have E:=C.alloc (.cells #[.bool false,.slice none 0 0,.slice none 0 0,.slice none 0 0] 69);have b3:=H.alloc (by omega) (.cells #[.bool false,.slice none 0 0,.slice none 0 0,.slice none 0 0] 69);generalize g.alloc (.cells #[.bool false,.slice none 0 0,.slice none 0 0,.slice none 0 0] 69)=h at *;have I:=pq h (.cells #[.string {data:=#[]}] 9);have a3:=za.new h 9 #[.string {data:=#[]}];have A:=v.alloc (.cells #[.string {data:=#[]}] 9);have j:=E.alloc (.cells #[.string {data:=#[]}] 9);have k:=F.alloc (.cells #[.string {data:=#[]}] 9);have b4:=b3.alloc (by omega) (.cells #[.string {data:=#[]}] 9);generalize h.alloc (.cells #[.string {data:=#[]}] 9)=L at *;have a4:=za.new L 27 #[.int .i64 0];have b5:=b4.alloc (by omega) (.cells #[.int .i64 0] 27);rw[I,r,d,c] at a4;rw[r,d,c] at a3;rw[d,c] at k;rw[c] at j;exact⟨A.alloc _,⟨j.alloc _,k.alloc _,a3.alloc _,a4,pf _ _⟩,b5⟩
theorem Bb {w:World}{g:Nat}{t:oD}{v0 v1 c v3:Value}(h:za w g t #[v0,v1,c,v3]):w.cell? ⟨g,0,none⟩=some v0/\w.cell? ⟨g,1,none⟩=some v1/\w.cell? ⟨g,2,none⟩=some c/\w.cell? ⟨g,3,none⟩=some v3 :=
 ⟨by rw[h.cell];rfl,by rw[h.cell];rfl,by rw[h.cell];rfl,by rw[h.cell];rfl⟩
end
section
open Go Go.RowKit vA
attribute [local go_sem] Hy
theorem Pu {c l:Y4}{k:Nat}{cs:List xK}(h:yY kH k c=some (cs,l)):cs.length<=c.length:=by have:=ZH (f:=kH) (λ_ _ _ h=>Px h) k c cs l h;omega
theorem Pt {c l:Y4}{k:Nat}{cs:List (ByteArray×Int)}(h:yY jJ k c=some (cs,l)):cs.length<=c.length:=by have:=ZH (f:=jJ) (λ_ _ _ h=>Pv h) k c cs l h;omega
theorem KL {lf:Bool}{r:Y4}{x:yo}(h:ym lf r=some x):x.leaf=lf/\x.cells.length<=r.length/\x.keys.length<=r.length/\x.kids.length<=r.length+1:=by
 unfold ym at h;cases d:xP r with
 | none=>rw[d] at h;cases h
 | some z =>
  obtain⟨many,g⟩:=z;have k:=(vr d).1;rw[d] at h;simp only at h;cases lf with
  | true =>
   simp only[if_true] at h;cases c:yY kH many g with
   | none=>rw[c] at h;cases h
   | some u =>
    obtain⟨cs,j⟩:=u;rw[c] at h;simp only[od] at h;subst h;have:=Pu c;exact⟨rfl,by show cs.length<=_;omega,by show 0<=_;omega,by show 0<=_;omega⟩
  | false =>
   simp only[oF,if_false] at h;cases c:xP g with
   | none=>rw[c] at h;cases h
   | some v =>
    obtain⟨A,j⟩:=v;have b3:=(vr c).1;rw[c] at h;simp only at h;cases f:yY jJ many j with
    | none=>rw[f] at h;cases h
    | some u =>
     obtain⟨cs,C⟩:=u;rw[f] at h;simp only[od] at h;subst h;have:=Pt f;exact⟨rfl,by show 0<=_;omega,by show (cs.map _).length<=_;rw[qE];omega,by show (_::cs.map _).length<=_;rw[zL,qE];omega⟩
theorem SQ {b:Y4}{x:yo}(h:kG b=some x):x.cells.length<=b.length/\x.keys.length<=b.length/\x.kids.length<=b.length+1:=by
 unfold kG at h;cases c:xP b with
 | none=>rw[c] at h;cases h
 | some y =>
  obtain⟨f,r⟩:=y;have d:=(vr c).1;rw[c] at h;simp only at h;split at h
  ·have:=KL h;omega
  ·split at h
   ·have:=KL h;omega
   ·cases h
theorem yp.rK {w w':World}{B d sz n c:Nat}{A:Y5}{cs:Y8}(h:yp w B sz A n c cs)(hB:B<=d)(r:∀g o,A=some ⟨g,o,none⟩->w'.heap[g]?=w.heap[g]?):yp w' d sz A n c cs:=by
 refine⟨h.le,h.max,h.nil,h.len,h.one,λf => ?_⟩;obtain⟨g,o,e,C,u⟩:=h.rC f;refine⟨g,o,e,by omega,λj v k => ?_⟩;rw[<-u j v k];exact World.cell?_of_block (w:=w) (r g o e)
theorem XH.rK {w w':World}{x:yo}{n:Nat}{Ac Ak Ai:Y5}{cc ck ci:Nat}(h:XH w w.heap.size x Ac cc Ak ck Ai ci)(hf:Tv n Ac Ak Ai)(hs:w.heap.size<=w'.heap.size)(d:∀r,n<=r->w'.heap[r]?=w.heap[r]?):XH w' w'.heap.size x Ac cc Ak ck Ai ci :=
 ⟨h.c.rK hs λg o e=>d g (hf g o (.inl e)),h.k.rK hs λg o e=>d g (hf g o (.inr (.inl e))),h.i.rK hs λg o e=>d g (hf g o (.inr (.inr e)))⟩
end
section
open Go Go.RowKit vA
def OA (w:World):World:=(w.alloc (.cells #[.bool false,.slice none 0 0,.slice none 0 0,.slice none 0 0] 69)).alloc (.cells #[.int .i64 0] 27)
theorem Ar (w:World):za (OA w) w.heap.size 69 YN/\za (OA w) (w.heap.size+1) 27 #[.int .i64 0]/\ph w.heap.size w (OA w)/\(OA w).heap.size=w.heap.size+1+1:=by
 have d:=za.new w 69 YN;have c:=za.new (w.alloc (.cells YN 69)) 27 #[.int .i64 0];rw[pq] at c;exact⟨d.alloc _,c,((pf _ w).alloc (zG _) _).alloc (by simp) _,by unfold OA;rw[pq,pq]⟩
def Uw (w:World)(x:yo)(e:dT)(w':World):Prop:=∃Ac cc Ak ck Ai ci,e=Y0 (.tuple #[.agg (zu x Ac cc Ak ck Ai ci),.int .i64 0])/\XH w' w'.heap.size x Ac cc Ak ck Ai ci/\ph w.heap.size w w'/\xm w' w.heap.size x Ac cc Ak ck Ai ci
theorem Aq (w:World)(A:Y5)(c:Nat)(b:Y4)(h:qq w w.heap.size A c b)(hl:b.length=512)(x:yo)(d:kG b=some x)(lb:Y4)(aM:(lb++zP (512-lb.length) (0:UInt8)).length=512)(HE:∀W Ac cc Ak ck Ai ci,XH W W.heap.size x Ac cc Ak ck Ai ci->pr Y3 90 #[.agg (zu x Ac cc Ak ck Ai ci)] W (FR W lb))(he:lb++zP (512-lb.length) (0:UInt8)=b):pr Y3 140 #[.slice A b.length c] w (Uw w x):=by
 obtain⟨b1,b2,H,aA⟩:=Ar w;obtain⟨g,U⟩:=Z9 (OA w);rw[<-U] at b1 b2 H aA;unfold OA at U;have aE:=za.new g 298 #[.slice A b.length c];have I:ph g.heap.size g (g.alloc (.cells #[.slice A b.length c] 298)):=(pf _ g).alloc (zG _) _;have hR:jO (g.alloc (.cells #[.slice A b.length c] 298)) (w.heap.size+1+1) w.heap.size b:=by rw[<-aA];exact⟨A,c,aE,h.below (H.trans (I.mono H.size))⟩
 have F:=SL _ _ _ b hR (by omega);unfold xn at F;have aI:=H.trans (I.mono H.size);have aF:=b1.below I b1.lt;have aH:=b2.below I b2.lt;have M:(g.alloc (.cells #[.slice A b.length c] 298)).heap.size=w.heap.size+1+1+1:=by rw[pq,aA]
 obtain⟨W2,V⟩:=Z9 (g.alloc (.cells #[.slice A b.length c] 298));rw[<-V] at F aI aF aH M;rw[U] at V;have aQ:=pk V;have u:=pk M;clear U V hR aE I aA M;have aX:(b.length:Int)=512:=by omega
 rw[d] at F;simp only at F;unfold FR at HE;generalize lb++zP (512-lb.length) (0:UInt8)=full at *;have EQ:∀W E G,qq W W.heap.size E G full->qq W W.heap.size A c b->pr Y3 71 #[.slice E 512 G,.slice A b.length c] W λe w'=>e=Y0 (.bool (decide (full=b)))/\ph W.heap.size W w':=λW E G h1 h2=>by have:=LK W E A G c full b h1 h2;rw[aM] at this;exact this
 clear aM;have aP:=pk he;clear he;clear hl d;unfold Uw
 go_enter_defers func140,ntmps140
 go_wp2_with (first
  | (go_at_call 152;refine(yr _ _ _).mono ?_;rintro e w7 ⟨rfl,h7⟩;obtain⟨v7,rfl⟩:=h7.1 rfl)
  | (go_at_call 215;rw[<-aQ.out];refine F.mono ?_;rintro e w3 ⟨aD,Ac,cc,Ak,ck,Ai,ci,rfl,n3,aN⟩;have hf:=aN.rows;have M:=u.out;have aG:=aF.grown aD (λe=>by injection e;omega);have aR:=aH.grown aD (λe=>by injection e;omega);have aT:ph w.heap.size w w3:=aI.grown aD (by omega) (λk e=>by injection e;omega);clear M)
  | (unfold zu;refine zt rfl 69 (.tmp 2) (.tmp 17) rfl w.heap.size rfl rfl zj aG rfl rfl (zy rfl rfl rfl rfl) ?_;have n4:=n3.rK (w':=w3.setRow w.heap.size (zu x Ac cc Ak ck Ai ci)) hf (by simp[oe]) (λr d=>oL _ _ r _ (by have:=u.out;omega));have o4:=aN.rK (w':=w3.setRow w.heap.size (zu x Ac cc Ak ck Ai ci)) (λr d _=>oL _ _ r _ (by have:=u.out;omega));have v:=aG.setRow (zu x Ac cc Ak ck Ai ci);have O:=aR.rB (k:=w.heap.size) (by omega) (zu x Ac cc Ak ck Ai ci);have C:=zf aT (zG w.heap.size) (zu x Ac cc Ak ck Ai ci);obtain⟨W4,X⟩:∃W,w3.setRow w.heap.size (zu x Ac cc Ak ck Ai ci)=W:=⟨_,rfl⟩;rw[X] at n4 o4 v O C;unfold zu at X v;rw[X];clear X)
  | (refine xA zj v ?_)
  | (go_at_call 90;refine(HE _ _ _ _ _ _ _ n4).mono ?_;rintro e w5 ⟨E,G,rfl,aV,j⟩;have aW:qq w5 w5.heap.size A c b:=(h.below (C.trans (j.mono C.size))).more (by have:=C.size;have:=j.size;omega))
  | (go_at_call 71;refine(EQ _ _ _ aV aW).mono ?_;rintro e w6 ⟨rfl,L⟩;have aB:=(v.below j v.lt).below L (zO v.lt j.size);have aS:=(O.below j O.lt).below L (zO O.lt j.size);have aJ:=C.trans (j.mono C.size);have aU:=aJ.trans (L.mono aJ.size);have n6:=(n4.grow j).grow L;have o6:=(o4.rK (w':=w5) (λr _ d=>j.block r d)).rK (w':=w6) (λr _ d=>L.block r d))
  | (go_at_call 152;refine(yr _ _ _).mono ?_;rintro e w7 ⟨rfl,h7⟩;obtain⟨v7,rfl⟩:=h7.1 (decide_eq_true aP.out))
  | (refine xA zj aB ?_)
  | (refine zt rfl 69 (.tmp 2) (.tmp 31) rfl w.heap.size rfl rfl zj aB rfl rfl (zy rfl rfl rfl rfl) ?_;have n7:=n6.rK (w':=w6.setRow w.heap.size (zu x Ac cc Ak ck Ai ci)) hf (by simp[oe]) (λr d=>oL _ _ r _ (by have:=u.out;omega));have o7:=o6.rK (w':=w6.setRow w.heap.size (zu x Ac cc Ak ck Ai ci)) (λr d _=>oL _ _ r _ (by have:=u.out;omega));have aC:=aB.setRow (zu x Ac cc Ak ck Ai ci);have P:=aS.rB (k:=w.heap.size) (by omega) (zu x Ac cc Ak ck Ai ci);have aK:=zf aU (zG w.heap.size) (zu x Ac cc Ak ck Ai ci);obtain⟨N,Z⟩:∃W,w6.setRow w.heap.size (zu x Ac cc Ak ck Ai ci)=W:=⟨_,rfl⟩;rw[Z] at n7 o7 aC P aK;unfold zu at Z aC;rw[Z];clear Z;have k7:=P.boxed;have f7:=P.free 0))
 refine leaves_cons (f:=149) (args:=#[.pointer (some ⟨w.heap.size+1,0,none⟩),.func (.func 214) #[] #[.pointer (some ⟨w.heap.size,0,none⟩)]]) (by simp) (by simp[go_sem]) ?_;refine(QG _ _ _).mono ?_;rintro e u' wz ⟨rfl,rfl,aO⟩;have y1:=aC.other (p:=⟨w.heap.size+1,0,none⟩) (by simp) (.int .i64 0);have y2:=P.set 0 (.int .i64 0);have aL:=aK.setCell (p:=⟨w.heap.size+1,0,none⟩) (by simp) (.int .i64 0);have n8:=n7.rK (w':=N.setCell ⟨w.heap.size+1,0,none⟩ (.int .i64 0)) hf (by simp[oh]) (λr d=>oI N ⟨w.heap.size+1,0,none⟩ _ r (by have:=u.out;show r≠w.heap.size+1;omega));have o8:=o7.rK (w':=N.setCell ⟨w.heap.size+1,0,none⟩ (.int .i64 0)) (λr d _=>oI N ⟨w.heap.size+1,0,none⟩ _ r (by have:=u.out;show r≠w.heap.size+1;omega));rw[<-aO] at y1 y2 aL n8 o8;clear aO;obtain⟨a0,a1,a2,a3⟩:=Bb y1;have q3:wz.cell? ⟨w.heap.size+1,0,none⟩=some (.int .i64 0):=y2.boxed;simp[Leaves,settle,results,Tryz.results140,go_sem,a0,a1,a2,a3,q3];exact⟨Ac,cc,Ak,ck,Ai,ci,rfl,n8,aL,o8.base (by have:=u.out;omega)⟩
theorem UC {x:yo}{b:Y4}(h:Jv x b):b.length=512:=by
 have h1:=h.2.1;rw[<-h.2.2,zH,dV];omega
theorem Gl (w:World)(A:Y5)(c:Nat)(b:Y4)(h:qq w w.heap.size A c b)(x:yo)(d:kG b=some x)(hF:Jv x b):pr Y3 140 #[.slice A b.length c] w (Uw w x):=by
 obtain⟨g,j,k⟩:=SQ d;have hf:=hF.2.1;have hl:=UC hF;have f:(qb x++zP (512-(qb x).length) (0:UInt8)).length=512:=by rw[zH,dV];omega
 exact Aq w A c b h (UC hF) x d (qb x) f (λW Ac cc Ak ck Ai ci hn=>MS W x Ac cc Ak ck Ai ci hn (by omega) (by omega) (by omega) hF.1 hf) hF.2.2
section
variable {S T:oD}{sz by_:Nat}{z:Value}{ρ:py->Value}{w:World}{o:Oper}{x y:py}
theorem BI (c:Zj S T sz by_ z):Y3.elem S=T:=by
 unfold Program.elem;rw[c.rX]
theorem Rl (c:Zj S T sz by_ z):Y3.underlying S=some (.slice (Y3.elem S)):=by rw[BI c];exact c.rX
theorem YC (c:Zj S T sz by_ z)(w:World):(sizeOf T).run Y3 w=.ok sz w:=by
 obtain⟨j,d,g,f,h⟩:=nK c.inf;simp[sizeOf,typeInfo,d,f]
theorem QV {g n c i:Nat}(d:Zj S T sz by_ z)(j:o.op=.slice S x (some y) none none)(h1:ρ x=.slice (some ⟨g,0,none⟩) n c)(h2:ρ y=.int .i64 (i:Int))(k:i<=n)(hc:i<c):(oB ρ o).run Y3 w=.ok (.value (.slice (some ⟨g,i*sz,none⟩) (n-i) (c-i))) w:=by
 have ht:=Rl d;have f:(i:Int)<=(n:Int):=by omega
 have hs:=YC d;have h:¬ c=i:=by omega
 simp[oB,j,h1,h2,go_sem,run_sliceAt_slice _ _ _ _ _ _ ht,pv,f,run_slice_l (ht:=ht),d.rX,hs,sliced,h,dX]
theorem XM {A:Y5}{n c k:Nat}(d:Zj S T sz by_ z)(g:o.op=.slice S x none (some y) none)(h1:ρ x=.slice A n c)(h2:ρ y=.int .i64 (k:Int))(h:k<=c):(oB ρ o).run Y3 w=.ok (.value (.slice A k c)) w:=by
 have ht:=Rl d;have f:(k:Int)<=(c:Int):=by omega
 have hs:=YC d;simp[oB,g,h1,h2,go_sem,run_sliceAt_slice _ _ _ _ _ _ ht,pv,f,run_slice_h (ht:=ht),d.rX,hs,sliced]
theorem Yt (d:Zj S T sz by_ z)(w:World)(ty:oD)(g off c dCap:Nat)(a:px)(f F m:Nat)(cur:Y7)(t:oD)(cs:Y8)
  (k:za w g t cur) (u:m=Nat.min f c) (hn:cs.length=m*sz)
  (A:∀j v,cs[j]?=some v->w.cell? (a.add j)=some v) (h:off+cs.length<=cur.size) (h1:∀v∈cs,v.oneCell'=true) :
  (dI #[S,S] ty #[.slice (some ⟨g,off,none⟩) c dCap,.slice (some a) f F]).run Y3 w =
   .ok (goInt m) (w.setRow g (cur.toList.take off++cs++cur.toList.drop (off+cs.length)).toArray):=by
 obtain⟨I,r,G,E,H⟩:=nK d.inf;have hl:=run_loadCells_list (P:=Y3) w a cs A;have C:=run_storeCells_at Y3 g off t cs 0 cur w k (by simpa using h) h1;simp[dI,run_underlying d.rX,Builtin.lenOf,Builtin.firstCells,sizeOf,typeInfo,r,E,<-u,<-hn,hl,C]
theorem Vr (d:Zj S T sz by_ z)(w:World)(g n c k:Nat)(cur:Y7)(I:za w g T cur)(hn:n*sz<=cur.size)(H:0<k)(hc:c<n+k)(O:n+k<=1000000)(u:by_<=1000):∃G h,(∀ty,(Builtin.append_ #[S,3] ty #[.slice (some ⟨g,0,none⟩) n c,.int .i64 (k:Int)]).run Y3 w=.ok (.slice (some ⟨w.heap.size,0,none⟩) (n+k) G) (w.drew.alloc (.cells h T)))/\n+k<=G/\G<=oo/\h.size=G*sz/\h.toList.take (n*sz)=cur.toList.take (n*sz):=by
 obtain⟨r,L,W,C,E⟩:=nK d.inf;have hd:za w.drew g T cur:=I;have U:(Builtin.firstCells r.size n (.slice (some ⟨g,0,none⟩) n c)).run Y3 w.drew=.ok (cur.toList.take (n*sz)).toArray w.drew:=by
  refine run_firstCells_some (P:=Y3) w.drew r.size n ⟨g,0,none⟩ n c (cur.toList.take (n*sz)) (by rw[zZ,C];simp;omega) (λj v f => ?_);rw[yH] at f;split at f
  ·rw[dX,qC,hd.cell];simpa using f
  ·cases f
 have A:=grownCap_ge w (n+k) c T;have M:=grownCap_le_maxLen w (n+k) c T (by unfold oo;omega);have X:(n+k)*by_<=1000000*1000:=Nat.mul_le_mul O u;have Z:k*by_<=1000000*1000:=Nat.mul_le_mul (by omega) u;have V:=λty=>Lib.run_append_grow_zeros (P:=Y3) w S 3 ty T r z .i64 .i64 d.rX (by kernel_rfl) L W (some ⟨g,0,none⟩) n c (cur.toList.take (n*sz)) U k H (by rw[C];exact d.pos) hc (by omega) (by rw[E];omega) (by rw[E];exact growslice_fits hc (by omega))
 have N:(cur.toList.take (n*sz)).length=n*sz:=by rw[zZ];simp;omega
 have F:∀m,(gK z.cells m).size=m*sz:=λm=>by unfold gK;simp[d.zs]
 generalize grownCap w (n+k) c T=G at *;refine⟨_,_,V,A,M,?_,?_⟩
 ·rw[Array.size_append,Array.size_append,F,F,zR,N,<-Nat.add_mul,<-Nat.add_mul,Nat.add_sub_cancel' A]
 ·rw[Array.toList_append,Array.toList_append,qO,dM (by simp;omega)];rw[db,Nat.min_self]
end
theorem Oa {L X Y C:Y8}{sz i n:Nat}(A:C.length=sz)(g:X=L.take (i*sz))(h:Y=(L.take (n*sz)).drop (i*sz))(j:i<=n)(E:(n+1)*sz<=L.length):let c:=L.take ((i+1)*sz)++Y++L.drop ((i+1)*sz+Y.length)
  let d:=c.take (i*sz)++C++c.drop (i*sz+C.length)
  d.take ((n+1)*sz)=X++C++Y/\c.length=L.length/\d.length=L.length:=by
 have r:(n+1)*sz=n*sz+sz:=Nat.succ_mul _ _;have u:(i+1)*sz=i*sz+sz:=Nat.succ_mul _ _;have v:i*sz<=n*sz:=nC _ j;have G:Y.length=n*sz-i*sz:=by rw[h,qD,zZ];omega
 have F:X.length=i*sz:=by rw[g,zZ];omega
 have ht:(L.take ((i+1)*sz)).length=(i+1)*sz:=by rw[zZ];omega
 intro c d;have k:c.length=L.length:=by
  show (L.take ((i+1)*sz)++Y++L.drop ((i+1)*sz+Y.length)).length=L.length
  rw[zH,zH,ht,qD];omega
 have h1:c.take (i*sz)=X:=by
  show (L.take ((i+1)*sz)++Y++L.drop ((i+1)*sz+Y.length)).take (i*sz)=X
  rw[qO,dM (by omega),db,g];congr 1;omega
 have h2:c.drop (i*sz+C.length)=Y++L.drop ((i+1)*sz+Y.length):=by
  show (L.take ((i+1)*sz)++Y++L.drop ((i+1)*sz+Y.length)).drop (i*sz+C.length)=_
  rw[qO,List.drop_left' (by omega)]
 have f:d=X++C++(Y++L.drop ((i+1)*sz+Y.length)):=by
  show c.take (i*sz)++C++c.drop (i*sz+C.length)=_
  rw[h1,h2]
 refine⟨?_,k,?_⟩
 ·rw[f,<-qO,List.take_left' (by rw[zH,zH];omega)]
 ·rw[f,zH,zH,zH,qD];omega
theorem CU {L X Y C:Y8}{sz i n:Nat}(A:C.length=sz)(h:L.take (i*sz)=X)(F:X.length=i*sz)(G:Y.length=n*sz-i*sz)(j:i<=n)(E:(n+1)*sz<=L.length):let c:=L.take (i*sz)++C++L.drop (i*sz+C.length)
  let d:=c.take ((i+1)*sz)++Y++c.drop ((i+1)*sz+Y.length)
  d.take ((n+1)*sz)=X++C++Y/\c.length=L.length/\d.length=L.length:=by
 have r:(n+1)*sz=n*sz+sz:=Nat.succ_mul _ _;have u:(i+1)*sz=i*sz+sz:=Nat.succ_mul _ _;have v:i*sz<=n*sz:=nC _ j;intro c d;have f:c=X++C++L.drop (i*sz+C.length):=by
  show L.take (i*sz)++C++L.drop (i*sz+C.length)=_
  rw[h]
 have k:c.length=L.length:=by rw[f,zH,zH,qD];omega
 have g:d=X++C++Y++c.drop ((i+1)*sz+Y.length):=by
  show c.take ((i+1)*sz)++Y++c.drop ((i+1)*sz+Y.length)=_
  rw[show c.take ((i+1)*sz)=X++C by rw[f];exact List.take_left' (by rw[zH];omega)]
 refine⟨?_,k,?_⟩
 ·rw[g];exact List.take_left' (by rw[zH,zH];omega)
 ·rw[g,zH,zH,zH,qD];omega
theorem vG {a c:World}{row:Option Nat}(h:a.grownBy c row){b:Nat}(g:a.heap.size<=b)(cs:Y7):a.grownBy (c.setRow b cs) row :=
 ⟨h.os,h.tape,h.output,by simp[oe];exact h.size,λk d f=>(oL c b k cs (by omega)).trans (h.block k d f)⟩
theorem Yk {a c:World}{row:Option Nat}(h:a.grownBy c row)(x:Obj):a.grownBy (c.alloc x) row :=
 ⟨h.os,h.tape,h.output,by rw[pq];exact Nat.le_succ_of_le h.size,λk d f=>(Below.heap_alloc c x k (zO d h.size)).trans (h.block k d f)⟩
theorem vm {w:World}{o:Oper}{ρ:py->Value}(T:oD)(x y:py)(f:o.op=.store T x y)(g:Nat){t:oD}{cs cs':Y7}(h:ρ x=.pointer (some ⟨g,0,none⟩))(j:ρ y=.agg cs'){m:Nat}(c:yx Y3 T m)(d:za w g t cs)(hn:cs.size=m)(hs:cs'.size=cs.size)(h1:∀v∈cs'.toList,v.oneCell'=true):(oB ρ o).run Y3 w=.ok .skip (w.setRow g cs'):=by
 unfold oB;simp only[f,h,j,Instr.storeAt,Instr.sureAddr,oY,oU,oO,Qt (hn▸c) d hs h1]
theorem yp.drop {w:World}{B sz g o n c:Nat}{cs:Y8}(h:yp w B sz (some ⟨g,o,none⟩) n c cs)(k:Nat)(E:k<=n):yp w B sz (some ⟨g,o+k*sz,none⟩) (n-k) (c-k) (cs.drop (k*sz)):=by
 refine⟨by have:=h.le;omega,by have:=h.max;omega,(λe=>by cases e),?_,λv u=>h.one v (qV u),λC => ?_⟩
 ·rw[qD,h.len,Nat.sub_mul]
 ·obtain⟨A,o',e,f,r⟩:=h.rC (by omega);injection e with e
  injection e with e1 e2
  subst e1 e2;refine⟨g,o+k*sz,rfl,f,λj v d => ?_⟩;rw[List.getElem?_drop] at d;rw[dq];exact r _ v d
theorem BU (cs:List xK)(k:Nat):(vV cs).take (k*4)=vV (cs.take k):=by
 induction cs generalizing k with
 | nil=>simp[vV]
 | cons c cs ih =>
  cases k with
  | zero=>simp[vV]
  | succ k =>
   have e:vV (c::cs)=zm c++vV cs:=rfl;have d:vV ((c::cs).take (k+1))=zm c++vV (cs.take k):=rfl;rw[e,d,<-ih k,show (k+1)*4=(zm c).length+k*4 from by show _=4+_;omega,List.take_length_add_append]
theorem BW (cs:List xK)(k:Nat):(vV cs).drop (k*4)=vV (cs.drop k):=by
 induction cs generalizing k with
 | nil=>simp[vV]
 | cons c cs ih =>
  cases k with
  | zero=>simp
  | succ k =>
   have e:vV (c::cs)=zm c++vV cs:=rfl;rw[e,show (k+1)*4=(zm c).length+k*4 from by show _=4+_;omega,List.drop_length_add_append,ih k];rfl
def Kr (n:Nat)(Ac Ak Ai:Y5):Prop:=∀g o,(Ac=some ⟨g,o,none⟩∨Ak=some ⟨g,o,none⟩∨Ai=some ⟨g,o,none⟩)->n<=g
def Yc (w:World)(x:yo)(e:dT)(w':World):Prop:=∃(k:Nat) (Ac:Y5) (cc:Nat) (Ak:Y5) (ck:Nat) (Ai:Y5) (ci:Nat) (Bc:Y5) (dc:Nat) (Bk:Y5) (dk:Nat) (Bi:Y5) (di:Nat),
 kn (qh x) (xj x) k/\vQ x<=xM x/\e=Y0 (.tuple #[.agg (zu (xG x k) Ac cc Ak ck Ai ci),.agg (zu (yT x k) Bc dc Bk dk Bi di),.string (yn x k),.int .i64 0]) /\
 XH w' w'.heap.size (xG x k) Ac cc Ak ck Ai ci/\XH w' w'.heap.size (yT x k) Bc dc Bk dk Bi di/\ph w.heap.size w w'/\Kr w.heap.size Ac Ak Ai/\Kr w.heap.size Bc Bk Bi
theorem Pd (w:World)(x:yo)(Ac:Y5)(cc:Nat)(Ak:Y5)(ck:Nat)(Ai:Y5)(ci:Nat)(h:XH w w.heap.size x Ac cc Ak ck Ai ci)(hl:x.cells.length<=1000)(bC:x.keys.length<=1000)(bD:x.kids.length<=1001)(Z:yj x)(hf:x.leaf=true)(hs:512<(qb x).length)(hn:2<=xM x):pr Y3 137 #[.agg (zu x Ac cc Ak ck Ai ci)] w (Yc w x):=by
 have HL:∀W,ph w.heap.size w W->pr Y3 151 #[.agg (zu x Ac cc Ak ck Ai ci)] W (yU W (qb x)):=λW j=>YS W x Ac cc Ak ck Ai ci (h.grow j) hl bC bD Z
 have aZ:∀W,ph w.heap.size w W->pr Y3 208 #[.agg (zu x Ac cc Ak ck Ai ci)] W (Ut W (qh x)):=λW j=>Jj W x Ac cc Ak ck Ai ci (h.grow j) (by omega) (by omega) (by omega) Z
 have aT:=Ql Z;have bB:(qh x).flatten.length<=1000000:=by
  have:=jd (qh x) 200 (Zt Z);have:(qh x).length<=1000:=by rw[aT];unfold xM;rw[hf];exact hl
  omega
 obtain⟨b8,b0,bY⟩:=Z.leaf hf;have bE:xj x=x.cells.length-1:=by unfold xj;rw[hf];rfl
 have aU:xM x=x.cells.length:=by unfold xM;rw[hf];rfl
 have bF:vQ x<=xM x:=by unfold vQ;rw[hf];exact hn
 have bG:∀k,(hk:k<x.cells.length)->yn x k=x.cells[k].key:=λk hk=>by rw[Yy (by rw[Jh,aU];exact hk)];unfold qi;simp only[hf,if_true,List.getElem_map]
 have HG:∀(k:Nat) (e:dT) (w':World),(∃(A:Y5) (c:Nat) (B:Y5) (d:Nat),kn (qh x) (xj x) k/\e=Y0 (.tuple #[.agg #[.bool true,.slice A (x.cells.take k).length c,.slice none 0 0,.slice none 0 0],.agg #[.bool true,.slice B (x.cells.drop k).length d,.slice none 0 0,.slice none 0 0],.string (yn x k),.int .i64 0])/\yp w' w'.heap.size 4 A (x.cells.take k).length c (vV (x.cells.take k))/\yp w' w'.heap.size 4 B (x.cells.drop k).length d (vV (x.cells.drop k))/\ph w.heap.size w w'/\(∀g o,A=some ⟨g,o,none⟩->w.heap.size<=g)/\(∀g o,B=some ⟨g,o,none⟩->w.heap.size<=g))->Yc w x e w':=by
  rintro k e w' ⟨A,c,B,d,h1,rfl,h2,L,I,n1,n2⟩;refine⟨k,A,c,none,0,none,0,B,d,none,0,none,0,h1,bF,?_,?_,?_,I,(λg o e=>e.elim (n1 g o) (λe=>e.elim (λe=>nomatch e) (λe=>nomatch e))),(λg o e=>e.elim (n2 g o) (λe=>e.elim (λe=>nomatch e) (λe=>nomatch e)))⟩
  ·unfold xG yT zu;rw[hf];rfl
  ·unfold xG;rw[hf];exact⟨h2,yp.mt _ _ _,yp.mt _ _ _⟩
  ·unfold yT;rw[hf];exact⟨L,yp.mt _ _ _,yp.mt _ _ _⟩
 have cS:(512:Int)<((qb x).length:Int):=by omega
 rw[aU] at aT hn;rw[bE] at HG;generalize qb x=lb at *;generalize qh x=ls at *;generalize yn x=pt at *;generalize Yc w x=GO at *;have hc:=h.c;clear bC bD Z bF bY;obtain⟨b1,hx,aA⟩:=BZ w (zu x Ac cc Ak ck Ai ci);unfold zu at *;obtain⟨W1,aM⟩:=Z9 (Av w #[.bool x.leaf,.slice Ac x.cells.length cc,.slice Ak x.keys.length ck,.slice Ai x.kids.length ci]);rw[<-aM] at b1 hx aA;unfold Av at aM;have bV:=pk aM;clear aM;obtain⟨leaf,cells,keys,kids⟩:=x;simp only at *;subst hf b8 b0;simp only[zY] at *;have cU:(2:Int)<=(ls.length:Int):=by omega
 have cW:IntKind.i64.wrap ((ls.length:Int)-1)=((cells.length-1:Nat):Int):=by rw[xd _];omega
 obtain⟨u,C,rfl,bZ,cA⟩:=hc.rC (by omega);have cT:=hc.le;have a5:=λW base A c vs (hL:Zg W base (.slice A ls.length c) ls vs)=>Vf W base A c ls vs hL bB (by omega) (cells.length-1) (by omega)
 unfold Ko at a5;have cL:2<=cells.length:=by omega
 have bU:=pk bG;have bR:=pk HG;clear aT bE aU bG HG hn bB
 go_enter_defers func137,ntmps137
 go_wp2_with (first
  | (rw[<-bV.out];refine xA zj b1 ?_)
  | (go_at_call 151;refine(HL _ aA).mono ?_;rintro e w2 ⟨v,rfl,own,aB⟩;obtain⟨A2,c2,rfl,b5⟩:=own.inB;have bH:=hx.rJ aB;have b2:=b1.below aB b1.lt;have aQ:=aA.trans (aB.mono aA.size))
  | (refine xA zj b2 ?_)
  | (go_at_call 208;refine(aZ _ aQ).mono ?_;rintro e w3 ⟨A3,c3,vs,rfl,a9,aC⟩;have bI:=bH.rJ aC;have b3:=b2.below aC b2.lt;have a6:=aQ.trans (aC.mono aQ.size);have k0:w3.cell? ⟨w.heap.size,0,none⟩=some (.bool true):=(by rw[b3.cell];rfl))
  | (go_at_call 152;refine(yr _ _ _).mono ?_;rintro e w7 ⟨rfl,H⟩;obtain⟨v7,rfl⟩:=H.1 rfl)
  | (go_at_call 152;refine(yr _ _ _).mono ?_;rintro e w7 ⟨rfl,H⟩;obtain rfl:=H.2 (decide_eq_false (by omega)))
  | (go_at_call 209;refine(a5 _ _ _ _ _ a9).mono ?_;rintro e F ⟨k,rfl,a8,aD⟩))
 have cM:=a8.le;have hk:k<cells.length:=by omega
 have aV:=bI.rJ aD;have b4:=b3.below aD b3.lt;have aR:=a6.trans (aD.mono a6.size);have kc:F.cell? ⟨w.heap.size,1,none⟩=some (.slice (some ⟨u,C,none⟩) cells.length cc):=by rw[b4.cell];rfl
 have b9:w.heap.size<F.heap.size:=b4.lt;have cV:=aV.e.lt;have aP:∀W,ph (w.heap.size+1) F W->W.cell? ⟨w.heap.size,1,none⟩=some (.slice (some ⟨u,C,none⟩) cells.length cc):=λW j=>(j.cell (p:=⟨w.heap.size,1,none⟩) (Nat.lt_succ_self _)).trans kc
 have bS:∀W,ph (w.heap.size+1) F W->W.cell? ⟨u,C+k*4,none⟩=some (.string cells[k].key):=λW j=>(j.cell (p:=⟨u,C+k*4,none⟩) (by show u<_;omega)).trans ((aR.cell (p:=⟨u,C+k*4,none⟩) bZ).trans (tl (VU hc rfl k hk)))
 have bA:∀W,ph (w.heap.size+1) F W->yp W W.heap.size 4 (some ⟨u,C,none⟩) cells.length cc (vV cells):=λW j=>(hc.below (aR.trans (j.mono (gI _)))).more (by have:=j.size;omega)
 have aN:(cells.take k).length=k:=by rw[zZ];omega
 have aO:(cells.drop k).length=cells.length-k:=qD;have bP:∀W,ph (w.heap.size+1) F W->pr Y3 146 #[.slice (some ⟨u,C,none⟩) k cc] W λe w'=>∃A c,e=Y0 (.slice A k c)/\w'.ownsRow W.heap.size 94 4 (.slice A k c) k (vV (cells.take k))/\ph W.heap.size W w':=λW j=>by have:=Xf W (some ⟨u,C,none⟩) cc (cells.take k) (by rw[aN,<-BU];exact(bA W j).take k cc (by omega) (by omega) (zG _)) (by omega);unfold Us at this;rw[aN] at this;exact this
 have bQ:∀W,ph (w.heap.size+1) F W->pr Y3 146 #[.slice (some ⟨u,C+k*4,none⟩) (cells.length-k) (cc-k)] W λe w'=>∃A c,e=Y0 (.slice A (cells.length-k) c)/\w'.ownsRow W.heap.size 94 4 (.slice A (cells.length-k) c) (cells.length-k) (vV (cells.drop k))/\ph W.heap.size W w':=λW j=>by have:=Xf W (some ⟨u,C+k*4,none⟩) (cc-k) (cells.drop k) (by rw[aO,<-BW];exact(bA W j).drop k (by omega)) (by omega);unfold Us at this;rw[aO] at this;exact this
 have a4:=bU.out k hk;generalize cells[k].key=key at *;have bT:=pk a4;have cN:(k:Int)<(cells.length:Int):=by omega
 have cO:(k:Int)<=(cells.length:Int):=by omega
 have cP:(k:Int)<=(cc:Int):=by omega
 have cQ:(0:Int)<=(k:Int):=by omega
 have cR:¬ cc=k:=by omega
 have G:ph (w.heap.size+1) F F.drew:=(pf _ F).drew;have cC:=aV.base.drew;clear HL aZ aA aB aC aD b1 b2 b3 b4 kc hc cA a4 hx bH bI aV a9 own b5;refine wp_region_noPanic ?_;refine zb.st (λW=>ph (w.heap.size+1) F W) 27 ?_;refine zb.q 0 (.pointer (some ⟨w.heap.size,1,none⟩)) G ?_;refine zb.t 1 (.slice (some ⟨u,C,none⟩) cells.length cc) rfl G (λW j=>by have e:=aP W j;go_simp) ?_;refine zb.q 2 (.int .i64 (k:Int)) G ?_;refine zb.q 3 (.slice (some ⟨u,C,none⟩) k cc) G ?_;refine zb.q 5 (.pointer (some ⟨w.heap.size,1,none⟩)) G ?_;refine zb.t 6 (.slice (some ⟨u,C,none⟩) cells.length cc) rfl G (λW j=>by have e:=aP W j;go_simp) ?_;refine zb.q 7 (.int .i64 (k:Int)) G ?_;refine zb.q 8 (.slice (some ⟨u,C+k*4,none⟩) (cells.length-k) (cc-k)) G ?_;refine zb.q 10 (.pointer (some ⟨w.heap.size,1,none⟩)) G ?_;refine zb.t 11 (.slice (some ⟨u,C,none⟩) cells.length cc) rfl G (λW j=>by have e:=aP W j;go_simp) ?_;refine zb.q 12 (.int .i64 (k:Int)) G ?_;refine zb.q 13 (.pointer (some ⟨u,C+k*4,none⟩)) G ?_;refine zb.q 14 (.pointer (some ⟨u,C+k*4,none⟩)) G ?_;refine zb.t 15 (.string key) rfl G (λW j=>by have e:=bS W j;go_simp) ?_;simp only[Z8];refine zb.n 4 ?_;refine zb.oC 146 #[.tmp 31] #[65] #[.slice (some ⟨u,C,none⟩) k cc] ((bP _ G).mono ?_) (zb.eo func146);rintro e w5 ⟨O,c5,rfl,cJ,a7⟩;have X:ph (w.heap.size+1) F w5:=G.trans (a7.mono b9);have cB:=cC.rJ a7;refine⟨_,rfl,λ_=>X,?_⟩;simp only[Z8];refine zb.n 9 ?_;refine zb.oC 146 #[.tmp 36] #[65] #[.slice (some ⟨u,C+k*4,none⟩) (cells.length-k) (cc-k)] ((bQ _ X).mono ?_) (zb.eo func146);rintro e w6 ⟨P,c6,rfl,aY,aS⟩;have bW:ph (w.heap.size+1) F w6:=X.trans (aS.mono (by have:=X.size;omega));have aW:=cB.rJ aS;have aX:=qw cJ aS;refine⟨_,rfl,λ_=>bW,?_⟩;simp only[Z8];refine zb.n 16 ?_;refine zb.opS rfl rfl (vm (cs':=#[.bool false,.slice none 0 0,.slice none 0 0,.slice none 0 0]) 69 (.tmp 2) (.const (.agg #[.bool false,.slice none 0 0,.slice none 0 0,.slice none 0 0])) rfl (w.heap.size+1) rfl rfl zj aW.a (by rfl) (by rfl) (Zo)) ⟨λ_=>(aW.sB #[.bool false,.slice none 0 0,.slice none 0 0,.slice none 0 0]).h,?_⟩;have h1:=aW.sB #[.bool false,.slice none 0 0,.slice none 0 0,.slice none 0 0];obtain⟨V1,aE⟩:∃V,oe w6 (w.heap.size+1) #[.bool false,.slice none 0 0,.slice none 0 0,.slice none 0 0]=V:=⟨_,rfl⟩;have o1:∀r,w.heap.size+1+1+1+1<r->V1.heap[r]?=w6.heap[r]?:=λr E=>by rw[<-aE];exact oL _ _ r _ (by omega)
 rw[aE] at h1;rw[aE];clear aE;simp only[zD,zC,zB,pj];refine zb.n 17 ?_;refine zb.opV (.pointer (some ⟨w.heap.size+1,0,none⟩)) rfl rfl (by go_simp) ⟨λ_=>h1.h,?_⟩;simp only[Z8];have bJ:=h1.a.cell 0;have cD:=h1.a.free 0;simp only[qN,qX] at bJ;refine zb.n 18 ?_;refine zb.opS (w':=oh V1 ⟨w.heap.size+1,0,none⟩ (.bool true)) rfl rfl (by go_simp) ⟨(λ_=>(h1.rq 0 (.bool true)).h),?_⟩;have h2:=h1.rq 0 (.bool true);obtain⟨V2,aF⟩:∃V,oh V1 ⟨w.heap.size+1,0,none⟩ (.bool true)=V:=⟨_,rfl⟩;have o2:∀r,w.heap.size+1+1+1+1<r->V2.heap[r]?=w6.heap[r]?:=λr E=>by rw[<-aF];exact(oI _ _ _ r (by show r≠w.heap.size+1;omega)).trans (o1 r E)
 rw[aF] at h2;rw[aF]
 try simp only[zA,zF] at h2
 clear aF bJ cD;simp only[zD,zC,zB,pj];refine zb.n 19 ?_;refine zb.opV (.pointer (some ⟨w.heap.size+1,1,none⟩)) rfl rfl (by go_simp) ⟨λ_=>h2.h,?_⟩;simp only[Z8];have bK:=h2.a.cell 1;have cE:=h2.a.free 1;simp only[qN,qX,qY] at bK;refine zb.n 20 ?_;refine zb.opS (w':=oh V2 ⟨w.heap.size+1,1,none⟩ (.slice O k c5)) rfl rfl (by go_simp) ⟨(λ_=>(h2.rq 1 (.slice O k c5)).h),?_⟩;have L:=h2.rq 1 (.slice O k c5);obtain⟨V3,aG⟩:∃V,oh V2 ⟨w.heap.size+1,1,none⟩ (.slice O k c5)=V:=⟨_,rfl⟩;have o3:∀r,w.heap.size+1+1+1+1<r->V3.heap[r]?=w6.heap[r]?:=λr E=>by rw[<-aG];exact(oI _ _ _ r (by show r≠w.heap.size+1;omega)).trans (o2 r E)
 rw[aG] at L;rw[aG]
 try simp only[zA,zF,zE] at L
 clear aG bK cE;simp only[zD,zC,zB,pj];refine zb.n 21 ?_;refine zb.opS rfl rfl (vm (cs':=#[.bool false,.slice none 0 0,.slice none 0 0,.slice none 0 0]) 69 (.tmp 3) (.const (.agg #[.bool false,.slice none 0 0,.slice none 0 0,.slice none 0 0])) rfl (w.heap.size+1+1) rfl rfl zj L.b (by rfl) (by rfl) (Zo)) ⟨λ_=>(L.sC #[.bool false,.slice none 0 0,.slice none 0 0,.slice none 0 0]).h,?_⟩;have I:=L.sC #[.bool false,.slice none 0 0,.slice none 0 0,.slice none 0 0];obtain⟨V4,aH⟩:∃V,oe V3 (w.heap.size+1+1) #[.bool false,.slice none 0 0,.slice none 0 0,.slice none 0 0]=V:=⟨_,rfl⟩;have o4:∀r,w.heap.size+1+1+1+1<r->V4.heap[r]?=w6.heap[r]?:=λr E=>by rw[<-aH];exact(oL _ _ r _ (by omega)).trans (o3 r E)
 rw[aH] at I;rw[aH];clear aH;simp only[zD,zC,zB,pj];refine zb.n 22 ?_;refine zb.opV (.pointer (some ⟨w.heap.size+1+1,0,none⟩)) rfl rfl (by go_simp) ⟨λ_=>I.h,?_⟩;simp only[Z8];have bL:=I.b.cell 0;have cF:=I.b.free 0;simp only[qN,qX] at bL;refine zb.n 23 ?_;refine zb.opS (w':=oh V4 ⟨w.heap.size+1+1,0,none⟩ (.bool true)) rfl rfl (by go_simp) ⟨(λ_=>(I.rj 0 (.bool true)).h),?_⟩;have M:=I.rj 0 (.bool true);obtain⟨V5,aI⟩:∃V,oh V4 ⟨w.heap.size+1+1,0,none⟩ (.bool true)=V:=⟨_,rfl⟩;have o5:∀r,w.heap.size+1+1+1+1<r->V5.heap[r]?=w6.heap[r]?:=λr E=>by rw[<-aI];exact(oI _ _ _ r (by show r≠w.heap.size+1+1;omega)).trans (o4 r E)
 rw[aI] at M;rw[aI]
 try simp only[zA,zF] at M
 clear aI bL cF;simp only[zD,zC,zB,pj];refine zb.n 24 ?_;refine zb.opV (.pointer (some ⟨w.heap.size+1+1,1,none⟩)) rfl rfl (by go_simp) ⟨λ_=>M.h,?_⟩;simp only[Z8];have bM:=M.b.cell 1;have cG:=M.b.free 1;simp only[qN,qX,qY] at bM;refine zb.n 25 ?_;refine zb.opS (w':=oh V5 ⟨w.heap.size+1+1,1,none⟩ (.slice P (cells.length-k) c6)) rfl rfl (by go_simp) ⟨(λ_=>(M.rj 1 (.slice P (cells.length-k) c6)).h),?_⟩;have U:=M.rj 1 (.slice P (cells.length-k) c6);obtain⟨V6,aJ⟩:∃V,oh V5 ⟨w.heap.size+1+1,1,none⟩ (.slice P (cells.length-k) c6)=V:=⟨_,rfl⟩;have o6:∀r,w.heap.size+1+1+1+1<r->V6.heap[r]?=w6.heap[r]?:=λr E=>by rw[<-aJ];exact(oI _ _ _ r (by show r≠w.heap.size+1+1;omega)).trans (o5 r E)
 rw[aJ] at U;rw[aJ]
 try simp only[zA,zF,zE] at U
 clear aJ bM cG;simp only[zD,zC,zB,pj];have bN:=U.s.cell 0;have cH:=U.s.free 0;simp only[qN,qX] at bN;refine zb.n 26 ?_;refine zb.opS (w':=oh V6 ⟨w.heap.size+1+1+1,0,none⟩ (.string key)) rfl rfl (by go_simp) ⟨(λ_=>(U.sX (.string key)).h),?_⟩;have H:=U.sX (.string key);obtain⟨V7,aK⟩:∃V,oh V6 ⟨w.heap.size+1+1+1,0,none⟩ (.string key)=V:=⟨_,rfl⟩;have o7:∀r,w.heap.size+1+1+1+1<r->V7.heap[r]?=w6.heap[r]?:=λr E=>by rw[<-aK];exact(oI _ _ _ r (by show r≠w.heap.size+1+1+1;omega)).trans (o6 r E)
 rw[aK] at H;rw[aK]
 try simp only[qN,qX,qY,zA,zF,zE] at H
 clear aK bN cH;simp only[zD,zC,zB,pj];have bO:=H.e.cell 0;have cI:=H.e.free 0;simp only[qN,qX] at bO;refine zb.n 27 ?_;refine zb.opS (w':=oh V7 ⟨w.heap.size+1+1+1+1,0,none⟩ (.int .i64 0)) rfl rfl (by go_simp) ⟨(λh=>absurd rfl h),?_⟩;have N:=H.pP (.int .i64 0);obtain⟨V8,aL⟩:∃V,oh V7 ⟨w.heap.size+1+1+1+1,0,none⟩ (.int .i64 0)=V:=⟨_,rfl⟩;have o8:∀r,w.heap.size+1+1+1+1<r->V8.heap[r]?=w6.heap[r]?:=λr E=>by rw[<-aL];exact(oI _ _ _ r (by show r≠w.heap.size+1+1+1+1;omega)).trans (o7 r E)
 rw[aL] at N;rw[aL]
 try simp only[qN,qX,qY,zA,zF,zE] at N
 clear aL bO cI;simp only[zD,zC,zB,pj];refine zb.dn ?_;refine NoPanic.normal ?_;go_wp2;refine leaves_cons (f:=149) (args:=#[.pointer (some ⟨w.heap.size+1+1+1+1,0,none⟩),.func (.func 207) #[] #[.pointer (some ⟨w.heap.size+1,0,none⟩),.pointer (some ⟨w.heap.size+1+1,0,none⟩),.pointer (some ⟨w.heap.size+1+1+1,0,none⟩)]]) (by simp) (by simp[go_sem]) ?_;refine(QG _ _ _).mono ?_;rintro e u' wz ⟨rfl,rfl,rfl⟩;obtain⟨a0,a1,a2,a3⟩:=Bb N.a;obtain⟨d0,d1,d2,d3⟩:=Bb N.b;have q3:=N.s.boxed;have q4:=N.e.boxed;have bX:ph w.heap.size w wz:=aR.trans (N.h.mono (gI _));have ownA:=ql (w':=wz) aX λr E=>o8 r (by have:=zh aX r E;have e:F.drew.heap.size=F.heap.size:=rfl;omega)
 have cK:=ql (w':=wz) aY λr E=>o8 r (by have:=zh aY r E;have:=X.size;omega)
 have nA:=λg (o:Nat) (e:O=some ⟨g,o,none⟩)=>(by have:=zh aX g (by rw[e];rfl);have e:F.drew.heap.size=F.heap.size:=rfl;omega:w.heap.size<=g)
 have nB:=λg (o:Nat) (e:P=some ⟨g,o,none⟩)=>(by have:=zh aY g (by rw[e];rfl);have:=X.size;omega:w.heap.size<=g)
 obtain⟨Aa,ca,ea,b6⟩:=qn ownA (Ya _);obtain⟨Ab,cb,eb,b7⟩:=qn cK (Ya _);injection ea with ea1 ea2 ea3
 injection eb with eb1 eb2 eb3
 subst ea1 ea3 eb1 eb3;simp[Leaves,settle,results,Tryz.results137,go_sem,a0,a1,a2,a3,d0,d1,d2,d3,q3,q4];refine bR.out k _ _ ⟨O,c5,P,c6,a8,?_,?_,?_,bX,nA,nB⟩
 ·rw[aN,aO,bT.out]
 ·rw[aN];exact b6
 ·rw[aO];exact b7
end
end Go.Proofs.YtohmkffoojdahaaGreat
