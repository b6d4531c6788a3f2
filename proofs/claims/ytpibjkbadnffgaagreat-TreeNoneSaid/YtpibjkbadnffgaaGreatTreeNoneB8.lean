/- Texts that the proof of TreeNone leans on, part 8. -/
import Derived.Laws.CopyRow
import Derived.Lib.AppendZerosOnto
import Derived.Lib.Overlaps
import Derived.OrdersHeld
import Derived.Test.YtpibjkbadnffgaaGreatTreeNoneB7
open List renaming setIfInBounds_toArray → zA, set_cons_zero → zG, set_cons_succ → zF, eq_nil_of_length_eq_zero → zZ, nil_append → zV, map_toArray → zK, map_cons → zL, map_nil → zN, getElem_toArray → zE, getElem_cons_zero → zB, getElem_cons_succ → zD, mem_append → qK, mem_singleton → qN, length_append → zJ, length_map → qM, length_cons → zP, take_succ_eq_append_getElem → zW, replicate → zR, length_take → qG, size_toArray → zT, length_drop → qQ, all_eq_true → qJ
open Nat renaming le_trans → zU, le_refl → zH, zero_add → qC, lt_of_lt_of_le → zO
set_option linter.unusedVariables false
set_option maxRecDepth 100000
set_option maxHeartbeats 8000000

namespace Go.Proofs.YtpibjkbadnffgaaGreat
open Go Go.RowKit Lou
structure Bq (n q:Nat)(w w':World):Prop where
 os:w'.os=w.os
 tape:w'.tape=w.tape
 output:w'.output=w.output
 size:w.heap.size<=w'.heap.size
 block:∀k,k<n->k≠q->w'.heap[k]? = w.heap[k]?
theorem Bq.of {n q:Nat}{w w':World}(h:Below n w w'):Bq n q w w':=⟨h.os,h.tape,h.output,h.size,λk c _=>h.block k c⟩
theorem Bq.trans {n q:Nat}{a b c:World}(h:Bq n q a b)(k:Bq n q b c):Bq n q a c:=⟨k.os.trans h.os,k.tape.trans h.tape,k.output.trans h.output,zU h.size k.size,λj h1 h2=>(k.block j h1 h2).trans (h.block j h1 h2)⟩
theorem Bq.call {n q:Nat}{a b c:World}(h:Bq n q a b)(hn:n<=b.heap.size)(d:b.grownBy c (some q)):Bq n q a c :=
 h.trans ⟨d.os,d.tape,d.output,d.size,λj h1 h2=>d.block j (by omega) (λe=>h2 (by injection e))⟩
theorem Bq.setRow {n q:Nat}{a b:World}(h:Bq n q a b){g:Nat}(c:n<=g)(cs:Array Value):Bq n q a (b.setRow g cs):=h.trans (.of (below_setRow (Below.refl n b) c cs))
theorem Bq.grown {q:Nat}{w w':World}(h:Bq w.heap.size q w w'):w.grownBy w' (some q):=⟨h.os,h.tape,h.output,h.size,λk d c=>h.block k d (λe=>c (by rw[e]))⟩
theorem RdIs.past {w w':World}{q B n:Nat}{l:List UInt8}(h:RdIs w q B l)(hB:Below n w w')(hq:q<n)(d:B<=n):RdIs w' q B l:=by
 obtain⟨A,c,h1,h2⟩:=h
 exact⟨A,c,h1.below hB hq,h2.below (hB.mono d)⟩
theorem RdIs.lt {w:World}{q B:Nat}{l:List UInt8}(h:RdIs w q B l):q<w.heap.size:=by
 obtain⟨A,c,h1,_⟩:=h
 exact h1.lt
theorem cell_box (w:World)(cs:Array Value):∃W,((w.alloc (.cells #[.string { data:=#[] },.string { data:=#[] },.int .i64 0,.int .i64 0] 49)).setRow w.heap.size cs)=W/\BlkIs W w.heap.size 49 cs/\Below w.heap.size w W :=
 ⟨_,rfl,(BlkIs.new w 49 #[.string { data:=#[] },.string { data:=#[] },.int .i64 0,.int .i64 0]).setRow cs,below_setRow ((Below.refl _ w).alloc (zH _) _) (zH _) cs⟩
theorem four_oneC {v0 v1 c v3:Value}(g:v0.oneCell'=true)(h1:v1.oneCell'=true)(h2:c.oneCell'=true)(f:v3.oneCell'=true):∀v∈(#[v0,v1,c,v3]:Array Value).toList,v.oneCell'=true:=by
 intro v d
 simp at d
 rcases d with rfl|rfl|rfl|rfl<;>assumption
theorem rcell_gives (w:World)(q B:Nat)(l:List UInt8)(h:RdIs w q B l)(hq:B<=q):Calls Tryz.prog 218 #[.pointer (some ⟨q,0,none⟩)] w (RdOut (λc:Cel => .agg (celC c).toArray) (rdCel l) q B w):=by
 have aG:=h.lt
 have O:Below w.heap.size w (w.alloc (.cells #[.string { data:=#[] },.string { data:=#[] },.int .i64 0,.int .i64 0] 49)):=(Below.refl _ w).alloc (zH _) _
 have p1:=BlkIs.new w 49 #[.string { data:=#[] },.string { data:=#[] },.int .i64 0,.int .i64 0]
 have h1:=h.past O aG (by omega)
 have g1:Bq w.heap.size q w (w.alloc (.cells #[.string { data:=#[] },.string { data:=#[] },.int .i64 0,.int .i64 0] 49)):=.of O
 have s1:=World.size_alloc w (.cells #[.string { data:=#[] },.string { data:=#[] },.int .i64 0,.int .i64 0] 49)
 have G:=rtext_gives _ q B l h1 hq
 unfold RdOut at G ⊢
 unfold rdCel
 cases N:rdT12 l with
 | none =>
  rw[N] at G
  simp only at G ⊢
  clear N s1
  go_enter Tryz.func218,Tryz.ntmps218
  go_wp2_with fail
  refine G.mono ?_
  rintro e w2 ⟨j,rfl⟩
  exact⟨rfl,(g1.call O.size j).grown,rfl⟩
 | some y =>
  obtain⟨s,r⟩:=y
  rw[N] at G
  simp only at G ⊢
  have I:=λW (hW:RdIs W q B r)=>rnum_gives W q B r hW hq
  unfold RdOut at I
  cases V:rdN12 r with
  | none =>
   rw[V] at I
   simp only at I ⊢
   clear N V s1
   go_enter Tryz.func218,Tryz.ntmps218
   go_wp2_with fail
   refine G.mono ?_
   rintro e w2 ⟨j,rfl,h2⟩
   go_wp2_with fail
   refine(I _ h2).mono ?_
   rintro e d ⟨A,rfl⟩
   have n:=g1.call O.size j
   exact⟨rfl,(n.call n.size A).grown,rfl⟩
  | some z =>
   obtain⟨p,r2⟩:=z
   rw[V] at I
   simp only at I ⊢
   have HE:∀(v:ByteArray) (z:Int) (W:World) (e:Ending) (r3:List UInt8),e = .returned (.agg #[.string s,.string v,.int .i64 (p:Int),.int .i64 z])->RdIs W q B r3->(e = .returned (.agg (celC ⟨s,v,p,z⟩).toArray)/\RdIs W q B r3):=λv z W e r3 he hr=>⟨he,hr⟩
   by_cases hp:p=0
   case pos =>
    subst hp
    simp only[if_true]
    have f:=λW (hW:RdIs W q B r2)=>rtext_gives W q B r2 hW hq
    unfold RdOut at f
    cases L:rdT12 r2 with
    | none =>
     rw[L] at f
     simp only at f ⊢
     clear N V L
     go_enter Tryz.func218,Tryz.ntmps218
     go_wp2_with fail
     refine G.mono ?_
     rintro e w2 ⟨j,rfl,h2⟩
     go_wp2_with fail
     refine(I _ h2).mono ?_
     rintro e d ⟨A,rfl,g⟩
     have n:=g1.call O.size j
     have F:=n.call n.size A
     have X:=grownB_trans j A
     have k:BlkIs d w.heap.size 49 #[.string { data:=#[] },.string { data:=#[] },.int .i64 0,.int .i64 0]:=p1.grown X (λe=>by injection e;omega)
     have Z:=BlkIs.new d 49 #[.string { data:=#[] },.string { data:=#[] },.int .i64 0,.int .i64 0]
     have aD:w.heap.size<d.heap.size:=k.lt
     have aF:¬ w.heap.size=d.heap.size:=by omega
     go_wp2_with (first
      | (refine wp_storeW rfl 49 (.tmp 3) (.tmp 8) rfl d.heap.size rfl rfl rowCel Z rfl rfl (four_oneC rfl rfl rfl rfl) ?_;obtain⟨W4,C,M,m⟩:=cell_box d #[.string s,.string { data:=#[] },.int .i64 0,.int .i64 0];rw[C];clear C;have aE:W4.cell? ⟨d.heap.size,2,none⟩=some (.int .i64 0):=(by rw[M.cell];rfl);have U:=g.past m g.lt (by have:=g.lt;omega);have aB:=k.below m k.lt;have H:Bq w.heap.size q w W4:=F.trans (.of (m.mono F.size))))
     refine(f _ U).mono ?_
     rintro e w5 ⟨E,rfl⟩
     exact⟨rfl,(H.call H.size E).grown,rfl⟩
    | some u =>
     obtain⟨v,r3⟩:=u
     rw[L] at f
     simp only at f ⊢
     clear N V L
     go_enter Tryz.func218,Tryz.ntmps218
     go_wp2_with fail
     refine G.mono ?_
     rintro e w2 ⟨j,rfl,h2⟩
     go_wp2_with fail
     refine(I _ h2).mono ?_
     rintro e d ⟨A,rfl,g⟩
     have n:=g1.call O.size j
     have F:=n.call n.size A
     have X:=grownB_trans j A
     have k:BlkIs d w.heap.size 49 #[.string { data:=#[] },.string { data:=#[] },.int .i64 0,.int .i64 0]:=p1.grown X (λe=>by injection e;omega)
     have Z:=BlkIs.new d 49 #[.string { data:=#[] },.string { data:=#[] },.int .i64 0,.int .i64 0]
     have aD:w.heap.size<d.heap.size:=k.lt
     have aF:¬ w.heap.size=d.heap.size:=by omega
     go_wp2_with (first
      | (refine wp_storeW rfl 49 (.tmp 3) (.tmp 8) rfl d.heap.size rfl rfl rowCel Z rfl rfl (four_oneC rfl rfl rfl rfl) ?_;obtain⟨W4,C,M,m⟩:=cell_box d #[.string s,.string { data:=#[] },.int .i64 0,.int .i64 0];rw[C];clear C;have aE:W4.cell? ⟨d.heap.size,2,none⟩=some (.int .i64 0):=(by rw[M.cell];rfl);have U:=g.past m g.lt (by have:=g.lt;omega);have aB:=k.below m k.lt;have H:Bq w.heap.size q w W4:=F.trans (.of (m.mono F.size))))
     refine(f _ U).mono ?_
     rintro e w5 ⟨E,rfl,h5⟩
     have aH:q<d.heap.size:=by omega
     have n5:=M.grown E (λe=>by injection e;omega)
     have aI:=aB.grown E (λe=>by injection e;omega)
     have g5:=H.call H.size E
     have c5:w5.cell? ⟨d.heap.size,1,none⟩=some (.string { data:=#[] }):=by rw[n5.cell];rfl
     have f5:=n5.free 1
     have n6:=n5.set 1 (.string v)
     have aA:Below d.heap.size w5 (w5.setCell ⟨d.heap.size,1,none⟩ (.string v)):=(Below.refl _ w5).setCell (by simp) _
     have aC:=aI.below aA aD
     have h6:=h5.past aA aH (by omega)
     have g6:Bq w.heap.size q w (w5.setCell ⟨d.heap.size,1,none⟩ (.string v)):=g5.trans (.of (aA.mono (by omega)))
     simp only[zA,zG,zF] at n6
     have b7:=aC.setRow #[.string s,.string v,.int .i64 0,.int .i64 0]
     have g7:=g6.setRow (zH w.heap.size) #[.string s,.string v,.int .i64 0,.int .i64 0]
     have h7:=h6.past (below_setRow (Below.refl w.heap.size _) (zH _) #[.string s,.string v,.int .i64 0,.int .i64 0]) aG (by omega)
     go_wp2_with (first
      | (refine wp_loadW rfl 49 (.tmp 3) rfl d.heap.size rfl rowCel n6 rfl ?_)
      | (refine wp_storeW rfl 49 (.tmp 2) (.tmp 18) rfl w.heap.size rfl rfl rowCel aC rfl rfl (four_oneC rfl rfl rfl rfl) ?_))
     exact bodyPost_ret (results_cellW 2 rfl rfl rowCel b7 rfl) rfl ⟨g7.grown,rfl,h7⟩
   case neg =>
    simp only[if_neg hp]
    have aJ:¬ (p:Int)=0:=by omega
    have f:=λW (hW:RdIs W q B r2)=>rnum_gives W q B r2 hW hq
    unfold RdOut at f
    cases L:rdN12 r2 with
    | none =>
     rw[L] at f
     simp only at f ⊢
     clear N V L
     go_enter Tryz.func218,Tryz.ntmps218
     go_wp2_with fail
     refine G.mono ?_
     rintro e w2 ⟨j,rfl,h2⟩
     go_wp2_with fail
     refine(I _ h2).mono ?_
     rintro e d ⟨A,rfl,g⟩
     have n:=g1.call O.size j
     have F:=n.call n.size A
     have X:=grownB_trans j A
     have k:BlkIs d w.heap.size 49 #[.string { data:=#[] },.string { data:=#[] },.int .i64 0,.int .i64 0]:=p1.grown X (λe=>by injection e;omega)
     have Z:=BlkIs.new d 49 #[.string { data:=#[] },.string { data:=#[] },.int .i64 0,.int .i64 0]
     have aD:w.heap.size<d.heap.size:=k.lt
     have aF:¬ w.heap.size=d.heap.size:=by omega
     go_wp2_with (first
      | (refine wp_storeW rfl 49 (.tmp 3) (.tmp 8) rfl d.heap.size rfl rfl rowCel Z rfl rfl (four_oneC rfl rfl rfl rfl) ?_;obtain⟨W4,C,M,m⟩:=cell_box d #[.string s,.string { data:=#[] },.int .i64 (p:Int),.int .i64 0];rw[C];clear C;have aE:W4.cell? ⟨d.heap.size,2,none⟩=some (.int .i64 (p:Int)):=(by rw[M.cell];rfl);have U:=g.past m g.lt (by have:=g.lt;omega);have aB:=k.below m k.lt;have H:Bq w.heap.size q w W4:=F.trans (.of (m.mono F.size))))
     refine(f _ U).mono ?_
     rintro e w5 ⟨E,rfl⟩
     exact⟨rfl,(H.call H.size E).grown,rfl⟩
    | some u =>
     obtain⟨v,r3⟩:=u
     rw[L] at f
     simp only at f ⊢
     clear N V L
     go_enter Tryz.func218,Tryz.ntmps218
     go_wp2_with fail
     refine G.mono ?_
     rintro e w2 ⟨j,rfl,h2⟩
     go_wp2_with fail
     refine(I _ h2).mono ?_
     rintro e d ⟨A,rfl,g⟩
     have n:=g1.call O.size j
     have F:=n.call n.size A
     have X:=grownB_trans j A
     have k:BlkIs d w.heap.size 49 #[.string { data:=#[] },.string { data:=#[] },.int .i64 0,.int .i64 0]:=p1.grown X (λe=>by injection e;omega)
     have Z:=BlkIs.new d 49 #[.string { data:=#[] },.string { data:=#[] },.int .i64 0,.int .i64 0]
     have aD:w.heap.size<d.heap.size:=k.lt
     have aF:¬ w.heap.size=d.heap.size:=by omega
     go_wp2_with (first
      | (refine wp_storeW rfl 49 (.tmp 3) (.tmp 8) rfl d.heap.size rfl rfl rowCel Z rfl rfl (four_oneC rfl rfl rfl rfl) ?_;obtain⟨W4,C,M,m⟩:=cell_box d #[.string s,.string { data:=#[] },.int .i64 (p:Int),.int .i64 0];rw[C];clear C;have aE:W4.cell? ⟨d.heap.size,2,none⟩=some (.int .i64 (p:Int)):=(by rw[M.cell];rfl);have U:=g.past m g.lt (by have:=g.lt;omega);have aB:=k.below m k.lt;have H:Bq w.heap.size q w W4:=F.trans (.of (m.mono F.size))))
     refine(f _ U).mono ?_
     rintro e w5 ⟨E,rfl,h5⟩
     have aH:q<d.heap.size:=by omega
     have n5:=M.grown E (λe=>by injection e;omega)
     have aI:=aB.grown E (λe=>by injection e;omega)
     have g5:=H.call H.size E
     have c5:w5.cell? ⟨d.heap.size,3,none⟩=some (.int .i64 0):=by rw[n5.cell];rfl
     have f5:=n5.free 3
     have n6:=n5.set 3 (.int .i64 (v:Int))
     have aA:Below d.heap.size w5 (w5.setCell ⟨d.heap.size,3,none⟩ (.int .i64 (v:Int))):=(Below.refl _ w5).setCell (by simp) _
     have aC:=aI.below aA aD
     have h6:=h5.past aA aH (by omega)
     have g6:Bq w.heap.size q w (w5.setCell ⟨d.heap.size,3,none⟩ (.int .i64 (v:Int))):=g5.trans (.of (aA.mono (by omega)))
     simp only[zA,zG,zF] at n6
     have b7:=aC.setRow #[.string s,.string { data:=#[] },.int .i64 (p:Int),.int .i64 (v:Int)]
     have g7:=g6.setRow (zH w.heap.size) #[.string s,.string { data:=#[] },.int .i64 (p:Int),.int .i64 (v:Int)]
     have h7:=h6.past (below_setRow (Below.refl w.heap.size _) (zH _) #[.string s,.string { data:=#[] },.int .i64 (p:Int),.int .i64 (v:Int)]) aG (by omega)
     go_wp2_with (first
      | (refine wp_loadW rfl 49 (.tmp 3) rfl d.heap.size rfl rowCel n6 rfl ?_)
      | (refine wp_storeW rfl 49 (.tmp 2) (.tmp 18) rfl w.heap.size rfl rfl rowCel aC rfl rfl (four_oneC rfl rfl rfl rfl) ?_))
     exact bodyPost_ret (results_cellW 2 rfl rfl rowCel b7 rfl) rfl ⟨g7.grown,rfl,h7⟩
end Go.Proofs.YtpibjkbadnffgaaGreat
namespace Go.Proofs.YtpibjkbadnffgaaGreat
open Go Go.RowKit Lou Go.Shelf
def OwnCels (w:World)(l:List Cel)(e:Ending)(w':World):Prop:=∃A c,e = .returned (.slice A l.length c)/\w'.ownsRow w.heap.size 49 4 (.slice A l.length c) l.length (clC l)/\Below w.heap.size w w'
theorem elCelC:ElT 39 49 4 48 (.agg #[.string ByteArray.empty,.string ByteArray.empty,.int .i64 0,.int .i64 0]):=⟨Tryz.underlying39,by kernel_rfl,by kernel_rfl,by decide⟩
theorem cclone_gives (w:World)(A:Option Addr)(c:Nat)(l:List Cel)(h:InG w w.heap.size 4 A l.length c (clC l))(hl:l.length<=1000000) :
  Calls Tryz.prog 155 #[.slice A l.length c] w (OwnCels w l):=by
 rcases A with _|k
 ·have hc:=h.nil rfl
  subst hc
  have n:=h.le
  obtain rfl:l=[]:=zZ (by omega)
  have hq:=λW=>run_eq_nilN (P:=Tryz.prog) W 39 49 none 0 0 Tryz.underlying39
  go_enter Tryz.func155,Tryz.ntmps155
  go_wp2
  go_ret
  exact⟨none,0,rfl,World.ownsRow_nil _ _ _ _,Below.refl _ _⟩
 ·have g:(w.alloc (.cells #[] 49)).ownsRow w.heap.size 49 4 (.slice (some ⟨w.heap.size,0,none⟩) 0 0) 0 []:=World.ownsRow_lit w #[] 0 (zH _) (by unfold maxLen;omega) rfl
  have d:Below w.heap.size w (w.alloc (.cells #[] 49)):=(Below.refl _ w).alloc (zH _) _
  have hq:=λW=>run_eq_nilN (P:=Tryz.prog) W 39 49 (some k) l.length c Tryz.underlying39
  go_enter Tryz.func155,Tryz.ntmps155
  go_wp2_with (at_builtin;refine wp_appG rfl elCelC (.tmp 5) (.tmp 6) rfl w.heap.size (.slice (some ⟨w.heap.size,0,none⟩) 0 0) 0 [] rfl g _ _ l.length c (clC l) rfl (h.grow d) (by unfold maxLen;omega) (by omega) d.size ?_;intro v5 w5 f j)
  go_ret
  rw[qC,zV] at f
  obtain⟨m,c5,rfl,_⟩:=ownG_in f (clC_one _)
  exact⟨m,c5,rfl,f,d.trans (grown_below j d.size (ownG_ge g))⟩
theorem elIntC:ElT 41 3 1 8 (.int .i64 0):=⟨Tryz.underlying41,by kernel_rfl,by kernel_rfl,by decide⟩
end Go.Proofs.YtpibjkbadnffgaaGreat
namespace Go.Proofs.YtpibjkbadnffgaaGreat
open Go Go.RowKit Lou
section
variable {w:World}{ops:Array Oper}{i:Nat}{o:Oper}{a:Act}{Q:Exit->Act->World->Prop}{K:Act->World->Prop}
theorem opAppN (j:ops[i]? = some o)(G:o.guard=none){S T:TypeId}{sz by_:Nat}{z:Value}(E:ElT S T sz by_ z)(s x:Operand)(hc:o.op = .call { callee:=.builtin .append,args:=#[s,x],argTypes:=#[S,S] })
  (base:Nat) (v:Value) (n:Nat) (cs:List Value) (hs:a.eval s=v) (H:w.ownsRow base T sz v n cs) (B:Nat) (A:Option Addr) (m c:Nat) (d:List Value) (k:a.eval x = .slice A m c) (C:InG w B sz A m c d)
  (g:n+m<=maxLen) (F:(n+m)*by_<=140737488355328) (u:base<=w.heap.size)
  (h:∀v' w',w'.ownsRow base T sz v' (n+m) (cs++d)->w.grownBy w' v.ownBlock->K (a.put o.dst v') w'):wpOp Tryz.prog ops Q i K a w:=by
 obtain⟨v',w',r,h2,f⟩:=run_appG (w:=w) o.type E base v n cs H B A m c d C g F u
 refine RegF.opV v' j G (w':=w') ?_ (h v' w' h2 f)
 unfold execOp
 simp only[hc,resolve,invoke,builtin,Sem.run_bind,Sem.run_pure,Result.andThen_ok,zK,zL,zN,hs,k,r]
theorem opCP (f:FuncId)(xs:Array Operand)(u:Array TypeId)(k:ops[i]? = some o)(d:o.guard=none)(hc:o.op = .call { callee:=.value (.func f),args:=xs,argTypes:=u })
  (j:∀args w,(callFunc f args).run Tryz.prog w = .ok (.enter f args) w) (args:Array Value) (ha:xs.map a.eval=args) (h:Calls Tryz.prog f args w λe w'=>(∃v,e = .returned v/\K (a.put o.dst v) w')∨∃c,e = .panicked c/\Q (.panic c) a w'):wpOp Tryz.prog ops Q i K a w:=by
 unfold wpOp
 simp only[k]
 rw[if_pos (by simp[Region.wanted,d])]
 left
 have m:(execOp a.eval o).run Tryz.prog w = .ok (.enter f args) w:=by
  have r:a.eval (.func f) = .func (.func f) #[] #[]:=rfl
  simp[execOp,hc,resolve,ha,r,Deferred.ofValue,invoke,j args w]
 unfold Oper.wp
 rw[m,Oper.upon_enter]
 refine h.mono ?_
 rintro e w' (⟨v,rfl,g⟩|⟨c,rfl,n⟩)
 ·exact g
 ·exact n
end
structure NS (w wr:World)(q B p:Nat)(lf:Bool)(cs:List Cel)(ks:List ByteArray)(is:List Int)(l:List UInt8)(Ac:Option Addr)(cc:Nat)(Ak:Option Addr)(ck:Nat)(Ai:Option Addr)(ci:Nat):Prop where
 b:BlkIs wr p 43 #[.bool lf,.slice Ac cs.length cc,.slice Ak ks.length ck,.slice Ai is.length ci]
 c:wr.ownsRow (p+1) 49 4 (.slice Ac cs.length cc) cs.length (clC cs)
 k:wr.ownsRow (p+1) 9 1 (.slice Ak ks.length ck) ks.length (skC ks)
 i:wr.ownsRow (p+1) 3 1 (.slice Ai is.length ci) is.length (ikC is)
 r:RdIs wr q B l
 g:Bq p q w wr
 hq:q<p
 hB:B<=q
section
variable {w wr w':World}{q B p:Nat}{lf:Bool}{cs:List Cel}{ks:List ByteArray}{is:List Int}{l l':List UInt8}{Ac:Option Addr}{cc:Nat}{Ak:Option Addr}{ck:Nat}{Ai:Option Addr}{ci:Nat}
theorem own_call {wr w':World}{q p:Nat}{T:TypeId}{sz n:Nat}{v:Value}{cs:List Value}(h:wr.ownsRow (p+1) T sz v n cs)(d:wr.grownBy w' (some q))(hq:q<p):w'.ownsRow (p+1) T sz v n cs :=
 ownG_later h λr c=>d.block r (ownG_lt h r c) (λe=>by have:=ownG_ge h r c;injection e;omega)
theorem NS.call (h:NS w wr q B p lf cs ks is l Ac cc Ak ck Ai ci)(d:wr.grownBy w' (some q))(f:RdIs w' q B l'):NS w w' q B p lf cs ks is l' Ac cc Ak ck Ai ci :=
 ⟨h.b.grown d (λe=>by have:=h.hq;injection e;omega),own_call h.c d h.hq,own_call h.k d h.hq,own_call h.i d h.hq,f,h.g.call (Nat.le_of_lt h.b.lt) d,h.hq,h.hB⟩
theorem NS.past (h:NS w wr q B p lf cs ks is l Ac cc Ak ck Ai ci)(hB:Below wr.heap.size wr w'):NS w w' q B p lf cs ks is l Ac cc Ak ck Ai ci :=
 ⟨h.b.below hB h.b.lt,ownG_grow h.c hB,ownG_grow h.k hB,ownG_grow h.i hB,h.r.past hB h.r.lt (by have:=h.hB;have:=h.r.lt;omega),h.g.trans (.of (hB.mono (Nat.le_of_lt h.b.lt))),h.hq,h.hB⟩
theorem NS.drew (h:NS w wr q B p lf cs ks is l Ac cc Ak ck Ai ci):NS w wr.drew q B p lf cs ks is l Ac cc Ak ck Ai ci:=h.past (Below.refl _ wr).drew
theorem ns_app {T:TypeId}{sz n m f:Nat}{v:Value}{c:Option Addr}{c':Nat}{old new:List Value}{j:Array Value}(k:BlkIs wr p 43 j)(d:RdIs wr q B l)(E:Bq p q w wr)(hq:q<p)(hB:B<=q)
  (own:wr.ownsRow (p+1) T sz v n old) (u:wr.grownBy w' v.ownBlock) (own':w'.ownsRow (p+1) T sz (.slice c m c') m new) :
  BlkIs (w'.setCell ⟨p,f,none⟩ (.slice c m c')) p 43 (j.setIfInBounds f (.slice c m c'))/\RdIs (w'.setCell ⟨p,f,none⟩ (.slice c m c')) q B l/\Bq p q w (w'.setCell ⟨p,f,none⟩ (.slice c m c'))/\(w'.setCell ⟨p,f,none⟩ (.slice c m c')).ownsRow (p+1) T sz (.slice c m c') m new:=by
 have F:=k.lt
 have g:Below (p+1) wr w':=grown_below u (by omega) (ownG_ge own)
 have C:=k.below g (by omega)
 have A:=d.past g (by omega) (by omega)
 have h:Below p w' (w'.setCell ⟨p,f,none⟩ (.slice c m c')):=(Below.refl _ w').setCell (by simp) _
 refine⟨C.set f _,A.past h hq (by omega),(E.trans (.of (g.mono (by omega)))).trans (.of h),ownG_later own' λr d=>Below.heap_setCell w' ⟨p,f,none⟩ _ r (λe=>by have:=ownG_ge own' r d;simp at e;omega)⟩
theorem own_set {w':World}{p f:Nat}{u v:Value}{T:TypeId}{sz n:Nat}{xs:List Value}(h:w'.ownsRow (p+1) T sz v n xs):(w'.setCell ⟨p,f,none⟩ u).ownsRow (p+1) T sz v n xs :=
 ownG_later h λr c=>Below.heap_setCell w' ⟨p,f,none⟩ u r (λe=>by have:=ownG_ge h r c;simp at e;omega)
theorem clC_snoc (cs:List Cel)(c:Cel):clC (cs++[c])=clC cs++celC c:=by unfold clC;simp
theorem skC_snoc (ks:List ByteArray)(k:ByteArray):skC (ks++[k])=skC ks++[.string k]:=by unfold skC;simp
theorem ikC_snoc (is:List Int)(i:Int):ikC (is++[i])=ikC is++[.int .i64 i]:=by unfold ikC;simp
theorem NS.appC (h:NS w wr q B p lf cs ks is l Ac cc Ak ck Ai ci){c:Cel}{j:Option Addr}{c':Nat}(own':w'.ownsRow (p+1) 49 4 (.slice j (cs.length+1) c') (cs.length+1) (clC cs++celC c))(d:wr.grownBy w' (Value.slice Ac cs.length cc).ownBlock) :
  NS w (w'.setCell ⟨p,1,none⟩ (.slice j (cs.length+1) c')) q B p lf (cs++[c]) ks is l j c' Ak ck Ai ci:=by
 obtain⟨h1,h2,m,n⟩:=ns_app (f:=1) h.b h.r h.g h.hq h.hB h.c d own'
 have e:(cs++[c]).length=cs.length+1:=by simp
 refine⟨by rw[e];exact h1,by rw[e,clC_snoc];exact n,own_set (own_past h.c h.k (by decide) d),own_set (own_past h.c h.i (by decide) d),h2,m,h.hq,h.hB⟩
theorem NS.appK (h:NS w wr q B p lf cs ks is l Ac cc Ak ck Ai ci){s:ByteArray}{j:Option Addr}{c':Nat}(own':w'.ownsRow (p+1) 9 1 (.slice j (ks.length+1) c') (ks.length+1) (skC ks++[.string s]))(d:wr.grownBy w' (Value.slice Ak ks.length ck).ownBlock) :
  NS w (w'.setCell ⟨p,2,none⟩ (.slice j (ks.length+1) c')) q B p lf cs (ks++[s]) is l Ac cc j c' Ai ci:=by
 obtain⟨h1,h2,m,n⟩:=ns_app (f:=2) h.b h.r h.g h.hq h.hB h.k d own'
 have e:(ks++[s]).length=ks.length+1:=by simp
 refine⟨by rw[e];exact h1,own_set (own_past h.k h.c (by decide) d),by rw[e,skC_snoc];exact n,own_set (own_past h.k h.i (by decide) d),h2,m,h.hq,h.hB⟩
theorem NS.appI (h:NS w wr q B p lf cs ks is l Ac cc Ak ck Ai ci){s:Int}{j:Option Addr}{c':Nat}(own':w'.ownsRow (p+1) 3 1 (.slice j (is.length+1) c') (is.length+1) (ikC is++[.int .i64 s]))(d:wr.grownBy w' (Value.slice Ai is.length ci).ownBlock) :
  NS w (w'.setCell ⟨p,3,none⟩ (.slice j (is.length+1) c')) q B p lf cs ks (is++[s]) l Ac cc Ak ck j c':=by
 obtain⟨h1,h2,m,n⟩:=ns_app (f:=3) h.b h.r h.g h.hq h.hB h.i d own'
 have e:(is++[s]).length=is.length+1:=by simp
 refine⟨by rw[e];exact h1,own_set (own_past h.i h.c (by decide) d),own_set (own_past h.i h.k (by decide) d),by rw[e,ikC_snoc];exact n,h2,m,h.hq,h.hB⟩
theorem NS.nis (h:NS w wr q B p lf cs ks is l Ac cc Ak ck Ai ci):NIs wr wr.heap.size ⟨lf,cs,ks,is⟩ Ac cc Ak ck Ai ci:=by
 obtain⟨_,_,f,h1⟩:=ownG_in h.c (clC_one _)
 obtain⟨_,_,j,h2⟩:=ownG_in h.k (skC_one _)
 obtain⟨_,_,g,d⟩:=ownG_in h.i (ikC_one _)
 injection f with e11 e12 e13
 injection j with e21 e22 e23
 injection g with e31 e32 e33
 subst e11 e13 e21 e23 e31 e33
 exact⟨h1,h2,d⟩
theorem NS.start {w:World}{q B:Nat}{l:List UInt8}(c:RdIs w q B l)(hB:B<=q):NS w (w.alloc (.cells #[.bool false,.slice none 0 0,.slice none 0 0,.slice none 0 0] 43)) q B w.heap.size false [] [] [] l none 0 none 0 none 0:=by
 have d:Below w.heap.size w (w.alloc (.cells #[.bool false,.slice none 0 0,.slice none 0 0,.slice none 0 0] 43)):=(Below.refl _ w).alloc (zH _) _
 exact⟨BlkIs.new w _ _,World.ownsRow_nil _ _ _ _,World.ownsRow_nil _ _ _ _,World.ownsRow_nil _ _ _ _,c.past d c.lt (by have:=c.lt;omega),.of d,c.lt,hB⟩
theorem NS.leaf (h:NS w wr q B p lf cs ks is l Ac cc Ak ck Ai ci)(b:Bool):NS w (wr.setCell ⟨p,0,none⟩ (.bool b)) q B p b cs ks is l Ac cc Ak ck Ai ci:=by
 have hB:Below p wr (wr.setCell ⟨p,0,none⟩ (.bool b)):=(Below.refl _ wr).setCell (by simp) _
 exact⟨h.b.set 0 _,own_set h.c,own_set h.k,own_set h.i,h.r.past hB h.hq (by have:=h.hB;have:=h.hq;omega),h.g.trans (.of hB),h.hq,h.hB⟩
end
theorem row_lit1 (w:World)(T:TypeId)(sz:Nat)(cs:List Value)(hn:cs.length=sz)(h1:∀v∈cs,v.oneCell'=true):InG (w.alloc (.cells cs.toArray T)) (w.alloc (.cells cs.toArray T)).heap.size sz (some ⟨w.heap.size,0,none⟩) 1 1 cs :=
 ⟨zH _,by omega,(λe=>by cases e),by omega,h1,λ_=>⟨w.heap.size,0,rfl,by simp,λj v c=>by
  rw[(BlkIs.new w T cs.toArray).cell,qC]
  simpa using c⟩⟩
theorem x_sliceCel {w:World}{o:Oper}{ρ:Operand->Value}{x:Operand}(c:Cel)(d:o.op = .buildSlice 39 1 #[(0,x)])(h1:ρ x = .agg (celC c).toArray):(execOp ρ o).run Tryz.prog w = .ok (.value (.slice (some ⟨w.heap.size,0,none⟩) 1 1)) (w.alloc (.cells (celC c).toArray 49)):=by
 simp[execOp,d,h1,go_sem,celC,Result.andThen]
theorem NS.same {w wr:World}{q B p:Nat}{lf:Bool}{cs:List Cel}{ks:List ByteArray}{is:List Int}{l:List UInt8}{Ac:Option Addr}{cc:Nat}{Ak:Option Addr}{ck:Nat}{Ai:Option Addr}{ci:Nat}(h:NS w wr q B p lf cs ks is l Ac cc Ak ck Ai ci):NS w (wr.setRow p #[.bool lf,.slice Ac cs.length cc,.slice Ak ks.length ck,.slice Ai is.length ci]) q B p lf cs ks is l Ac cc Ak ck Ai ci:=by
 have hB:Below p wr (wr.setRow p #[.bool lf,.slice Ac cs.length cc,.slice Ak ks.length ck,.slice Ai is.length ci]):=below_setRow (Below.refl _ wr) (zH _) _
 have d:∀{T:TypeId} {sz n:Nat} {v:Value} {xs:List Value},wr.ownsRow (p+1) T sz v n xs->(wr.setRow p #[.bool lf,.slice Ac cs.length cc,.slice Ak ks.length ck,.slice Ai is.length ci]).ownsRow (p+1) T sz v n xs:=λh=>ownG_later h λr f=>setRow_other _ _ r _ (by have:=ownG_ge h r f;omega)
 exact⟨h.b.setRow _,d h.c,d h.k,d h.i,h.r.past hB h.hq (by have:=h.hB;have:=h.hq;omega),h.g.trans (.of hB),h.hq,h.hB⟩
def RowsFrom (n:Nat)(Ac Ak Ai:Option Addr):Prop:=∀g o,(Ac=some ⟨g,o,none⟩∨Ak=some ⟨g,o,none⟩∨Ai=some ⟨g,o,none⟩)->n<=g
structure RowsOwn (w:World)(n:Nat)(x:Nod)(Ac:Option Addr)(cc:Nat)(Ak:Option Addr)(ck:Nat)(Ai:Option Addr)(ci:Nat):Prop where
 c:w.ownsRow n 49 4 (.slice Ac x.cells.length cc) x.cells.length (clC x.cells)
 k:w.ownsRow n 9 1 (.slice Ak x.keys.length ck) x.keys.length (skC x.keys)
 i:w.ownsRow n 3 1 (.slice Ai x.kids.length ci) x.kids.length (ikC x.kids)
theorem RowsOwn.rows {w:World}{n:Nat}{x:Nod}{Ac:Option Addr}{cc:Nat}{Ak:Option Addr}{ck:Nat}{Ai:Option Addr}{ci:Nat}(h:RowsOwn w n x Ac cc Ak ck Ai ci):RowsFrom n Ac Ak Ai:=by
 rintro g o (rfl|rfl|rfl)
 ·exact ownG_ge h.c g rfl
 ·exact ownG_ge h.k g rfl
 ·exact ownG_ge h.i g rfl
theorem RowsOwn.keepAt {w w':World}{n:Nat}{x:Nod}{Ac:Option Addr}{cc:Nat}{Ak:Option Addr}{ck:Nat}{Ai:Option Addr}{ci:Nat}(h:RowsOwn w n x Ac cc Ak ck Ai ci)(f:∀r,n<=r->r<w.heap.size->w'.heap[r]? = w.heap[r]?):RowsOwn w' n x Ac cc Ak ck Ai ci :=
 ⟨ownG_later h.c λr d=>f r (ownG_ge h.c r d) (ownG_lt h.c r d),ownG_later h.k λr d=>f r (ownG_ge h.k r d) (ownG_lt h.k r d),ownG_later h.i λr d=>f r (ownG_ge h.i r d) (ownG_lt h.i r d)⟩
theorem RowsOwn.base {w:World}{n m:Nat}{x:Nod}{Ac:Option Addr}{cc:Nat}{Ak:Option Addr}{ck:Nat}{Ai:Option Addr}{ci:Nat}(h:RowsOwn w n x Ac cc Ak ck Ai ci)(d:m<=n):RowsOwn w m x Ac cc Ak ck Ai ci:=⟨ownG_base h.c d,ownG_base h.k d,ownG_base h.i d⟩
theorem NS.own {w wr:World}{q B p:Nat}{lf:Bool}{cs:List Cel}{ks:List ByteArray}{is:List Int}{l:List UInt8}{Ac:Option Addr}{cc:Nat}{Ak:Option Addr}{ck:Nat}{Ai:Option Addr}{ci:Nat}(h:NS w wr q B p lf cs ks is l Ac cc Ak ck Ai ci):RowsOwn wr p ⟨lf,cs,ks,is⟩ Ac cc Ak ck Ai ci:=⟨ownG_base h.c (Nat.le_succ p),ownG_base h.k (Nat.le_succ p),ownG_base h.i (Nat.le_succ p)⟩
def RNodOut (r:Option Nod)(q:Nat)(w:World)(e:Ending)(w':World):Prop :=
 w.grownBy w' (some q)/\match r with
  | some x=>∃Ac cc Ak ck Ai ci,e = .returned (.agg (nodC x Ac cc Ak ck Ai ci))/\NIs w' w'.heap.size x Ac cc Ak ck Ai ci/\RowsOwn w' w.heap.size x Ac cc Ak ck Ai ci
  | none=>e = .panicked [gave 220 false]
theorem rnod_no {r:Option Nod}(h:r=none)(q:Nat)(w:World):∀w',w.grownBy w' (some q)->RNodOut r q w (.panicked [gave 220 false]) w':=λw' c=>by subst h;exact⟨c,rfl⟩
theorem rnod_yes {r:Option Nod}{x:Nod}(h:r=some x)(q:Nat)(w w':World)(c:w.grownBy w' (some q))(Ac:Option Addr)(cc:Nat)(Ak:Option Addr)(ck:Nat)(Ai:Option Addr)(ci:Nat)(hn:NIs w' w'.heap.size x Ac cc Ak ck Ai ci)(hf:RowsOwn w' w.heap.size x Ac cc Ak ck Ai ci):RNodOut r q w (.returned (.agg (nodC x Ac cc Ak ck Ai ci))) w':=by
 subst h
 exact⟨c,Ac,cc,Ak,ck,Ai,ci,rfl,hn,hf⟩
theorem rnode_leaf (w:World)(q B:Nat)(l r:List UInt8)(h:RdIs w q B l)(hq:B<=q)(e1:rdN12 l=some (1,r)):Calls Tryz.prog 147 #[.pointer (some ⟨q,0,none⟩)] w (RNodOut (rdRest true r) q w):=by
 have aN:=h.lt
 have Z:=NS.start h hq
 have L:=rnum_gives _ q B l Z.r hq
 unfold RdOut at L
 rw[e1] at L
 simp only at L
 have HN:=λW lx (f:RdIs W q B lx)=>rnum_gives W q B lx f hq
 unfold RdOut at HN
 have G:=λW (f:RdIs W q B r)=>HN W r f
 clear e1 h
 cases I:rdN12 r with
 | none =>
  rw[I] at G
  simp only at G
  have HP:=rnod_no (r:=rdRest true r) (by unfold rdRest;rw[I]) q w
  generalize RNodOut (rdRest true r) q w=PO at *
  clear I HN
  go_enter Tryz.func147,Tryz.ntmps147
  go_wp2_with fail
  refine L.mono ?_
  rintro e w2 ⟨X,rfl,h2⟩
  have n:=Z.call X h2
  have c2:w2.cell? ⟨w.heap.size,0,none⟩=some (.bool false):=by rw[n.b.cell];rfl
  have f2:=n.b.free 0
  go_wp2_with (go_at_call 142;refine(must_gives _ _ _).mono ?_;rintro e O ⟨rfl,h7⟩;obtain⟨v7,rfl⟩:=h7.1 rfl)
  have E:=n.leaf true
  refine(G _ E.r).mono ?_
  rintro e w4 ⟨aA,rfl⟩
  exact⟨rfl,HP _ (E.g.call (Nat.le_of_lt E.b.lt) aA).grown⟩
 | some y =>
  obtain⟨many,C⟩:=y
  rw[I] at G
  simp only at G
  have aX:many<=100000:=(rdN12_less I).2
  have aD:rdRest true r=match rdMany rdCel many C with|none=>none|some (cs,_)=>some ⟨true,cs,[],[]⟩:=by unfold rdRest;rw[I];rfl
  have aK:=λhr=>rnod_no (r:=rdRest true r) hr q w
  have aH:=λx (hr:rdRest true r=some x)=>rnod_yes hr q w
  have aG:∀k cs d,k<many->rdMany rdCel k C=some (cs,d)->rdCel d=none->∀w',w.grownBy w' (some q)->RNodOut (rdRest true r) q w (.panicked [gave 220 false]) w':=λk cs d hk j hf=>aK (by
   rw[aD]
   have:=rdMany_stop rdCel C cs d k j hf (many - k - 1)
   rw[show k+1+(many - k - 1)=many from by omega] at this
   rw[this])
  have aL:∀cs d,rdMany rdCel many C=some (cs,d)->∀w' A c,w.grownBy w' (some q)->NIs w' w'.heap.size ⟨true,cs,[],[]⟩ A c none 0 none 0->RowsOwn w' w.heap.size ⟨true,cs,[],[]⟩ A c none 0 none 0->RNodOut (rdRest true r) q w (.returned (.agg #[.bool true,.slice A cs.length c,.slice none 0 0,.slice none 0 0])) w':=λcs d j w' A c hg hn hf=>aH ⟨true,cs,[],[]⟩ (by rw[aD,j]) w' hg A c none 0 none 0 hn hf
  generalize RNodOut (rdRest true r) q w=PO at *
  have aT:=Lib.hid aG
  have aR:=Lib.hid aL
  clear I HN aD aK aH aG aL
  go_enter Tryz.func147,Tryz.ntmps147
  go_wp2_with fail
  refine L.mono ?_
  rintro e w2 ⟨X,rfl,h2⟩
  have n:=Z.call X h2
  have c2:w2.cell? ⟨w.heap.size,0,none⟩=some (.bool false):=by rw[n.b.cell];rfl
  have f2:=n.b.free 0
  go_wp2_with (go_at_call 142;refine(must_gives _ _ _).mono ?_;rintro e O ⟨rfl,h7⟩;obtain⟨v7,rfl⟩:=h7.1 rfl)
  have E:=n.leaf true
  refine(G _ E.r).mono ?_
  rintro e w4 ⟨aA,rfl,h4⟩
  have n4:=E.call aA h4
  have c4:w4.cell? ⟨w.heap.size,0,none⟩=some (.bool true):=by rw[n4.b.cell];rfl
  clear Z n E X h2 c2 f2 aA h4 L G
  go_wp2_with fail
  go_loopw [30] (λi wr=>∃(k:Nat) (cs:List Cel) (d:List UInt8) (Ac:Option Addr) (cc:Nat),k<=many/\i = .int .i64 k/\rdMany rdCel k C=some (cs,d)/\NS w wr q B w.heap.size true cs [] [] d Ac cc none 0 none 0) (λi _=>many - (intOf i).toNat)
  case atStart=>exact⟨0,[],C,none,0,by omega,rfl,rfl,n4⟩
  case round =>
   obtain⟨k,cs,d,Ac,cc,hk,rfl,j,M⟩:=hrel
   clear n4 c4
   have c0:wr.cell? ⟨w.heap.size,0,none⟩=some (.bool true):=by rw[M.b.cell];rfl
   have aM:=rdMany_length rdCel k C cs d j
   by_cases aN:k<many
   ·have aY:(k:Int)<(many:Int):=by omega
    have aW:cs.length<=100000:=by omega
    have aV:IntKind.i64.wrap ((k:Int)+1)=(k:Int)+1:=wrapN _ (by omega) (by omega)
    have F:=λW (f:RdIs W q B d)=>rcell_gives W q B d f hq
    unfold RdOut at F
    have HM:=Lib.hid j
    clear j aM
    cases N:rdCel d with
    | none =>
     rw[N] at F
     simp only at F
     have aQ:=aT.out k cs d aN HM.out N
     clear N
     go_wp2_with fail
     have m:=M.drew
     have u:BlkIs wr.drew w.heap.size 43 #[.bool true,.slice Ac cs.length cc,.slice none 0 0,.slice none 0 0]:=m.b
     refine RegF.start (λW=>BlkIs W w.heap.size 43 #[.bool true,.slice Ac cs.length cc,.slice none 0 0,.slice none 0 0]) 7 (by kernel_rfl) ?_
     refine RegF.t 0 (.pointer (some ⟨w.heap.size,1,none⟩)) rfl u (λW f=>by go_simp) ?_
     simp only[zE,zB,Act.put,zA,zG,zF]
     refine RegF.t 1 (.slice Ac cs.length cc) rfl u (λW f=>by have e:W.cell? ⟨w.heap.size,1,none⟩=some (.slice Ac cs.length cc):=(by rw[f.cell];rfl);go_simp) ?_
     simp only[zE,zD,zB,Act.put,zA,zG,zF]
     refine RegF.t 2 (.pointer (some ⟨q,0,none⟩)) rfl u (λW f=>by go_simp) ?_
     simp only[zE,zD,zB,Act.put,zA,zG,zF]
     refine RegF.one 3 (by kernel_rfl) ?_
     refine opCP 218 #[.tmp 36] #[228] rfl rfl rfl (enters_of Tryz.func218 (by kernel_rfl) rfl) #[.pointer (some ⟨q,0,none⟩)] (by simp only[zK,zL,zN];rfl) ((F _ m.r).mono ?_)
     rintro e w5 ⟨aB,rfl⟩
     refine .inr ⟨_,rfl,?_⟩
     exact⟨rfl,aQ _ (m.g.call (Nat.le_of_lt m.b.lt) aB).grown⟩
    | some y3 =>
     obtain⟨c,aJ⟩:=y3
     rw[N] at F
     simp only at F
     have aU:=Lib.hid (rdMany_next rdCel k C cs d c aJ HM.out N)
     clear N
     go_wp2_with fail
     have m:=M.drew
     have u:BlkIs wr.drew w.heap.size 43 #[.bool true,.slice Ac cs.length cc,.slice none 0 0,.slice none 0 0]:=m.b
     refine RegF.start (λW=>BlkIs W w.heap.size 43 #[.bool true,.slice Ac cs.length cc,.slice none 0 0,.slice none 0 0]) 7 (by kernel_rfl) ?_
     refine RegF.t 0 (.pointer (some ⟨w.heap.size,1,none⟩)) rfl u (λW f=>by go_simp) ?_
     simp only[zE,zB,Act.put,zA,zG,zF]
     refine RegF.t 1 (.slice Ac cs.length cc) rfl u (λW f=>by have e:W.cell? ⟨w.heap.size,1,none⟩=some (.slice Ac cs.length cc):=(by rw[f.cell];rfl);go_simp) ?_
     simp only[zE,zD,zB,Act.put,zA,zG,zF]
     refine RegF.t 2 (.pointer (some ⟨q,0,none⟩)) rfl u (λW f=>by go_simp) ?_
     simp only[zE,zD,zB,Act.put,zA,zG,zF]
     refine RegF.one 3 (by kernel_rfl) ?_
     refine opCP 218 #[.tmp 36] #[228] rfl rfl rfl (enters_of Tryz.func218 (by kernel_rfl) rfl) #[.pointer (some ⟨q,0,none⟩)] (by simp only[zK,zL,zN];rfl) ((F _ m.r).mono ?_)
     rintro e w5 ⟨aB,rfl,h5⟩
     have aF:=m.call aB h5
     refine .inl ⟨_,rfl,λ_=>aF.b,?_⟩
     simp only[zE,zD,zB,Act.put,zA,zG,zF]
     have aI:Below w5.heap.size w5 (w5.alloc (.cells (celC c).toArray 49)):=(Below.refl _ w5).alloc (zH _) _
     have H:=aF.past aI
     refine RegF.one 4 (by kernel_rfl) ?_
     refine RegF.opV (w':=w5.alloc (.cells (celC c).toArray 49)) (.slice (some ⟨w5.heap.size,0,none⟩) 1 1) rfl rfl (x_sliceCel c rfl rfl) ⟨λ_=>H.b,?_⟩
     simp only[zE,zD,zB,Act.put,zA,zG,zF]
     refine RegF.one 5 (by kernel_rfl) ?_
     refine opAppN rfl rfl elCelC (.tmp 35) (.tmp 38) rfl (w.heap.size+1) (.slice Ac cs.length cc) cs.length (clC cs) rfl H.c _ _ 1 1 (celC c) rfl (row_lit1 w5 49 4 (celC c) rfl (celC_one _)) (by unfold maxLen;omega) (by omega) (by have:=H.b.lt;omega) ?_
     intro v7 O aE aC
     obtain⟨A7,c7,rfl,_⟩:=ownG_in aE (λv hv=>by rcases qK.1 hv with h|h;exact clC_one _ v h;exact celC_one _ v h)
     have aP:=H.appC aE aC
     have U:BlkIs O w.heap.size 43 #[.bool true,.slice Ac cs.length cc,.slice none 0 0,.slice none 0 0]:=H.b.grown aC (λe=>by have:=ownG_ge H.c w.heap.size e.symm;omega)
     refine⟨λ_=>U,?_⟩
     simp only[zE,zD,zB,Act.put,zA,zG,zF]
     have aO:O.cell? ⟨w.heap.size,1,none⟩=some (.slice Ac cs.length cc):=by rw[U.cell];rfl
     have aS:=U.free 1
     refine RegF.one 6 (by kernel_rfl) ?_
     refine RegF.opV (.pointer (some ⟨w.heap.size,1,none⟩)) rfl rfl (by go_simp) ⟨λ_=>U,?_⟩
     simp only[zE,zD,zB,Act.put,zA,zG,zF]
     refine RegF.one 7 (by kernel_rfl) ?_
     refine RegF.opS (w':=O.setCell ⟨w.heap.size,1,none⟩ (.slice A7 (cs.length+1) c7)) rfl rfl (by go_simp) ⟨λh=>absurd rfl h,?_⟩
     simp only[zE,zD,zB,Act.put]
     refine RegF.done (by kernel_rfl) ?_
     clear aO aS U aE aC H aF aI u m aB h5
     go_wp2
     exact⟨⟨k+1,cs++[c],aJ,A7,c7,by omega,by simp,aU.out,aP⟩,by simp[intOf];omega⟩
   ·obtain rfl:k=many:=by omega
    have HM:=Lib.hid j
    clear j aM
    have V:=M.same
    go_wp2_with (first
     | (refine wp_loadW rfl 43 (.tmp 2) rfl w.heap.size rfl rowNod M.b (by rfl) ?_)
     | (refine wp_storeW rfl 43 (.tmp 2) (.tmp 56) rfl w.heap.size rfl rfl rowNod M.b (by rfl) (by rfl) (four_oneC rfl rfl rfl rfl) ?_))
    exact bodyPost_ret (results_cellW 2 rfl rfl rowNod V.b (by rfl)) rfl (aR.out cs d HM.out _ Ac cc V.g.grown V.nis V.own)
theorem rdKey_a {l:List UInt8}(h:rdT12 l=none):rdKey l=none:=by unfold rdKey;rw[h]
theorem rdKey_b {l r:List UInt8}{s:ByteArray}(h:rdT12 l=some (s,r))(h2:rdN12 r=none):rdKey l=none:=by unfold rdKey;rw[h];simp only;rw[h2]
theorem rdKey_c {l r c:List UInt8}{s:ByteArray}{n:Nat}(h:rdT12 l=some (s,r))(h2:rdN12 r=some (n,c)):rdKey l=some ((s,(n:Int)),c):=by unfold rdKey;rw[h];simp only;rw[h2]
theorem rnode_inner (w:World)(q B:Nat)(l r:List UInt8)(h:RdIs w q B l)(hq:B<=q)(e1:rdN12 l=some (2,r)):Calls Tryz.prog 147 #[.pointer (some ⟨q,0,none⟩)] w (RNodOut (rdRest false r) q w):=by
 have aV:=h.lt
 have n1:=NS.start h hq
 have H1:=rnum_gives _ q B l n1.r hq
 unfold RdOut at H1
 rw[e1] at H1
 simp only at H1
 have HN:=λW lx (d:RdIs W q B lx)=>rnum_gives W q B lx d hq
 unfold RdOut at HN
 have X:=λW (d:RdIs W q B r)=>HN W r d
 clear e1 h
 cases U:rdN12 r with
 | none =>
  rw[U] at X
  simp only at X
  have HP:=rnod_no (r:=rdRest false r) (by unfold rdRest;rw[U]) q w
  generalize RNodOut (rdRest false r) q w=PO at *
  clear U HN
  go_enter Tryz.func147,Tryz.ntmps147
  go_wp2_with fail
  refine H1.mono ?_
  rintro e w2 ⟨aB,rfl,h2⟩
  have L:=n1.call aB h2
  have c2:w2.cell? ⟨w.heap.size,0,none⟩=some (.bool false):=by rw[L.b.cell];rfl
  have f2:=L.b.free 0
  go_wp2_with (go_at_call 142;refine(must_gives _ _ _).mono ?_;rintro e m ⟨rfl,h7⟩;obtain⟨v7,rfl⟩:=h7.1 rfl)
  have M:=L.leaf false
  refine(X _ M.r).mono ?_
  rintro e w4 ⟨aH,rfl⟩
  exact⟨rfl,HP _ (M.g.call (Nat.le_of_lt M.b.lt) aH).grown⟩
 | some y =>
  obtain⟨many,r1⟩:=y
  rw[U] at X
  simp only at X
  have bN:many<=100000:=(rdN12_less U).2
  have aI:=λW (d:RdIs W q B r1)=>HN W r1 d
  cases e4:rdN12 r1 with
  | none =>
   rw[e4] at aI
   simp only at aI
   have aN:=rnod_no (r:=rdRest false r) (by unfold rdRest;rw[U];simp only[Bool.false_eq_true,if_false];rw[e4]) q w
   generalize RNodOut (rdRest false r) q w=PO at *
   clear U e4 HN
   go_enter Tryz.func147,Tryz.ntmps147
   go_wp2_with fail
   refine H1.mono ?_
   rintro e w2 ⟨aB,rfl,h2⟩
   have L:=n1.call aB h2
   have c2:w2.cell? ⟨w.heap.size,0,none⟩=some (.bool false):=by rw[L.b.cell];rfl
   have f2:=L.b.free 0
   go_wp2_with (go_at_call 142;refine(must_gives _ _ _).mono ?_;rintro e m ⟨rfl,h7⟩;obtain⟨v7,rfl⟩:=h7.1 rfl)
   have M:=L.leaf false
   refine(X _ M.r).mono ?_
   rintro e w4 ⟨aH,rfl,h4⟩
   obtain⟨ks,is,Ak,ck,Ai,ci,a6,a2,n4⟩:∃(ks:List ByteArray) (is:List Int) (Ak:Option Addr) (ck:Nat) (Ai:Option Addr) (ci:Nat),ks.length<=0/\is.length<=0/\NS w w4 q B w.heap.size false [] ks is r1 none 0 Ak ck Ai ci:=⟨[],[],none,0,none,0,by simp,by simp,M.call aH h4⟩
   have c4:w4.cell? ⟨w.heap.size,0,none⟩=some (.bool false):=by rw[n4.b.cell];rfl
   clear n1 L M aB h2 c2 f2 aH h4 H1 X
   go_wp2_with fail
   have Z:=n4.drew
   have f:BlkIs w4.drew w.heap.size 43 #[.bool false,.slice none 0 0,.slice Ak ks.length ck,.slice Ai is.length ci]:=Z.b
   refine RegF.start (λW=>BlkIs W w.heap.size 43 #[.bool false,.slice none 0 0,.slice Ak ks.length ck,.slice Ai is.length ci]) 7 (by kernel_rfl) ?_
   refine RegF.t 0 (.pointer (some ⟨w.heap.size,3,none⟩)) rfl f (λW d=>by go_simp) ?_
   simp only[zE,zB,Act.put,zA,zG,zF]
   refine RegF.t 1 (.slice Ai is.length ci) rfl f (λW d=>by have e:W.cell? ⟨w.heap.size,3,none⟩=some (.slice Ai is.length ci):=(by rw[d.cell];rfl);go_simp) ?_
   simp only[zE,zD,zB,Act.put,zA,zG,zF]
   refine RegF.t 2 (.pointer (some ⟨q,0,none⟩)) rfl f (λW d=>by go_simp) ?_
   simp only[zE,zD,zB,Act.put,zA,zG,zF]
   refine RegF.one 3 (by kernel_rfl) ?_
   refine opCP 217 #[.tmp 24] #[228] rfl rfl rfl (enters_of Tryz.func217 (by kernel_rfl) rfl) #[.pointer (some ⟨q,0,none⟩)] (by simp only[zK,zL,zN];rfl) ((aI _ Z.r).mono ?_)
   rintro e w5 ⟨u,rfl⟩
   refine .inr ⟨_,rfl,?_⟩
   exact⟨rfl,aN _ (Z.g.call (Nat.le_of_lt Z.b.lt) u).grown⟩
  | some y4 =>
   obtain⟨O,r2⟩:=y4
   rw[e4] at aI
   simp only at aI
   have aR:rdRest false r=match rdMany rdKey many r2 with|none=>none|some (ks,_)=>some ⟨false,[],ks.map (·.1),(O:Int)::ks.map (·.2)⟩:=by unfold rdRest;rw[U];simp only[Bool.false_eq_true,if_false];rw[e4];rfl
   have a9:=λhr=>rnod_no (r:=rdRest false r) hr q w
   have aY:=λx (hr:rdRest false r=some x)=>rnod_yes hr q w
   have aX:∀k cs n,k<many->rdMany rdKey k r2=some (cs,n)->rdKey n=none->∀w',w.grownBy w' (some q)->RNodOut (rdRest false r) q w (.panicked [gave 220 false]) w':=λk cs n hk hm hf=>a9 (by
    rw[aR]
    have:=rdMany_stop rdKey r2 cs n k hm hf (many - k - 1)
    rw[show k+1+(many - k - 1)=many from by omega] at this
    rw[this])
   have bC:∀C n,rdMany rdKey many r2=some (C,n)->∀(ks:List ByteArray) (is:List Int) w' A c A' c',ks=C.map (·.1)->is=(O:Int)::C.map (·.2)->w.grownBy w' (some q)->NIs w' w'.heap.size ⟨false,[],ks,is⟩ none 0 A c A' c'->RowsOwn w' w.heap.size ⟨false,[],ks,is⟩ none 0 A c A' c'->RNodOut (rdRest false r) q w (.returned (.agg #[.bool false,.slice none 0 0,.slice A ks.length c,.slice A' is.length c'])) w':=λC n hm ks is w' A c A' c' e1 U hg hn hf=>aY ⟨false,[],ks,is⟩ (by rw[aR,hm,e1,U]) w' hg none 0 A c A' c' hn hf
   generalize RNodOut (rdRest false r) q w=PO at *
   have bD:=Lib.hid aX
   have bG:=Lib.hid bC
   clear U e4 aR a9 aY aX bC
   go_enter Tryz.func147,Tryz.ntmps147
   go_wp2_with fail
   refine H1.mono ?_
   rintro e w2 ⟨aB,rfl,h2⟩
   have L:=n1.call aB h2
   have c2:w2.cell? ⟨w.heap.size,0,none⟩=some (.bool false):=by rw[L.b.cell];rfl
   have f2:=L.b.free 0
   go_wp2_with (go_at_call 142;refine(must_gives _ _ _).mono ?_;rintro e m ⟨rfl,h7⟩;obtain⟨v7,rfl⟩:=h7.1 rfl)
   have M:=L.leaf false
   refine(X _ M.r).mono ?_
   rintro e w4 ⟨aH,rfl,h4⟩
   obtain⟨ks,is,Ak,ck,Ai,ci,a6,a2,a4,a5,n4⟩:∃(ks:List ByteArray) (is:List Int) (Ak:Option Addr) (ck:Nat) (Ai:Option Addr) (ci:Nat),ks.length<=0/\is.length<=0/\Hid (ks=[])/\Hid (is=[])/\NS w w4 q B w.heap.size false [] ks is r1 none 0 Ak ck Ai ci:=⟨[],[],none,0,none,0,by simp,by simp,Lib.hid rfl,Lib.hid rfl,M.call aH h4⟩
   have c4:w4.cell? ⟨w.heap.size,0,none⟩=some (.bool false):=by rw[n4.b.cell];rfl
   clear n1 L M aB h2 c2 f2 aH h4 H1 X
   go_wp2_with fail
   have Z:=n4.drew
   have f:BlkIs w4.drew w.heap.size 43 #[.bool false,.slice none 0 0,.slice Ak ks.length ck,.slice Ai is.length ci]:=Z.b
   refine RegF.start (λW=>BlkIs W w.heap.size 43 #[.bool false,.slice none 0 0,.slice Ak ks.length ck,.slice Ai is.length ci]) 7 (by kernel_rfl) ?_
   refine RegF.t 0 (.pointer (some ⟨w.heap.size,3,none⟩)) rfl f (λW d=>by go_simp) ?_
   simp only[zE,zB,Act.put,zA,zG,zF]
   refine RegF.t 1 (.slice Ai is.length ci) rfl f (λW d=>by have e:W.cell? ⟨w.heap.size,3,none⟩=some (.slice Ai is.length ci):=(by rw[d.cell];rfl);go_simp) ?_
   simp only[zE,zD,zB,Act.put,zA,zG,zF]
   refine RegF.t 2 (.pointer (some ⟨q,0,none⟩)) rfl f (λW d=>by go_simp) ?_
   simp only[zE,zD,zB,Act.put,zA,zG,zF]
   refine RegF.one 3 (by kernel_rfl) ?_
   refine opCP 217 #[.tmp 24] #[228] rfl rfl rfl (enters_of Tryz.func217 (by kernel_rfl) rfl) #[.pointer (some ⟨q,0,none⟩)] (by simp only[zK,zL,zN];rfl) ((aI _ Z.r).mono ?_)
   rintro e w5 ⟨u,rfl,V⟩
   have aU:=Z.call u V
   refine .inl ⟨_,rfl,λ_=>aU.b,?_⟩
   simp only[zE,zD,zB,Act.put,zA,zG,zF]
   have N:Below w5.heap.size w5 (w5.alloc (.cells #[.int .i64 (O:Int)] 3)):=(Below.refl _ w5).alloc (zH _) _
   have aF:=aU.past N
   refine RegF.one 4 (by kernel_rfl) ?_
   refine RegF.opV (w':=w5.alloc (.cells #[.int .i64 (O:Int)] 3)) (.slice (some ⟨w5.heap.size,0,none⟩) 1 1) rfl rfl (by go_simp) ⟨λ_=>aF.b,?_⟩
   simp only[zE,zD,zB,Act.put,zA,zG,zF]
   refine RegF.one 5 (by kernel_rfl) ?_
   refine opAppN rfl rfl elIntC (.tmp 23) (.tmp 26) rfl (w.heap.size+1) (.slice Ai is.length ci) is.length (ikC is) rfl aF.i _ _ 1 1 [.int .i64 (O:Int)] rfl (row_lit1 w5 3 1 [.int .i64 (O:Int)] rfl (λv H=>by obtain rfl:=qN.1 H;rfl)) (by unfold maxLen;omega) (by omega) (by have:=aF.b.lt;omega) ?_
   intro v7 m G F
   obtain⟨A7,c7,rfl,_⟩:=ownG_in G (λv H=>by rcases qK.1 H with h|h;exact ikC_one _ v h;obtain rfl:=qN.1 h;rfl)
   have a0:=aF.appI G F
   have j:BlkIs m w.heap.size 43 #[.bool false,.slice none 0 0,.slice Ak ks.length ck,.slice Ai is.length ci]:=aF.b.grown F (λe=>by have:=ownG_ge aF.i w.heap.size e.symm;omega)
   refine⟨λ_=>j,?_⟩
   simp only[zE,zD,zB,Act.put,zA,zG,zF]
   have aD:m.cell? ⟨w.heap.size,3,none⟩=some (.slice Ai is.length ci):=by rw[j.cell];rfl
   have aK:=j.free 3
   refine RegF.one 6 (by kernel_rfl) ?_
   refine RegF.opV (.pointer (some ⟨w.heap.size,3,none⟩)) rfl rfl (by go_simp) ⟨λ_=>j,?_⟩
   simp only[zE,zD,zB,Act.put,zA,zG,zF]
   refine RegF.one 7 (by kernel_rfl) ?_
   refine RegF.opS (w':=m.setCell ⟨w.heap.size,3,none⟩ (.slice A7 (is.length+1) c7)) rfl rfl (by go_simp) ⟨λh=>absurd rfl h,?_⟩
   simp only[zE,zD,zB,Act.put]
   refine RegF.done (by kernel_rfl) ?_
   clear aD aK j G F aF aU N f Z u V
   have a1:Hid (ks=(([]:List (ByteArray×Int)).map (·.1))):=Lib.hid (by rw[a4.out];rfl)
   have bB:Hid (is++[(O:Int)]=(O:Int)::(([]:List (ByteArray×Int)).map (·.2))):=Lib.hid (by rw[a5.out];rfl)
   generalize aS:is++[(O:Int)]=aZ at *
   have a3:is.length+1=aZ.length:=by rw[<-aS,zJ];rfl
   have HX:=Lib.hid aS
   have bM:=Lib.hid a3
   clear aS a3 aI n4 c4
   go_wp2_with fail
   go_loopw [30] (λi wr=>∃(k:Nat) (C:List (ByteArray×Int)) (n:List UInt8) (ks:List ByteArray) (is:List Int) (Ak:Option Addr) (ck:Nat) (Ai:Option Addr) (ci:Nat),k<=many/\i = .int .i64 k/\rdMany rdKey k r2=some (C,n)/\Hid (ks=C.map (·.1))/\Hid (is=(O:Int)::C.map (·.2))/\NS w wr q B w.heap.size false [] ks is n none 0 Ak ck Ai ci) (λi _=>many - (intOf i).toNat)
   case atStart=>exact⟨0,[],r2,ks,aZ,Ak,ck,A7,c7,by omega,rfl,rfl,a1,bB,a0⟩
   case round =>
    clear a0 a1 bB a6 a2 a4 a5
    obtain⟨k,C,n,ks,is,Ak,ck,Ai,ci,hk,rfl,hm,aO,aQ,nr⟩:=hrel
    have c0:wr.cell? ⟨w.heap.size,0,none⟩=some (.bool false):=by rw[nr.b.cell];rfl
    have bI:=rdMany_length rdKey k r2 C n hm
    have bP:ks.length<=100000:=by rw[aO.out,qM];omega
    have bK:is.length<=100001:=by rw[aQ.out,zP,qM];omega
    have HM:=Lib.hid hm
    clear hm bI
    by_cases aV:k<many
    ·have bO:(k:Int)<(many:Int):=by omega
     have bL:IntKind.i64.wrap ((k:Int)+1)=(k:Int)+1:=wrapN _ (by omega) (by omega)
     have HT:=λW (d:RdIs W q B n)=>rtext_gives W q B n d hq
     unfold RdOut at HT
     cases e3:rdT12 n with
     | none =>
      rw[e3] at HT
      simp only at HT
      have aN:=bD.out k C n aV HM.out (rdKey_a e3)
      clear e3 HN
      go_wp2_with fail
      have I:=nr.drew
      have f:BlkIs wr.drew w.heap.size 43 #[.bool false,.slice none 0 0,.slice Ak ks.length ck,.slice Ai is.length ci]:=I.b
      refine RegF.start (λW=>BlkIs W w.heap.size 43 #[.bool false,.slice none 0 0,.slice Ak ks.length ck,.slice Ai is.length ci]) 7 (by kernel_rfl) ?_
      refine RegF.t 0 (.pointer (some ⟨w.heap.size,2,none⟩)) rfl f (λW d=>by go_simp) ?_
      simp only[zE,zB,Act.put,zA,zG,zF]
      refine RegF.t 1 (.slice Ak ks.length ck) rfl f (λW d=>by have e:W.cell? ⟨w.heap.size,2,none⟩=some (.slice Ak ks.length ck):=(by rw[d.cell];rfl);go_simp) ?_
      simp only[zE,zD,zB,Act.put,zA,zG,zF]
      refine RegF.t 2 (.pointer (some ⟨q,0,none⟩)) rfl f (λW d=>by go_simp) ?_
      simp only[zE,zD,zB,Act.put,zA,zG,zF]
      refine RegF.one 3 (by kernel_rfl) ?_
      refine opCP 219 #[.tmp 43] #[228] rfl rfl rfl (enters_of Tryz.func219 (by kernel_rfl) rfl) #[.pointer (some ⟨q,0,none⟩)] (by simp only[zK,zL,zN];rfl) ((HT _ I.r).mono ?_)
      rintro e w5 ⟨u,rfl⟩
      refine .inr ⟨_,rfl,?_⟩
      exact⟨rfl,aN _ (I.g.call (Nat.le_of_lt I.b.lt) u).grown⟩
     | some y3 =>
      obtain⟨s,aT⟩:=y3
      rw[e3] at HT
      simp only at HT
      have aM:=λW (d:RdIs W q B aT)=>HN W aT d
      cases e5:rdN12 aT with
      | none =>
       rw[e5] at aM
       simp only at aM
       have aN:=bD.out k C n aV HM.out (rdKey_b e3 e5)
       clear e3 e5 HN
       go_wp2_with fail
       have I:=nr.drew
       have f:BlkIs wr.drew w.heap.size 43 #[.bool false,.slice none 0 0,.slice Ak ks.length ck,.slice Ai is.length ci]:=I.b
       refine RegF.start (λW=>BlkIs W w.heap.size 43 #[.bool false,.slice none 0 0,.slice Ak ks.length ck,.slice Ai is.length ci]) 7 (by kernel_rfl) ?_
       refine RegF.t 0 (.pointer (some ⟨w.heap.size,2,none⟩)) rfl f (λW d=>by go_simp) ?_
       simp only[zE,zB,Act.put,zA,zG,zF]
       refine RegF.t 1 (.slice Ak ks.length ck) rfl f (λW d=>by have e:W.cell? ⟨w.heap.size,2,none⟩=some (.slice Ak ks.length ck):=(by rw[d.cell];rfl);go_simp) ?_
       simp only[zE,zD,zB,Act.put,zA,zG,zF]
       refine RegF.t 2 (.pointer (some ⟨q,0,none⟩)) rfl f (λW d=>by go_simp) ?_
       simp only[zE,zD,zB,Act.put,zA,zG,zF]
       refine RegF.one 3 (by kernel_rfl) ?_
       refine opCP 219 #[.tmp 43] #[228] rfl rfl rfl (enters_of Tryz.func219 (by kernel_rfl) rfl) #[.pointer (some ⟨q,0,none⟩)] (by simp only[zK,zL,zN];rfl) ((HT _ I.r).mono ?_)
       rintro e w5 ⟨u,rfl,V⟩
       have aC:=I.call u V
       refine .inl ⟨_,rfl,λ_=>aC.b,?_⟩
       simp only[zE,zD,zB,Act.put,zA,zG,zF]
       have N:Below w5.heap.size w5 (w5.alloc (.cells #[.string s] 9)):=(Below.refl _ w5).alloc (zH _) _
       have E:=aC.past N
       refine RegF.one 4 (by kernel_rfl) ?_
       refine RegF.opV (w':=w5.alloc (.cells #[.string s] 9)) (.slice (some ⟨w5.heap.size,0,none⟩) 1 1) rfl rfl (by go_simp) ⟨λ_=>E.b,?_⟩
       simp only[zE,zD,zB,Act.put,zA,zG,zF]
       refine RegF.one 5 (by kernel_rfl) ?_
       refine opAppN rfl rfl elStr (.tmp 42) (.tmp 45) rfl (w.heap.size+1) (.slice Ak ks.length ck) ks.length (skC ks) rfl E.k _ _ 1 1 [.string s] rfl (row_lit1 w5 9 1 [.string s] rfl (λv H=>by obtain rfl:=qN.1 H;rfl)) (by unfold maxLen;omega) (by omega) (by have:=E.b.lt;omega) ?_
       intro v7 m G F
       obtain⟨A7,c7,rfl,_⟩:=ownG_in G (λv H=>by rcases qK.1 H with h|h;exact skC_one _ v h;obtain rfl:=qN.1 h;rfl)
       have aL:=E.appK G F
       have j:BlkIs m w.heap.size 43 #[.bool false,.slice none 0 0,.slice Ak ks.length ck,.slice Ai is.length ci]:=E.b.grown F (λe=>by have:=ownG_ge E.k w.heap.size e.symm;omega)
       refine⟨λ_=>j,?_⟩
       simp only[zE,zD,zB,Act.put,zA,zG,zF]
       have aD:m.cell? ⟨w.heap.size,2,none⟩=some (.slice Ak ks.length ck):=by rw[j.cell];rfl
       have aK:=j.free 2
       refine RegF.one 6 (by kernel_rfl) ?_
       refine RegF.opV (.pointer (some ⟨w.heap.size,2,none⟩)) rfl rfl (by go_simp) ⟨λ_=>j,?_⟩
       simp only[zE,zD,zB,Act.put,zA,zG,zF]
       refine RegF.one 7 (by kernel_rfl) ?_
       refine RegF.opS (w':=m.setCell ⟨w.heap.size,2,none⟩ (.slice A7 (ks.length+1) c7)) rfl rfl (by go_simp) ⟨λh=>absurd rfl h,?_⟩
       simp only[zE,zD,zB,Act.put]
       refine RegF.done (by kernel_rfl) ?_
       clear aD aK j G F E aC N f I u V
       generalize aP:ks++[s]=aJ at *
       obtain⟨wy,aE⟩:∃W,m.setCell ⟨w.heap.size,2,none⟩ (.slice A7 (ks.length+1) c7)=W:=⟨_,rfl⟩
       rw[aE] at aL
       rw[aE]
       clear aP aE nr c0
       go_wp2_with fail
       have aA:=aL.drew
       have f:BlkIs wy.drew w.heap.size 43 #[.bool false,.slice none 0 0,.slice A7 aJ.length c7,.slice Ai is.length ci]:=aA.b
       refine RegF.start (λW=>BlkIs W w.heap.size 43 #[.bool false,.slice none 0 0,.slice A7 aJ.length c7,.slice Ai is.length ci]) 7 (by kernel_rfl) ?_
       refine RegF.t 0 (.pointer (some ⟨w.heap.size,3,none⟩)) rfl f (λW d=>by go_simp) ?_
       simp only[zE,zB,Act.put,zA,zG,zF]
       refine RegF.t 1 (.slice Ai is.length ci) rfl f (λW d=>by have e:W.cell? ⟨w.heap.size,3,none⟩=some (.slice Ai is.length ci):=(by rw[d.cell];rfl);go_simp) ?_
       simp only[zE,zD,zB,Act.put,zA,zG,zF]
       refine RegF.t 2 (.pointer (some ⟨q,0,none⟩)) rfl f (λW d=>by go_simp) ?_
       simp only[zE,zD,zB,Act.put,zA,zG,zF]
       refine RegF.one 3 (by kernel_rfl) ?_
       refine opCP 217 #[.tmp 50] #[228] rfl rfl rfl (enters_of Tryz.func217 (by kernel_rfl) rfl) #[.pointer (some ⟨q,0,none⟩)] (by simp only[zK,zL,zN];rfl) ((aM _ aA.r).mono ?_)
       rintro e w5 ⟨u,rfl⟩
       refine .inr ⟨_,rfl,?_⟩
       exact⟨rfl,aN _ (aA.g.call (Nat.le_of_lt aA.b.lt) u).grown⟩
      | some y5 =>
       obtain⟨pg,bA⟩:=y5
       rw[e5] at aM
       simp only at aM
       have bJ:=Lib.hid (rdMany_next rdKey k r2 C n (s,(pg:Int)) bA HM.out (rdKey_c e3 e5))
       clear e3 e5 HN
       go_wp2_with fail
       have I:=nr.drew
       have f:BlkIs wr.drew w.heap.size 43 #[.bool false,.slice none 0 0,.slice Ak ks.length ck,.slice Ai is.length ci]:=I.b
       refine RegF.start (λW=>BlkIs W w.heap.size 43 #[.bool false,.slice none 0 0,.slice Ak ks.length ck,.slice Ai is.length ci]) 7 (by kernel_rfl) ?_
       refine RegF.t 0 (.pointer (some ⟨w.heap.size,2,none⟩)) rfl f (λW d=>by go_simp) ?_
       simp only[zE,zB,Act.put,zA,zG,zF]
       refine RegF.t 1 (.slice Ak ks.length ck) rfl f (λW d=>by have e:W.cell? ⟨w.heap.size,2,none⟩=some (.slice Ak ks.length ck):=(by rw[d.cell];rfl);go_simp) ?_
       simp only[zE,zD,zB,Act.put,zA,zG,zF]
       refine RegF.t 2 (.pointer (some ⟨q,0,none⟩)) rfl f (λW d=>by go_simp) ?_
       simp only[zE,zD,zB,Act.put,zA,zG,zF]
       refine RegF.one 3 (by kernel_rfl) ?_
       refine opCP 219 #[.tmp 43] #[228] rfl rfl rfl (enters_of Tryz.func219 (by kernel_rfl) rfl) #[.pointer (some ⟨q,0,none⟩)] (by simp only[zK,zL,zN];rfl) ((HT _ I.r).mono ?_)
       rintro e w5 ⟨u,rfl,V⟩
       have aC:=I.call u V
       refine .inl ⟨_,rfl,λ_=>aC.b,?_⟩
       simp only[zE,zD,zB,Act.put,zA,zG,zF]
       have N:Below w5.heap.size w5 (w5.alloc (.cells #[.string s] 9)):=(Below.refl _ w5).alloc (zH _) _
       have E:=aC.past N
       refine RegF.one 4 (by kernel_rfl) ?_
       refine RegF.opV (w':=w5.alloc (.cells #[.string s] 9)) (.slice (some ⟨w5.heap.size,0,none⟩) 1 1) rfl rfl (by go_simp) ⟨λ_=>E.b,?_⟩
       simp only[zE,zD,zB,Act.put,zA,zG,zF]
       refine RegF.one 5 (by kernel_rfl) ?_
       refine opAppN rfl rfl elStr (.tmp 42) (.tmp 45) rfl (w.heap.size+1) (.slice Ak ks.length ck) ks.length (skC ks) rfl E.k _ _ 1 1 [.string s] rfl (row_lit1 w5 9 1 [.string s] rfl (λv H=>by obtain rfl:=qN.1 H;rfl)) (by unfold maxLen;omega) (by omega) (by have:=E.b.lt;omega) ?_
       intro v7 m G F
       obtain⟨A7,c7,rfl,_⟩:=ownG_in G (λv H=>by rcases qK.1 H with h|h;exact skC_one _ v h;obtain rfl:=qN.1 h;rfl)
       have aL:=E.appK G F
       have j:BlkIs m w.heap.size 43 #[.bool false,.slice none 0 0,.slice Ak ks.length ck,.slice Ai is.length ci]:=E.b.grown F (λe=>by have:=ownG_ge E.k w.heap.size e.symm;omega)
       refine⟨λ_=>j,?_⟩
       simp only[zE,zD,zB,Act.put,zA,zG,zF]
       have aD:m.cell? ⟨w.heap.size,2,none⟩=some (.slice Ak ks.length ck):=by rw[j.cell];rfl
       have aK:=j.free 2
       refine RegF.one 6 (by kernel_rfl) ?_
       refine RegF.opV (.pointer (some ⟨w.heap.size,2,none⟩)) rfl rfl (by go_simp) ⟨λ_=>j,?_⟩
       simp only[zE,zD,zB,Act.put,zA,zG,zF]
       refine RegF.one 7 (by kernel_rfl) ?_
       refine RegF.opS (w':=m.setCell ⟨w.heap.size,2,none⟩ (.slice A7 (ks.length+1) c7)) rfl rfl (by go_simp) ⟨λh=>absurd rfl h,?_⟩
       simp only[zE,zD,zB,Act.put]
       refine RegF.done (by kernel_rfl) ?_
       clear aD aK j G F E aC N f I u V
       have bF:Hid (ks++[s]=(C++[(s,(pg:Int))]).map (·.1)):=Lib.hid (by rw[aO.out,List.map_append];rfl)
       generalize aP:ks++[s]=aJ at *
       obtain⟨wy,aE⟩:∃W,m.setCell ⟨w.heap.size,2,none⟩ (.slice A7 (ks.length+1) c7)=W:=⟨_,rfl⟩
       rw[aE] at aL
       rw[aE]
       clear aP aE nr c0
       obtain⟨Ak,a7⟩:∃A,A=A7:=⟨_,rfl⟩
       obtain⟨ck,a8⟩:∃c,c=c7:=⟨_,rfl⟩
       rw[<-a7,<-a8] at aL
       clear a7 a8
       go_wp2_with fail
       have aA:=aL.drew
       have f:BlkIs wy.drew w.heap.size 43 #[.bool false,.slice none 0 0,.slice Ak aJ.length ck,.slice Ai is.length ci]:=aA.b
       refine RegF.start (λW=>BlkIs W w.heap.size 43 #[.bool false,.slice none 0 0,.slice Ak aJ.length ck,.slice Ai is.length ci]) 7 (by kernel_rfl) ?_
       refine RegF.t 0 (.pointer (some ⟨w.heap.size,3,none⟩)) rfl f (λW d=>by go_simp) ?_
       simp only[zE,zB,Act.put,zA,zG,zF]
       refine RegF.t 1 (.slice Ai is.length ci) rfl f (λW d=>by have e:W.cell? ⟨w.heap.size,3,none⟩=some (.slice Ai is.length ci):=(by rw[d.cell];rfl);go_simp) ?_
       simp only[zE,zD,zB,Act.put,zA,zG,zF]
       refine RegF.t 2 (.pointer (some ⟨q,0,none⟩)) rfl f (λW d=>by go_simp) ?_
       simp only[zE,zD,zB,Act.put,zA,zG,zF]
       refine RegF.one 3 (by kernel_rfl) ?_
       refine opCP 217 #[.tmp 50] #[228] rfl rfl rfl (enters_of Tryz.func217 (by kernel_rfl) rfl) #[.pointer (some ⟨q,0,none⟩)] (by simp only[zK,zL,zN];rfl) ((aM _ aA.r).mono ?_)
       rintro e w5 ⟨u,rfl,V⟩
       have aW:=aA.call u V
       refine .inl ⟨_,rfl,λ_=>aW.b,?_⟩
       simp only[zE,zD,zB,Act.put,zA,zG,zF]
       have N:Below w5.heap.size w5 (w5.alloc (.cells #[.int .i64 (pg:Int)] 3)):=(Below.refl _ w5).alloc (zH _) _
       have aG:=aW.past N
       refine RegF.one 4 (by kernel_rfl) ?_
       refine RegF.opV (w':=w5.alloc (.cells #[.int .i64 (pg:Int)] 3)) (.slice (some ⟨w5.heap.size,0,none⟩) 1 1) rfl rfl (by go_simp) ⟨λ_=>aG.b,?_⟩
       simp only[zE,zD,zB,Act.put,zA,zG,zF]
       refine RegF.one 5 (by kernel_rfl) ?_
       refine opAppN rfl rfl elIntC (.tmp 49) (.tmp 52) rfl (w.heap.size+1) (.slice Ai is.length ci) is.length (ikC is) rfl aG.i _ _ 1 1 [.int .i64 (pg:Int)] rfl (row_lit1 w5 3 1 [.int .i64 (pg:Int)] rfl (λv H=>by obtain rfl:=qN.1 H;rfl)) (by unfold maxLen;omega) (by omega) (by have:=aG.b.lt;omega) ?_
       intro v7 m G F
       obtain⟨A7,c7,rfl,_⟩:=ownG_in G (λv H=>by rcases qK.1 H with h|h;exact ikC_one _ v h;obtain rfl:=qN.1 h;rfl)
       have bH:=aG.appI G F
       have j:BlkIs m w.heap.size 43 #[.bool false,.slice none 0 0,.slice Ak aJ.length ck,.slice Ai is.length ci]:=aG.b.grown F (λe=>by have:=ownG_ge aG.i w.heap.size e.symm;omega)
       refine⟨λ_=>j,?_⟩
       simp only[zE,zD,zB,Act.put,zA,zG,zF]
       have aD:m.cell? ⟨w.heap.size,3,none⟩=some (.slice Ai is.length ci):=by rw[j.cell];rfl
       have aK:=j.free 3
       refine RegF.one 6 (by kernel_rfl) ?_
       refine RegF.opV (.pointer (some ⟨w.heap.size,3,none⟩)) rfl rfl (by go_simp) ⟨λ_=>j,?_⟩
       simp only[zE,zD,zB,Act.put,zA,zG,zF]
       refine RegF.one 7 (by kernel_rfl) ?_
       refine RegF.opS (w':=m.setCell ⟨w.heap.size,3,none⟩ (.slice A7 (is.length+1) c7)) rfl rfl (by go_simp) ⟨λh=>absurd rfl h,?_⟩
       simp only[zE,zD,zB,Act.put]
       refine RegF.done (by kernel_rfl) ?_
       clear aD aK j G F aG aW N f aA u V
       have bE:Hid (is++[(pg:Int)]=(O:Int)::(C++[(s,(pg:Int))]).map (·.2)):=Lib.hid (by rw[aQ.out,List.map_append];rfl)
       go_wp2
       exact⟨⟨k+1,C++[(s,(pg:Int))],bA,aJ,is++[(pg:Int)],Ak,ck,A7,c7,by omega,by simp,bJ.out,bF,bE,bH⟩,by simp[intOf];omega⟩
    ·obtain rfl:k=many:=by omega
     have ns:=nr.same
     go_wp2_with (first
      | (refine wp_loadW rfl 43 (.tmp 2) rfl w.heap.size rfl rowNod nr.b (by rfl) ?_)
      | (refine wp_storeW rfl 43 (.tmp 2) (.tmp 56) rfl w.heap.size rfl rfl rowNod nr.b (by rfl) (by rfl) (four_oneC rfl rfl rfl rfl) ?_))
     exact bodyPost_ret (results_cellW 2 rfl rfl rowNod ns.b (by rfl)) rfl (bG.out C n HM.out ks is _ Ak ck Ai ci aO.out aQ.out ns.g.grown ns.nis ns.own)

attribute [local go_sem] as_errno
theorem rnode_gives (w:World)(q B:Nat)(l:List UInt8)(h:RdIs w q B l)(hq:B<=q):Calls Tryz.prog 147 #[.pointer (some ⟨q,0,none⟩)] w (RNodOut (rdNod l) q w):=by
 cases c:rdN12 l with
 | none =>
  have m:=rnod_no (r:=rdNod l) (by unfold rdNod;rw[c]) q w
  generalize RNodOut (rdNod l) q w=F at *
  have j:=NS.start h hq
  have d:=rnum_gives _ q B l j.r hq
  unfold RdOut at d
  rw[c] at d
  simp only at d
  clear c h
  go_enter Tryz.func147,Tryz.ntmps147
  go_wp2_with fail
  refine d.mono ?_
  rintro e E ⟨n,rfl⟩
  exact⟨rfl,m _ (j.g.call (Nat.le_of_lt j.b.lt) n).grown⟩
 | some y =>
  obtain⟨f,r⟩:=y
  by_cases u:f=1
  ·subst u
   have e:rdNod l=rdRest true r:=by unfold rdNod;rw[c];rfl
   rw[e]
   exact rnode_leaf w q B l r h hq c
  ·by_cases k:f=2
   ·subst k
    have e:rdNod l=rdRest false r:=by unfold rdNod;rw[c];rfl
    rw[e]
    exact rnode_inner w q B l r h hq c
   ·have m:=rnod_no (r:=rdNod l) (by unfold rdNod;rw[c];simp only;rw[if_neg u,if_neg k]) q w
    generalize RNodOut (rdNod l) q w=F at *
    have j:=NS.start h hq
    have d:=rnum_gives _ q B l j.r hq
    unfold RdOut at d
    rw[c] at d
    simp only at d
    have v:¬ (f:Int)=1:=by omega
    have A:¬ (f:Int)=2:=by omega
    clear c h u k
    go_enter Tryz.func147,Tryz.ntmps147
    go_wp2_with fail
    refine d.mono ?_
    rintro e E ⟨n,rfl,h2⟩
    go_wp2_with (go_at_call 142;refine(must_gives _ _ _).mono ?_;rintro e G ⟨rfl,C⟩;obtain rfl:=C.2 (by simp[v,A]))
    exact⟨rfl,m _ (j.g.call (Nat.le_of_lt j.b.lt) n).grown⟩
theorem neqB_gives (w:World)(A v:Option Addr)(c c':Nat)(l l':List UInt8)(h:InB w w.heap.size A c l)(n:InB w w.heap.size v c' l'):Calls Tryz.prog 68 #[.slice A l.length c,.slice v l'.length c'] w λe w'=>e = .returned (.bool (decide (l=l')))/\Below w.heap.size w w':=by
 have V:=h.le
 have X:=h.max
 by_cases hl:l.length=l'.length
 ·have aB:l'.length<=9223372036854775807:=by have:=n.le;have:=n.max;omega
  rw[<-hl]
  have u:=Lib.hid hl
  clear hl
  go_enter Tryz.func68,Tryz.ntmps68
  go_wp2
  go_loopw [13] (λi wr=>∃k:Nat,k<=l.length/\i = .int .i64 k/\Hid (l.take k=l'.take k)/\Below w.heap.size w wr) (λi _=>l.length - (intOf i).toNat)
  case atStart=>exact⟨0,by omega,rfl,Lib.hid (by simp),Below.refl _ _⟩
  case round =>
   obtain⟨k,Z,rfl,F,hB⟩:=hrel
   by_cases E:k<l.length
   ·have r:k<l'.length:=by have:=u.out;omega
    obtain⟨g,o,rfl,G,hc⟩:=h.lies (by omega)
    obtain⟨j,o',rfl,M,m⟩:=n.lies (by omega)
    have N:wr.cell? ⟨g,o+k,none⟩=some (.int .u8 (l[k].toNat:Int)):=(hB.cell (p:=⟨g,o+k,none⟩) G).trans (hc k E)
    have C:wr.cell? ⟨j,o'+k,none⟩=some (.int .u8 (l'[k].toNat:Int)):=(hB.cell (p:=⟨j,o'+k,none⟩) M).trans (m k r)
    have O:wr.drew.cell? ⟨g,o+k,none⟩=some (.int .u8 (l[k].toNat:Int)):=N
    have H:wr.drew.cell? ⟨j,o'+k,none⟩=some (.int .u8 (l'[k].toNat:Int)):=C
    have U:(k:Int)<(l.length:Int):=by omega
    have W:(0:Int)<=(k:Int):=by omega
    have aC:IntKind.i64.wrap ((k:Int)+1)=(k:Int)+1:=wrapN _ (by omega) (by omega)
    by_cases d:l[k]=l'[k]
    ·have L:Hid (l.take (k+1)=l'.take (k+1)):=Lib.hid (by rw[zW E,zW r,F.out,d])
     rw[<-d] at C H
     generalize l[k]=b at *
     clear d hc m
     go_wp2
     go_region
     go_wp2
     exact⟨⟨k+1,by omega,by simp,L,hB.drew⟩,by simp[intOf];omega⟩
    ·have f:¬ l=l':=λe=>d (by subst e;rfl)
     have hb:¬ (l[k].toNat:Int)=(l'[k].toNat:Int):=λe=>d (UInt8.toNat_inj.1 (by omega))
     generalize (l[k].toNat:Int)=x at *
     generalize (l'[k].toNat:Int)=y at *
     have I:=Lib.hid f
     clear d hc m f
     go_wp2
     go_region
     go_wp2
     go_ret
     exact⟨by simp[I.out],hB.drew⟩
   ·obtain rfl:k=l.length:=by omega
    have d:Hid (l=l'):=Lib.hid (by
     have h1:=F.out
     rw[List.take_length,u.out,List.take_length] at h1
     exact h1)
    go_wp2
    go_ret
    exact⟨by simp[d.out],hB⟩
 ·have aA:¬ (l.length:Int)=(l'.length:Int):=by omega
  have f:¬ l=l':=λe=>hl (by rw[e])
  go_enter Tryz.func68,Tryz.ntmps68
  go_wp2
  go_ret
  exact⟨by simp[f],Below.refl _ _⟩
end Go.Proofs.YtpibjkbadnffgaaGreat
namespace Go.Proofs.YtpibjkbadnffgaaGreat
open Go Go.RowKit Lou

attribute [local go_sem] as_errno
def zeroN:Array Value:=#[.bool false,.slice none 0 0,.slice none 0 0,.slice none 0 0]
section
variable {w0 w w':World}{p:Nat}{a b:Array Value}{s e:Value}
end
theorem box4 {w:World}{g:Nat}{t:TypeId}{v0 v1 c v3:Value}(h:BlkIs w g t #[v0,v1,c,v3]):w.cell? ⟨g,0,none⟩=some v0/\w.cell? ⟨g,1,none⟩=some v1/\w.cell? ⟨g,2,none⟩=some c/\w.cell? ⟨g,3,none⟩=some v3 :=
 ⟨by rw[h.cell];rfl,by rw[h.cell];rfl,by rw[h.cell];rfl,by rw[h.cell];rfl⟩
end Go.Proofs.YtpibjkbadnffgaaGreat
namespace Go.Proofs.YtpibjkbadnffgaaGreat
open Go Go.RowKit Lou
attribute [local go_sem] as_errno
theorem rdMany_fst {c l:List UInt8}{k:Nat}{cs:List Cel}(h:rdMany rdCel k c=some (cs,l)):cs.length<=c.length:=by have:=rdMany_less (f:=rdCel) (λ_ _ _ h=>rdCel_less h) k c cs l h;omega
theorem rdMany_snd {c l:List UInt8}{k:Nat}{cs:List (ByteArray×Int)}(h:rdMany rdKey k c=some (cs,l)):cs.length<=c.length:=by have:=rdMany_less (f:=rdKey) (λ_ _ _ h=>rdKey_less h) k c cs l h;omega
theorem rdRest_small {lf:Bool}{r:List UInt8}{x:Nod}(h:rdRest lf r=some x):x.leaf=lf/\x.cells.length<=r.length/\x.keys.length<=r.length/\x.kids.length<=r.length+1:=by
 unfold rdRest at h
 cases f:rdN12 r with
 | none=>rw[f] at h;cases h
 | some z =>
  obtain⟨many,j⟩:=z
  have m:=(rdN12_less f).1
  rw[f] at h
  simp only at h
  cases lf with
  | true =>
   simp only[if_true] at h
   cases c:rdMany rdCel many j with
   | none=>rw[c] at h;cases h
   | some u =>
    obtain⟨cs,g⟩:=u
    rw[c] at h
    simp only[Option.some.injEq] at h
    subst h
    have:=rdMany_fst c
    exact⟨rfl,by show cs.length<=_;omega,by show 0<=_;omega,by show 0<=_;omega⟩
  | false =>
   simp only[Bool.false_eq_true,if_false] at h
   cases c:rdN12 j with
   | none=>rw[c] at h;cases h
   | some v =>
    obtain⟨A,g⟩:=v
    have k:=(rdN12_less c).1
    rw[c] at h
    simp only at h
    cases d:rdMany rdKey many g with
    | none=>rw[d] at h;cases h
    | some u =>
     obtain⟨cs,n⟩:=u
     rw[d] at h
     simp only[Option.some.injEq] at h
     subst h
     have:=rdMany_snd d
     exact⟨rfl,by show 0<=_;omega,by show (cs.map _).length<=_;rw[qM];omega,by show (_::cs.map _).length<=_;rw[zP,qM];omega⟩
theorem rdNod_small {b:List UInt8}{x:Nod}(h:rdNod b=some x):x.cells.length<=b.length/\x.keys.length<=b.length/\x.kids.length<=b.length+1:=by
 unfold rdNod at h
 cases c:rdN12 b with
 | none=>rw[c] at h;cases h
 | some y =>
  obtain⟨f,r⟩:=y
  have d:=(rdN12_less c).1
  rw[c] at h
  simp only at h
  split at h
  ·have:=rdRest_small h;omega
  ·split at h
   ·have:=rdRest_small h;omega
   ·cases h
theorem InG.keepAt {w w':World}{B d sz n c:Nat}{A:Option Addr}{cs:List Value}(h:InG w B sz A n c cs)(hB:B<=d)(k:∀g o,A=some ⟨g,o,none⟩->w'.heap[g]? = w.heap[g]?):InG w' d sz A n c cs:=by
 refine⟨h.le,h.max,h.nil,h.len,h.one,λr => ?_⟩
 obtain⟨g,o,e,u,f⟩:=h.lies r
 refine⟨g,o,e,by omega,λj v m => ?_⟩
 rw[<-f j v m]
 exact World.cell?_of_block (w:=w) (k g o e)
theorem NIs.keepAt {w w':World}{x:Nod}{n:Nat}{Ac Ak Ai:Option Addr}{cc ck ci:Nat}(h:NIs w w.heap.size x Ac cc Ak ck Ai ci)(hf:RowsFrom n Ac Ak Ai)(hs:w.heap.size<=w'.heap.size)(d:∀r,n<=r->w'.heap[r]? = w.heap[r]?):NIs w' w'.heap.size x Ac cc Ak ck Ai ci :=
 ⟨h.c.keepAt hs λg o e=>d g (hf g o (.inl e)),h.k.keepAt hs λg o e=>d g (hf g o (.inr (.inl e))),h.i.keepAt hs λg o e=>d g (hf g o (.inr (.inr e)))⟩
end Go.Proofs.YtpibjkbadnffgaaGreat
namespace Go.Proofs.YtpibjkbadnffgaaGreat
open Go Go.RowKit Lou
def decW (w:World):World:=(w.alloc (.cells #[.bool false,.slice none 0 0,.slice none 0 0,.slice none 0 0] 43)).alloc (.cells #[.int .i64 0] 27)
theorem decW_is (w:World):BlkIs (decW w) w.heap.size 43 zeroN/\BlkIs (decW w) (w.heap.size+1) 27 #[.int .i64 0]/\Below w.heap.size w (decW w)/\(decW w).heap.size=w.heap.size+1+1:=by
 have d:=BlkIs.new w 43 zeroN
 have c:=BlkIs.new (w.alloc (.cells zeroN 43)) 27 #[.int .i64 0]
 rw[World.size_alloc] at c
 exact⟨d.alloc _,c,((Below.refl _ w).alloc (zH _) _).alloc (by simp) _,by unfold decW;rw[World.size_alloc,World.size_alloc]⟩
def DecYesF (w:World)(x:Nod)(e:Ending)(w':World):Prop:=∃Ac cc Ak ck Ai ci,e = .returned (.tuple #[.agg (nodC x Ac cc Ak ck Ai ci),.int .i64 0])/\NIs w' w'.heap.size x Ac cc Ak ck Ai ci/\Below w.heap.size w w'/\RowsOwn w' w.heap.size x Ac cc Ak ck Ai ci
theorem dec_okF (w:World)(A:Option Addr)(c:Nat)(b:List UInt8)(h:InB w w.heap.size A c b)(hl:b.length=512)(x:Nod)(d:rdNod b=some x)(lb:List UInt8)(aG:(lb++zR (512 - lb.length) (0:UInt8)).length=512)(HE:∀W Ac cc Ak ck Ai ci,NIs W W.heap.size x Ac cc Ak ck Ai ci->Calls Tryz.prog 86 #[.agg (nodC x Ac cc Ak ck Ai ci)] W (EncOut W lb))(he:lb++zR (512 - lb.length) (0:UInt8)=b) :
  Calls Tryz.prog 89 #[.slice A b.length c] w (DecYesF w x):=by
 have aX:∀(fn:Fn) (first aM:Array Value) (w:World),(Instr.makeFunc fn first aM).run Tryz.prog w = .ok (.func fn first aM) w:=λ_ _ _ _=>rfl
 obtain⟨b1,b2,F,U⟩:=decW_is w
 obtain⟨g,Z⟩:∃g,g=decW w:=⟨_,rfl⟩
 rw[<-Z] at b1 b2 F U
 unfold decW at Z
 have aE:=BlkIs.new g 232 #[.slice A b.length c]
 have E:Below g.heap.size g (g.alloc (.cells #[.slice A b.length c] 232)):=(Below.refl _ g).alloc (zH _) _
 have hR:RdIs (g.alloc (.cells #[.slice A b.length c] 232)) (w.heap.size+1+1) w.heap.size b:=by
  rw[<-U]
  exact⟨A,c,aE,h.below (F.trans (E.mono F.size))⟩
 have v:=rnode_gives _ _ _ b hR (by omega)
 unfold RNodOut at v
 have aL:=F.trans (E.mono F.size)
 have aJ:=b1.below E b1.lt
 have aK:=b2.below E b2.lt
 have G:(g.alloc (.cells #[.slice A b.length c] 232)).heap.size=w.heap.size+1+1+1:=by rw[World.size_alloc,U]
 obtain⟨W2,O⟩:∃W2,W2=g.alloc (.cells #[.slice A b.length c] 232):=⟨_,rfl⟩
 rw[<-O] at v aL aJ aK G
 rw[Z] at O
 have aS:=Lib.hid O
 have m:=Lib.hid G
 clear Z O hR aE E U G
 have aY:(b.length:Int)=512:=by omega
 rw[d] at v
 simp only at v
 unfold EncOut at HE
 generalize lb++zR (512 - lb.length) (0:UInt8)=full at *
 have EQ:∀W H c5,InB W W.heap.size H c5 full->InB W W.heap.size A c b->Calls Tryz.prog 68 #[.slice H 512 c5,.slice A b.length c] W λe w'=>e = .returned (.bool (decide (full=b)))/\Below W.heap.size W w':=λW H c5 h1 h2=>by
  have:=neqB_gives W H A c5 c full b h1 h2
  rw[aG] at this
  exact this
 clear aG
 have aP:=Lib.hid he
 clear he
 clear hl d
 unfold DecYesF
 go_enter_defers Tryz.func89,Tryz.ntmps89
 go_wp2_with (first
  | (go_at_call 142;refine(must_gives _ _ _).mono ?_;rintro e w7 ⟨rfl,h7⟩;obtain⟨v7,rfl⟩:=h7.1 rfl)
  | (go_at_call 147;rw[<-aS.out];refine v.mono ?_;rintro e w3 ⟨aB,Ac,cc,Ak,ck,Ai,ci,rfl,n3,aI⟩;have hf:=aI.rows;have G:=m.out;have aH:=aJ.grown aB (λe=>by injection e;omega);have aR:=aK.grown aB (λe=>by injection e;omega);have aV:Below w.heap.size w w3:=aL.grown aB (by omega) (λk e=>by injection e;omega);clear G)
  | (unfold nodC;refine wp_storeW rfl 43 (.tmp 2) (.tmp 17) rfl w.heap.size rfl rfl rowNod aH rfl rfl (four_oneC rfl rfl rfl rfl) ?_;have n4:=n3.keepAt (w':=w3.setRow w.heap.size (nodC x Ac cc Ak ck Ai ci)) hf (by simp[World.setRow]) (λr d=>setRow_other _ _ r _ (by have:=m.out;omega));have o4:=aI.keepAt (w':=w3.setRow w.heap.size (nodC x Ac cc Ak ck Ai ci)) (λr d _=>setRow_other _ _ r _ (by have:=m.out;omega));have u:=aH.setRow (nodC x Ac cc Ak ck Ai ci);have L:=aR.setRow_ne (k:=w.heap.size) (by omega) (nodC x Ac cc Ak ck Ai ci);have n:=below_setRow aV (zH w.heap.size) (nodC x Ac cc Ak ck Ai ci);obtain⟨W4,N⟩:∃W,w3.setRow w.heap.size (nodC x Ac cc Ak ck Ai ci)=W:=⟨_,rfl⟩;rw[N] at n4 o4 u L n;unfold nodC at N u;rw[N];clear N)
  | (refine wp_loadW rfl 43 (.tmp 2) rfl w.heap.size rfl rowNod u rfl ?_)
  | (go_at_call 86;refine(HE _ _ _ _ _ _ _ n4).mono ?_;rintro e w5 ⟨H,c5,rfl,aQ,j⟩;have aW:InB w5 w5.heap.size A c b:=(h.below (n.trans (j.mono n.size))).more (by have:=n.size;have:=j.size;omega))
  | (go_at_call 68;refine(EQ _ _ _ aQ aW).mono ?_;rintro e M ⟨rfl,C⟩;have aC:=(u.below j u.lt).below C (zO u.lt j.size);have aU:=(L.below j L.lt).below C (zO L.lt j.size);have aN:=n.trans (j.mono n.size);have aT:=aN.trans (C.mono aN.size);have n6:=(n4.grow j).grow C;have o6:=(o4.keepAt (w':=w5) (λr _ d=>j.block r d)).keepAt (w':=M) (λr _ d=>C.block r d))
  | (go_at_call 142;refine(must_gives _ _ _).mono ?_;rintro e w7 ⟨rfl,h7⟩;obtain⟨v7,rfl⟩:=h7.1 (decide_eq_true aP.out))
  | (refine wp_loadW rfl 43 (.tmp 2) rfl w.heap.size rfl rowNod aC rfl ?_)
  | (refine wp_storeW rfl 43 (.tmp 2) (.tmp 31) rfl w.heap.size rfl rfl rowNod aC rfl rfl (four_oneC rfl rfl rfl rfl) ?_;have n7:=n6.keepAt (w':=M.setRow w.heap.size (nodC x Ac cc Ak ck Ai ci)) hf (by simp[World.setRow]) (λr d=>setRow_other _ _ r _ (by have:=m.out;omega));have o7:=o6.keepAt (w':=M.setRow w.heap.size (nodC x Ac cc Ak ck Ai ci)) (λr d _=>setRow_other _ _ r _ (by have:=m.out;omega));have aA:=aC.setRow (nodC x Ac cc Ak ck Ai ci);have V:=aU.setRow_ne (k:=w.heap.size) (by omega) (nodC x Ac cc Ak ck Ai ci);have aO:=below_setRow aT (zH w.heap.size) (nodC x Ac cc Ak ck Ai ci);obtain⟨I,X⟩:∃W,M.setRow w.heap.size (nodC x Ac cc Ak ck Ai ci)=W:=⟨_,rfl⟩;rw[X] at n7 o7 aA V aO;unfold nodC at X aA;rw[X];clear X;have k7:=V.boxed;have f7:=V.free 0))
 refine leaves_cons (f:=139) (args:=#[.pointer (some ⟨w.heap.size+1,0,none⟩),.func (.func 146) #[] #[.pointer (some ⟨w.heap.size,0,none⟩)]]) (by simp) (by simp[go_sem]) ?_
 refine(caught_idle _ _ _).mono ?_
 rintro e u' wz ⟨rfl,rfl,aD⟩
 have y1:=aA.other (p:=⟨w.heap.size+1,0,none⟩) (by simp) (.int .i64 0)
 have y2:=V.set 0 (.int .i64 0)
 have aF:=aO.setCell (p:=⟨w.heap.size+1,0,none⟩) (by simp) (.int .i64 0)
 have n8:=n7.keepAt (w':=I.setCell ⟨w.heap.size+1,0,none⟩ (.int .i64 0)) hf (by simp[World.setCell]) (λr d=>Below.heap_setCell I ⟨w.heap.size+1,0,none⟩ _ r (by have:=m.out;show r≠w.heap.size+1;omega))
 have o8:=o7.keepAt (w':=I.setCell ⟨w.heap.size+1,0,none⟩ (.int .i64 0)) (λr d _=>Below.heap_setCell I ⟨w.heap.size+1,0,none⟩ _ r (by have:=m.out;show r≠w.heap.size+1;omega))
 rw[<-aD] at y1 y2 aF n8 o8
 clear aD
 obtain⟨a0,a1,a2,a3⟩:=box4 y1
 have q3:wz.cell? ⟨w.heap.size+1,0,none⟩=some (.int .i64 0):=y2.boxed
 simp[Leaves,settle,results,Tryz.results89,go_sem,a0,a1,a2,a3,q3]
 exact⟨Ac,cc,Ak,ck,Ai,ci,rfl,n8,aF,o8.base (by have:=m.out;omega)⟩
theorem fits_length {x:Nod}{b:List UInt8}(h:FitsIn x b):b.length=512:=by
 have h1:=h.2.1
 rw[<-h.2.2,zJ,List.length_replicate]
 omega
theorem ndecodeY_gives (w:World)(A:Option Addr)(c:Nat)(b:List UInt8)(h:InB w w.heap.size A c b)(x:Nod)(d:rdNod b=some x)(hF:FitsIn x b) :
  Calls Tryz.prog 89 #[.slice A b.length c] w (DecYesF w x):=by
 obtain⟨g,j,k⟩:=rdNod_small d
 have hf:=hF.2.1
 have hl:=fits_length hF
 have f:(laidB x++zR (512 - (laidB x).length) (0:UInt8)).length=512:=by rw[zJ,List.length_replicate];omega
 exact dec_okF w A c b h (fits_length hF) x d (laidB x) f (λW Ac cc Ak ck Ai ci hn=>encode_ok W x Ac cc Ak ck Ai ci hn (by omega) (by omega) (by omega) hF.1 hf) hF.2.2
theorem rowStep:RowTy Tryz.prog 74 1:=⟨⟨_,Tryz.underlying74,rfl⟩,by kernel_rfl⟩
theorem tlinked_none (w:World)(s f:Value)(d u:ByteArray) :
  Calls Tryz.prog 41 #[.agg #[s],.agg (celC ⟨d,u,0,0⟩).toArray,f] w λe w'=>(∃z,e = .returned z)/\Below w.heap.size w w':=by
 obtain⟨W1,c⟩:∃W1,W1=(w.alloc (.cells #[s] 74)).alloc (.cells #[.string d,.string u,.int .i64 0,.int .i64 0] 49):=⟨_,rfl⟩
 have k:Below w.heap.size w W1:=by rw[c];exact below2 _ _ _
 have b4:BlkIs W1 (w.heap.size+1) 49 #[.string d,.string u,.int .i64 0,.int .i64 0]:=by
  have:=BlkIs.new (w.alloc (.cells #[s] 74)) 49 #[.string d,.string u,.int .i64 0,.int .i64 0]
  rw[World.size_alloc] at this
  rw[c]
  exact this
 have c2:W1.cell? ⟨w.heap.size+1,2,none⟩=some (.int .i64 0):=by rw[b4.cell];rfl
 have c3:W1.cell? ⟨w.heap.size+1,3,none⟩=some (.int .i64 0):=by rw[b4.cell];rfl
 have g:=c2
 have h:=c3
 rw[c] at g h
 have m:=Lib.hid c.symm
 clear c
 unfold celC
 go_enter Tryz.func41,Tryz.ntmps41
 go_wp2
 rw[m.out]
 clear g h
 go_loopw [6,7] (λj i wr=>j = .int .i64 0/\i = .int .i64 0/\wr=W1) (λ_ _ _=>0)
 case atStart=>exact⟨rfl,rfl,rfl⟩
 case round =>
  obtain⟨rfl,rfl,rfl⟩:=hrel
  go_wp2
  first
   | (go_end0;exact⟨⟨_,rfl⟩,k⟩)
   | (refine bodyPost_ret (results_none rfl _ _ _) rfl ?_;exact⟨⟨_,rfl⟩,k⟩)
section
variable {S T:TypeId}{sz by_:Nat}{z:Value}{ρ:Operand->Value}{w:World}{o:Oper}{x y:Operand}
theorem elT_elem (c:ElT S T sz by_ z):Tryz.prog.elem S=T:=by
 unfold Program.elem
 rw[c.und]
theorem elT_ut (c:ElT S T sz by_ z):Tryz.prog.underlying S=some (.slice (Tryz.prog.elem S)):=by rw[elT_elem c];exact c.und
theorem elT_size (f:ElT S T sz by_ z)(w:World):(sizeOf T).run Tryz.prog w = .ok sz w:=by
 obtain⟨j,d,h,c,g⟩:=info_parts f.inf
 simp[sizeOf,typeInfo,d,c]
theorem x_cutLo {g n c i:Nat}(d:ElT S T sz by_ z)(f:o.op = .slice S x (some y) none none)(h1:ρ x = .slice (some ⟨g,0,none⟩) n c)(h2:ρ y = .int .i64 (i:Int))(k:i<=n)(hc:i<c) :
  (execOp ρ o).run Tryz.prog w = .ok (.value (.slice (some ⟨g,i*sz,none⟩) (n - i) (c - i))) w:=by
 have ht:=elT_ut d
 have j:(i:Int)<=(n:Int):=by omega
 have hs:=elT_size d
 have h:¬ c=i:=by omega
 simp[execOp,f,h1,h2,go_sem,run_sliceAt_slice _ _ _ _ _ _ ht,Result.andThen,j,run_slice_l (ht:=ht),d.und,hs,sliced,h,Addr.add_lit]
theorem x_cutHi {A:Option Addr}{n c k:Nat}(d:ElT S T sz by_ z)(f:o.op = .slice S x none (some y) none)(h1:ρ x = .slice A n c)(h2:ρ y = .int .i64 (k:Int))(h:k<=c) :
  (execOp ρ o).run Tryz.prog w = .ok (.value (.slice A k c)) w:=by
 have ht:=elT_ut d
 have g:(k:Int)<=(c:Int):=by omega
 have hs:=elT_size d
 simp[execOp,f,h1,h2,go_sem,run_sliceAt_slice _ _ _ _ _ _ ht,Result.andThen,g,run_slice_h (ht:=ht),d.und,hs,sliced]
theorem run_copyG (h:ElT S T sz by_ z)(w:World)(A:TypeId)(g off f dCap:Nat)(a:Addr)(d C m:Nat)(c:Array Value)(t:TypeId)(cs:List Value)
  (k:BlkIs w g t c) (u:m=Nat.min d f) (hn:cs.length=m*sz)
  (E:∀j v,cs[j]? = some v->w.cell? (a.add j)=some v) (F:off+cs.length<=c.size) (h1:∀v∈cs,v.oneCell'=true) :
  (Builtin.copy_ #[S,S] A #[.slice (some ⟨g,off,none⟩) f dCap,.slice (some a) d C]).run Tryz.prog w =
   .ok (goInt m) (w.setRow g (c.toList.take off++cs++c.toList.drop (off+cs.length)).toArray):=by
 obtain⟨H,G,I,r,L⟩:=info_parts h.inf
 have hl:=run_loadCells_list (P:=Tryz.prog) w a cs E
 have n:=run_storeCells_at Tryz.prog g off t cs 0 c w k (by simpa using F) h1
 simp[Builtin.copy_,run_underlying h.und,Builtin.lenOf,Builtin.firstCells,sizeOf,typeInfo,G,r,<-u,<-hn,hl,n]
theorem run_zeroesG (d:ElT S T sz by_ z)(w:World)(g n c k:Nat)(cur:Array Value)(I:BlkIs w g T cur)(hn:n*sz<=cur.size)(X:0<k)(hc:c<n+k)(U:n+k<=1000000)(C:by_<=1000) :
  ∃G u,(∀r,(Builtin.append_ #[S,3] r #[.slice (some ⟨g,0,none⟩) n c,.int .i64 (k:Int)]).run Tryz.prog w = .ok (.slice (some ⟨w.heap.size,0,none⟩) (n+k) G) (w.drew.alloc (.cells u T)))/\n+k<=G/\G<=maxLen/\u.size=G*sz/\u.toList.take (n*sz)=cur.toList.take (n*sz):=by
 obtain⟨h,W,L,A,H⟩:=info_parts d.inf
 have hd:BlkIs w.drew g T cur:=I
 have V:(Builtin.firstCells h.size n (.slice (some ⟨g,0,none⟩) n c)).run Tryz.prog w.drew = .ok (cur.toList.take (n*sz)).toArray w.drew:=by
  refine run_firstCells_some (P:=Tryz.prog) w.drew h.size n ⟨g,0,none⟩ n c (cur.toList.take (n*sz)) (by rw[qG,A];simp;omega) (λj v f => ?_)
  rw[List.getElem?_take] at f
  split at f
  ·rw[Addr.add_lit,qC,hd.cell]
   simpa using f
  ·cases f
 have E:=grownCap_ge w (n+k) c T
 have N:=grownCap_le_maxLen w (n+k) c T (by unfold maxLen;omega)
 have aA:(n+k)*by_<=1000000*1000:=Nat.mul_le_mul U C
 have Z:k*by_<=1000000*1000:=Nat.mul_le_mul (by omega) C
 have O:=λr=>Lib.run_append_grow_zeros (P:=Tryz.prog) w S 3 r T h z .i64 .i64 d.und (by kernel_rfl) W L (some ⟨g,0,none⟩) n c (cur.toList.take (n*sz)) V k X (by rw[A];exact d.pos) hc (by omega) (by rw[H];omega) (by rw[H];exact growslice_fits hc (by omega))
 have M:(cur.toList.take (n*sz)).length=n*sz:=by rw[qG];simp;omega
 have F:∀m,(Builtin.zeroCells z.cells m).size=m*sz:=λm=>by unfold Builtin.zeroCells;simp[d.zs]
 generalize grownCap w (n+k) c T=G at *
 refine⟨_,_,O,E,N,?_,?_⟩
 ·rw[Array.size_append,Array.size_append,F,F,zT,M,<-Nat.add_mul,<-Nat.add_mul,Nat.add_sub_cancel' E]
 ·rw[Array.toList_append,Array.toList_append,List.append_assoc,List.take_append_of_le_length (by simp;omega)]
  rw[List.take_take,Nat.min_self]
end
theorem shifted {L X Y C:List Value}{sz i n:Nat}(A:C.length=sz)(f:X=L.take (i*sz))(j:Y=(L.take (n*sz)).drop (i*sz))(k:i<=n)(v:(n+1)*sz<=L.length) :
  let c:=L.take ((i+1)*sz)++Y++L.drop ((i+1)*sz+Y.length)
  let d:=c.take (i*sz)++C++c.drop (i*sz+C.length)
  d.take ((n+1)*sz)=X++C++Y/\c.length=L.length/\d.length=L.length:=by
 have m:(n+1)*sz=n*sz+sz:=Nat.succ_mul _ _
 have u:(i+1)*sz=i*sz+sz:=Nat.succ_mul _ _
 have r:i*sz<=n*sz:=Nat.mul_le_mul_right _ k
 have F:Y.length=n*sz - i*sz:=by rw[j,qQ,qG];omega
 have E:X.length=i*sz:=by rw[f,qG];omega
 have ht:(L.take ((i+1)*sz)).length=(i+1)*sz:=by rw[qG];omega
 intro c d
 have h:c.length=L.length:=by
  show (L.take ((i+1)*sz)++Y++L.drop ((i+1)*sz+Y.length)).length=L.length
  rw[zJ,zJ,ht,qQ]
  omega
 have h1:c.take (i*sz)=X:=by
  show (L.take ((i+1)*sz)++Y++L.drop ((i+1)*sz+Y.length)).take (i*sz)=X
  rw[List.append_assoc,List.take_append_of_le_length (by omega),List.take_take,f]
  congr 1
  omega
 have h2:c.drop (i*sz+C.length)=Y++L.drop ((i+1)*sz+Y.length):=by
  show (L.take ((i+1)*sz)++Y++L.drop ((i+1)*sz+Y.length)).drop (i*sz+C.length)=_
  rw[List.append_assoc,List.drop_left' (by omega)]
 have g:d=X++C++(Y++L.drop ((i+1)*sz+Y.length)):=by
  show c.take (i*sz)++C++c.drop (i*sz+C.length)=_
  rw[h1,h2]
 refine⟨?_,h,?_⟩
 ·rw[g,<-List.append_assoc,List.take_left' (by rw[zJ,zJ];omega)]
 ·rw[g,zJ,zJ,zJ,qQ]
  omega
theorem put_in {L X Y C:List Value}{sz i n:Nat}(A:C.length=sz)(h:L.take (i*sz)=X)(E:X.length=i*sz)(F:Y.length=n*sz - i*sz)(k:i<=n)(v:(n+1)*sz<=L.length) :
  let c:=L.take (i*sz)++C++L.drop (i*sz+C.length)
  let d:=c.take ((i+1)*sz)++Y++c.drop ((i+1)*sz+Y.length)
  d.take ((n+1)*sz)=X++C++Y/\c.length=L.length/\d.length=L.length:=by
 have m:(n+1)*sz=n*sz+sz:=Nat.succ_mul _ _
 have u:(i+1)*sz=i*sz+sz:=Nat.succ_mul _ _
 have r:i*sz<=n*sz:=Nat.mul_le_mul_right _ k
 intro c d
 have f:c=X++C++L.drop (i*sz+C.length):=by
  show L.take (i*sz)++C++L.drop (i*sz+C.length)=_
  rw[h]
 have j:c.length=L.length:=by
  rw[f,zJ,zJ,qQ]
  omega
 have g:d=X++C++Y++c.drop ((i+1)*sz+Y.length):=by
  show c.take ((i+1)*sz)++Y++c.drop ((i+1)*sz+Y.length)=_
  rw[show c.take ((i+1)*sz)=X++C by rw[f];exact List.take_left' (by rw[zJ];omega)]
 refine⟨?_,j,?_⟩
 ·rw[g]
  exact List.take_left' (by rw[zJ,zJ];omega)
 ·rw[g,zJ,zJ,zJ,qQ]
  omega
theorem grownBy_setNew {a c:World}{row:Option Nat}(h:a.grownBy c row){b:Nat}(g:a.heap.size<=b)(cs:Array Value):a.grownBy (c.setRow b cs) row :=
 ⟨h.os,h.tape,h.output,by simp[World.setRow];exact h.size,λk f d=>(setRow_other c b k cs (by omega)).trans (h.block k f d)⟩
theorem grownBy_alloc {a c:World}{row:Option Nat}(h:a.grownBy c row)(x:Obj):a.grownBy (c.alloc x) row :=
 ⟨h.os,h.tape,h.output,by rw[World.size_alloc];exact Nat.le_succ_of_le h.size,λk d f=>(Below.heap_alloc c x k (zO d h.size)).trans (h.block k d f)⟩



theorem fits_ok (w:World)(x:Nod)(Ac:Option Addr)(cc:Nat)(Ak:Option Addr)(ck:Nat)(Ai:Option Addr)(ci:Nat)(h:NIs w w.heap.size x Ac cc Ak ck Ai ci)(hl:x.cells.length<=1000)(j:x.keys.length<=1000)(f:x.kids.length<=1001)(d:RightP x)(n:(laidB x).length<=512) :
  Calls Tryz.prog 95 #[.agg (nodC x Ac cc Ak ck Ai ci)] w λe w'=>e = .returned (.bool true)/\Below w.heap.size w w':=by
 have g:=BlkIs.new w 43 (nodC x Ac cc Ak ck Ai ci)
 have hB:Below w.heap.size w (w.alloc (.cells (nodC x Ac cc Ak ck Ai ci) 43)):=(Below.refl _ w).alloc (zH _) _
 have k:=bytes_ok _ x Ac cc Ak ck Ai ci (h.grow hB) hl j f d
 have m:((laidB x).length:Int)<=512:=by omega
 generalize laidB x=lb at *
 unfold nodC at *
 go_enter Tryz.func95,Tryz.ntmps95
 go_wp2_with (first
  | (refine wp_loadW rfl 43 (.tmp 1) rfl w.heap.size rfl rowNod g (by rfl) ?_)
  | (go_at_call 153;refine k.mono ?_;rintro e r ⟨rfl,c⟩))
 go_ret
 exact⟨rfl,hB.trans (c.mono hB.size)⟩
namespace RegL
def SL (fs:List (Nat×Addr×Value))(l:Array Bool)(w:World):Prop:=∀x∈fs,l.getD x.1 true=false->w.cell? x.2.1=some x.2.2
theorem getD_set_ne' {l:Array Bool}{i k:Nat}(h:i≠k):(l.setIfInBounds i true).getD k true=l.getD k true:=getD_set_ne true h
theorem SL.set {fs:List (Nat×Addr×Value)}{l:Array Bool}{w:World}{i:Nat}(d:(fs.all λx=>x.1 != i)=true):SL fs (l.setIfInBounds i true) w↔SL fs l w:=by
 have h:∀x∈fs,(l.setIfInBounds i true).getD x.1 true=l.getD x.1 true:=λx c=>getD_set_ne' (λe=>by
  have:=qJ.1 d x c
  simp[e] at this)
 exact⟨λhs x c hl=>hs x c ((h x c).trans hl),λhs x c hl=>hs x c ((h x c).symm.trans hl)⟩
section
variable {P:Program}{ops:Array Oper}{Q:Exit->Act->World->Prop}{md:Region.Mode}{fs:List (Nat×Addr×Value)}
def wpAnyL (P:Program)(md:Region.Mode)(ops:Array Oper)(Q:Exit->Act->World->Prop)(fs:List (Nat×Addr×Value)):Nat->Array Bool->Act->World->Prop
 | 0,listed,a,w=>Region.ready md ops listed=[]/\Q .normal a w
 | fuel+1,listed,a,w =>
  (Region.ready md ops listed=[]->Q .normal a w) /\
  ∀i∈Region.ready md ops listed,wpOp P ops Q i (λa' w'=>SL fs (listed.setIfInBounds i true) w'/\wpAnyL P md ops Q fs fuel (listed.setIfInBounds i true) a' w') a w
theorem to_any:∀(c:Nat) (listed:Array Bool) (a:Act) (w:World),wpAnyL P md ops Q fs c listed a w->wpAny P md ops Q c listed a w
 | 0,_,_,_,h=>h
 | c+1,_,_,_,h=>⟨h.1,λi f=>wpOp_mono (λg w' d=>to_any c _ g w' d.2) (h.2 i f)⟩
theorem first {T:World->Prop}{ks:List Nat}{i:Nat}{m:Oper}{v:Value}(V:ops[i]? = some m)(W:∀(j:Nat) (o:Oper) cs b,ops[j]? = some o->o.op≠.select cs b)
  (hQ:∀c a w,Q (.panic c) (a.put m.dst v) w->Q (.panic c) a w) (O:(ks.all λk=>RegF.waitsFor md ops k i)=true) (M:(fs.all λx=>x.1 != i)=true)
  (hT:∀(l:Array Bool) w,SL fs l w->(∀k∈ks,l.getD k true=false)->T w) :
  ∀(r:Nat) (listed:Array Bool) (a:Act) (w:World),
   (∀j f,ops[j]? = some f->j≠i->listed.getD j true=false->(∀e∈f.after,Region.binds md e=true->e.on≠i)->m.apart ops f=true) ->
   i∈Region.ready md ops listed->YieldsIf P ops T m v a->SL fs listed w->(∀k∈ks,listed.getD k true=false) ->
   wpAnyL P md ops Q fs r (listed.setIfInBounds i true) (a.put m.dst v) w->wpAnyL P md ops Q fs (r+1) listed a w:=by
 intro r
 induction r with
 | zero =>
  intro listed a w _ g u n A H
  refine⟨λh=>(by rw[h] at g;cases g),λj F => ?_⟩
  by_cases d:j=i
  ·subst d;exact u.wpOp V (hT _ _ n A) ⟨(SL.set M).2 n,H⟩
  ·have:=ready_mono F d
   rw[H.1] at this
   cases this
 | succ r ih =>
  intro listed a w Z g u n A H
  refine⟨λh=>(by rw[h] at g;cases g),λj F => ?_⟩
  by_cases d:j=i
  ·subst d;exact u.wpOp V (hT _ _ n A) ⟨(SL.set M).2 n,H⟩
  ·have h1:=H.2 j (ready_mono F d)
   obtain⟨aC,f,E,aI⟩:=mem_ready.1 F
   have X:∀e∈f.after,Region.binds md e=true->e.on≠i:=λe L U aG=>by
    have h1:=aI e L U
    have h0:=(mem_ready.1 g).1
    rw[aG] at h1
    rcases Nat.lt_or_ge i listed.size with N | N
    ·simp[N] at h0 h1;rw[h0] at h1;cases h1
    ·simp[Array.getElem?_eq_none N] at h1
   have aH:∀k∈ks,(listed.setIfInBounds j true).getD k true=false:=λk aA=>by
    have C:j≠k:=λe=>by
     subst e
     obtain⟨e,L,U,aJ⟩:=RegF.waits_spec (qJ.1 O j aA) E
     exact X e L U aJ
    rw[getD_set_ne' C]
    exact A k aA
   have h2:=wpOp_putIf E (Z j f E d aC X) (λcs b=>W i m cs b V) (λcs b=>W j f cs b E) hQ u h1
   have aF:∀k ok,ops[k]? = some ok->k≠i->(listed.setIfInBounds j true).getD k true=false ->
     (∀e∈ok.after,Region.binds md e=true->e.on≠i)->m.apart ops ok=true:=λk ok O aD aB aE=>by
    refine Z k ok O aD ?_ aE
    by_cases C:j=k
    ·subst C;exact aC
    ·rw[getD_set_ne true C] at aB;exact aB
   refine wpOp_mono (λa' w' G => ?_) h2
   have I:=G.2.1
   rw[Array.setIfInBounds_comm _ _ (Ne.symm d),SL.set M] at I
   refine⟨I,ih (listed.setIfInBounds j true) a' w' aF (ready_mono g (Ne.symm d)) G.1 I aH ?_⟩
   rw[Array.setIfInBounds_comm _ _ d]
   exact G.2.2
theorem takeP {f:Nat}{listed:Array Bool}{a:Act}{w:World}(i:Nat){d:Oper}(v:Value)(g:ops[i]? = some d)
  (hs:Region.noSelect ops=true) (hf:Region.free md ops listed i=true) (u:(Region.ready md ops listed).contains i=true) (r:(fs.all λx=>x.1 != i)=true)
  (C:∀c a w,Q (.panic c) (a.put d.dst v) w->Q (.panic c) a w) (m:SL fs listed w) (j:d.guard=none) (n:∀w,(execOp a.eval d).run P w = .ok (.value v) w)
  (h:wpAnyL P md ops Q fs f (listed.setIfInBounds i true) (a.put d.dst v) w):wpAnyL P md ops Q fs (f+1) listed a w :=
 first (T:=λ_=>True) (ks:=[]) g (Region.noSelect_spec hs) C rfl r (λ_ _ _ _=>trivial) f listed a w (Region.free_spec g hf) (by simpa using u) (.inl ⟨by simp[Region.wanted,j],λw _=>n w⟩) m (λk A=>by cases A) h
theorem takeL {g:Nat}{listed:Array Bool}{a:Act}{w:World}(i k:Nat)(p:Addr){d:Oper}(u v:Value)(j:ops[i]? = some d)
  (hs:Region.noSelect ops=true) (hf:Region.free md ops listed i=true) (E:(Region.ready md ops listed).contains i=true) (C:(fs.all λx=>x.1 != i)=true)
  (F:RegF.waitsFor md ops k i=true) (hl:listed.getD k true=false) (f:(k,p,u)∈fs)
  (G:∀c a w,Q (.panic c) (a.put d.dst v) w->Q (.panic c) a w) (r:SL fs listed w) (n:d.guard=none) (A:∀w:World,w.cell? p=some u->(execOp a.eval d).run P w = .ok (.value v) w)
  (h:wpAnyL P md ops Q fs g (listed.setIfInBounds i true) (a.put d.dst v) w):wpAnyL P md ops Q fs (g+1) listed a w :=
 first (T:=λw=>w.cell? p=some u) (ks:=[k]) j (Region.noSelect_spec hs) G (by simp[F]) C (λl w hs hl=>hs _ f (hl k (by simp))) g listed a w (Region.free_spec j hf) (by simpa using E) (.inl ⟨by simp[Region.wanted,n],λw H=>A w H⟩) r (λm f=>by obtain rfl:=qN.1 f;exact hl) h
theorem one {d:Nat}{listed:Array Bool}{a:Act}{w:World}(i:Nat)(g:Region.ready md ops listed=[i])
  (h:wpOp P ops Q i (λk w'=>SL fs (listed.setIfInBounds i true) w'/\wpAnyL P md ops Q fs d (listed.setIfInBounds i true) k w') a w):wpAnyL P md ops Q fs (d+1) listed a w :=
 ⟨λf=>(by rw[g] at f;cases f),λj c=>by
  rw[g] at c
  obtain rfl:j=i:=by simpa using c
  exact h⟩
theorem done {c:Nat}{listed:Array Bool}{a:Act}{w:World}(d:Region.ready md ops listed=[])(h:Q .normal a w):wpAnyL P md ops Q fs c listed a w:=by
 cases c with
 | zero=>exact⟨d,h⟩
 | succ n=>exact⟨λ_=>h,by rw[d];simp⟩
theorem start {d:Nat}{a:Act}{w:World}(fs:List (Nat×Addr×Value))(c:P.follows .mixedOrders=true)(h:wpAnyL P .any ops Q fs ops.size (Array.replicate ops.size false) a w.drew):(Code.region d ops true).wp P Q a w :=
 wp_region_any c (to_any _ _ _ _ h)
end
end RegL
end Go.Proofs.YtpibjkbadnffgaaGreat
