import Derived.Test.YtgmojjclobkpjaaGreatDoorQTapE
import Derived.Deep.MidRow
import Derived.Test.YtgmojjclobkpjaaGreatDoorQTapB
import Derived.Test.YtgmojjclobkpjaaGreatDoorQTapJ
namespace Go.Proofs.YtgmojjclobkpjaaGreatDoor
set_option linter.all false
set_option maxHeartbeats 32000000
open Go.RowKit
structure Recs (w:World) (A:Option Addr) (n c:Nat) (rs:List RK) (rows:List (List Value)):Prop where
 sl:Sl w 20 A n c rows
 len:rows.length=rs.length
 at_:∀ k (h:k<rs.length) (h':k<rows.length),RecAt w rs[k] rows[k]
theorem Recs.bl {w w':World} {A:Option Addr} {n c:Nat} {rs:List RK} {rows:List (List Value)} (h:Recs w A n c rs rows) (hb:Below w.heap.size w w'):Recs w' A n c rs rows:=⟨h.sl.below hb,h.len,fun k h1 h2=>(h.at_ k h1 h2).bl hb⟩
theorem Recs.n_ {w:World} {A:Option Addr} {n c:Nat} {rs:List RK} {rows:List (List Value)} (h:Recs w A n c rs rows):rs.length=n:=by rw [←h.len,h.sl.len]
theorem Recs.range {w:World} {A:Option Addr} {n c:Nat} {rs:List RK} {rows:List (List Value)} (h:Recs w A n c rs rows) {k:Nat} (hk:k<rs.length) :
  ∃ b off row,A=some ⟨b,off,none⟩∧b<w.heap.size∧w.rangeAt b (off+k*20) row∧RecAt w rs[k] row:=by
 have hk':k<rows.length:=by rw [h.len];exact hk
 obtain ⟨b,off,rfl,hb,hc⟩:=h.sl.seg.at_ (i:=k) hk'
 refine ⟨b,off,rows[k],rfl,hb,fun j v hv=>?_,h.at_ k hk hk'⟩
 rw [Nat.add_assoc]
 exact hc j v hv
end Go.Proofs.YtgmojjclobkpjaaGreatDoor

namespace Go.Proofs.YtgmojjclobkpjaaGreatDoor
set_option linter.all false
set_option maxHeartbeats 32000000
open Go.ChangeShapes Go.WideShapes Go.ChangeAt Go.RowKit
section
variable {H:Type} {enc:TypeId×Value→H} {w:World} {base:Nat} {spare:Nat→Bool} {held:Bool} {v:Value} {d:DataW H} {p:List MemPlace}
theorem note_cells:Tryz.prog.cellsOf 78=4:=by kernel_rfl
theorem int_cells:Tryz.prog.cellsOf 3=1:=by kernel_rfl
theorem deeds_cells:Tryz.prog.cellsOf 56=1:=by kernel_rfl
set_option maxRecDepth 100000 in
theorem note_of {fuel:Nat} {cs:List Value} {x:DataW H×List MemPlace} (h:DataW.trod enc Tryz.prog w base spare held fuel 78 cs=some x) :
  ∃ (y:NoteD) (A:Option Addr) (n c:Nat),cs=[.int .i64 y.kind,.int .i64 y.a,.int .i64 y.b,.slice A n c]∧y.ok∧Sl w 8 A n c (deedRows y.deeds):=by
 obtain ⟨xs,n,rfl,_,hcs,hxl,hf⟩:=DataW.trod_struct Tryz.underlying78 h
 rw [note_cells] at hcs
 have hx:xs.length=4:=hxl
 match cs,hcs,xs,hx with
 | [c0,c1,c2,c3],_,[x0,x1,x2,x3],_=>
  have h0:DataW.trod enc Tryz.prog w base spare held n 3 (([c0,c1,c2,c3].drop 0).take (Tryz.prog.cellsOf 3))=some x0:=hf 0 _ rfl
  rw [int_cells] at h0
  have h1:DataW.trod enc Tryz.prog w base spare held n 3 (([c0,c1,c2,c3].drop 1).take (Tryz.prog.cellsOf 3))=some x1:=hf 1 _ rfl
  rw [int_cells] at h1
  have h2:DataW.trod enc Tryz.prog w base spare held n 3 (([c0,c1,c2,c3].drop 2).take (Tryz.prog.cellsOf 3))=some x2:=hf 2 _ rfl
  rw [int_cells] at h2
  have h3:DataW.trod enc Tryz.prog w base spare held n 56 (([c0,c1,c2,c3].drop 3).take (Tryz.prog.cellsOf 56))=some x3:=hf 3 _ rfl
  rw [deeds_cells] at h3
  obtain ⟨k,e0,_,w0⟩:=DataW.trod_int (x:=x0) (cs:=[c0]) Tryz.underlying3 h0
  obtain ⟨a,e1,_,w1⟩:=DataW.trod_int (x:=x1) (cs:=[c1]) Tryz.underlying3 h1
  obtain ⟨b,e2,_,w2⟩:=DataW.trod_int (x:=x2) (cs:=[c2]) Tryz.underlying3 h2
  obtain ⟨A,m,c,rows,he,hr,hS⟩:=seg_of_slice (x:=x3) (v:=c3) 3 Tryz.underlying56 deed_atoms (by kernel_rfl) (by decide) h3
  obtain ⟨l,rfl,hl⟩:=rows_map fits_deed rows hr
  injection e0 with e0;injection e1 with e1;injection e2 with e2
  subst e0;subst e1;subst e2;subst he
  exact ⟨⟨k,a,b,l⟩,A,m,c,rfl,⟨i64_bounds w0,i64_bounds w1,i64_bounds w2,hl⟩,hS⟩
set_option maxRecDepth 100000 in
theorem open_note {r:Reach} {b0:Nat} (hv:Value.okWide Tryz.prog w r b0 78 v) (h:DataW.Trod enc Tryz.prog w base spare held 78 v d p) :
  ∃ (y:NoteD) (A:Option Addr) (n c:Nat),v = .agg #[.int .i64 y.kind,.int .i64 y.a,.int .i64 y.b,.slice A n c]∧y.ok∧Sl w 8 A n c (deedRows y.deeds):=by
 obtain ⟨⟨cs⟩,rfl,_⟩:=okWide_struct Tryz.underlying78 hv
 obtain ⟨fuel,hf⟩:=h
 obtain ⟨y,A,n,c,e,h1,h2⟩:=note_of hf
 have e:cs=[.int .i64 y.kind,.int .i64 y.a,.int .i64 y.b,.slice A n c]:=e
 subst e
 exact ⟨y,A,n,c,rfl,h1,h2⟩
def NoteRow (w:World) (y:NoteD) (row:List Value):Prop:=∃ (A:Option Addr) (n c:Nat),row=[.int .i64 y.kind,.int .i64 y.a,.int .i64 y.b,.slice A n c]∧Sl w 8 A n c (deedRows y.deeds)
theorem NoteRow.bl {w':World} {y:NoteD} {row:List Value} (h:NoteRow w y row) (hb:Below w.heap.size w w'):NoteRow w' y row:=by
 obtain ⟨A,n,c,h1,h2⟩:=h
 exact ⟨A,n,c,h1,h2.below hb⟩
structure Notes (w:World) (A:Option Addr) (n c:Nat) (ys:List NoteD):Prop where
 ex:∃ rows,Sl w 4 A n c rows∧rows.length=ys.length∧∀ k (h:k<ys.length) (h':k<rows.length),NoteRow w ys[k] rows[k]
theorem Notes.bl {w':World} {A:Option Addr} {n c:Nat} {ys:List NoteD} (h:Notes w A n c ys) (hb:Below w.heap.size w w'):Notes w' A n c ys:=by
 obtain ⟨rows,h1,h2,h3⟩:=h.ex
 exact ⟨rows,h1.below hb,h2,fun k a b=>(h3 k a b).bl hb⟩
theorem Notes.len {A:Option Addr} {n c:Nat} {ys:List NoteD} (h:Notes w A n c ys):ys.length=n:=by
 obtain ⟨rows,h1,h2,_⟩:=h.ex
 rw [←h2,h1.len]
theorem Notes.note {A:Option Addr} {n c:Nat} {ys:List NoteD} (h:Notes w A n c ys) {k:Nat} (hk:k<ys.length) :
  ∃ b off,A=some ⟨b,off,none⟩∧b<w.heap.size∧∃ (B:Option Addr) (m e:Nat),w.cell? ⟨b,off+k*4,none⟩=some (.int .i64 ys[k].kind)∧w.cell? ⟨b,off+k*4+1,none⟩=some (.int .i64 ys[k].a)∧w.cell? ⟨b,off+k*4+2,none⟩=some (.int .i64 ys[k].b)∧w.cell? ⟨b,off+k*4+3,none⟩=some (.slice B m e)∧Sl w 8 B m e (deedRows ys[k].deeds):=by
 obtain ⟨rows,h1,h2,h3⟩:=h.ex
 have hk':k<rows.length:=by omega
 obtain ⟨B,m,e,h4,h5⟩:=h3 k hk hk'
 obtain ⟨b,off,e1,hb,hc⟩:=h1.seg.at_ (i:=k) hk'
 have hc':∀ j u,rows[k][j]?=some u→w.cell? ⟨b,off+k*4+j,none⟩=some u:=fun j u hu=>by rw [Nat.add_assoc];exact hc j u hu
 rw [h4] at hc'
 exact ⟨b,off,e1,hb,B,m,e,hc' 0 _ rfl,hc' 1 _ rfl,hc' 2 _ rfl,hc' 3 _ rfl,h5⟩
theorem seg_of_sliceQ {P:Program} {Q:List Value→Prop} {t e:TypeId} {sz fuel:Nat} {v:Value} {x:DataW H×List MemPlace} (hs:P.underlying t=some (.slice e)) (hl:sz=P.cellsOf e) (h0:0<sz)
  (hq:∀ n cs y,DataW.trod enc P w base spare held n e cs=some y→Q cs∧cs.length=sz)
  (h:DataW.trod enc P w base spare held fuel t [v]=some x) :
  ∃ A n c rows,v = .slice A n c∧(∀ r∈rows,Q r)∧Sl w sz A n c rows:=by
 rcases DataW.trod_slice hs h with ⟨hv,_⟩|⟨a,len,cap,elems,rest,n,_,hv,_,_,hlc,hcm,hel,hcell,_⟩
 ·injection hv with hv
  exact ⟨none,0,0,[],hv,by simp,Sl.nil_ w _⟩
 ·injection hv with hv
  have hrow:∀ i,i<len→∃ cs,w.cells? base (a.add (i*P.cellsOf e)) (P.cellsOf e)=some cs∧Q cs∧cs.length=sz:=by
   intro i hi
   have:=hcell i hi
   rw [List.getElem?_eq_getElem (by omega)] at this
   obtain ⟨cs,h1,h2⟩:=Option.bind_eq_some_iff.1 this
   exact ⟨cs,h1,hq n cs _ h2⟩
  have hfit:∀ r∈(List.range len).map fun i=>(w.cells? base (a.add (i*P.cellsOf e)) (P.cellsOf e)).getD [],Q r∧r.length=sz:=by
   intro r hr
   obtain ⟨i,hi,rfl⟩:=List.mem_map.1 hr
   obtain ⟨cs,h1,h2⟩:=hrow i (List.mem_range.1 hi)
   rw [h1]
   exact h2
  refine ⟨some a,len,cap,(List.range len).map fun i=>(w.cells? base (a.add (i*P.cellsOf e)) (P.cellsOf e)).getD [],hv,fun r hr=>(hfit r hr).1,by simp,hlc,hcm,by simp,?_,fun r hr=>(hfit r hr).2⟩
  ·intro hn
   have hn:0<len:=by simpa using hn
   have key:∀ i,i<len→∀ j,j<sz→∃ u,w.cell? ((a.add (i*P.cellsOf e)).add j)=some u∧((w.cells? base (a.add (i*P.cellsOf e)) (P.cellsOf e)).getD [])[j]?=some u:=by
    intro i hi j hj
    obtain ⟨cs,h1,h2⟩:=hrow i hi
    obtain ⟨_,hcl,hat⟩:=World.cells?_some h1
    have hj':j<cs.length:=by rw [h2.2];exact hj
    refine ⟨cs[j],?_,?_⟩
    ·rw [hat j (by omega),List.getElem?_eq_getElem hj']
    ·rw [h1];simp [hj']
   have hspot:a.spot=none:=by
    obtain ⟨u,h1,_⟩:=key 0 hn 0 h0
    rw [Nat.zero_mul] at h1
    exact cell_spot (by simpa [Addr.add] using h1)
   refine ⟨a.block,a.off,?_,?_,?_⟩
   ·cases a;simp_all
   ·obtain ⟨u,h1,_⟩:=key 0 hn 0 h0
    have:=cell_lt h1
    rw [add_plain hspot] at this
    simpa [Addr.add] using this
   ·intro i r hr j u hu
    rw [List.getElem?_map] at hr
    have hi:i<len:=by
     rcases Nat.lt_or_ge i len with h'|h'
     ·exact h'
     ·rw [List.getElem?_eq_none (by simpa using h')] at hr;cases hr
    rw [List.getElem?_range hi] at hr
    injection hr with hr
    simp only at hr
    have hj:j<sz:=by
     obtain ⟨cs,h1,h2⟩:=hrow i hi
     rw [h1] at hr
     rw [←h2.2]
     rcases Nat.lt_or_ge j cs.length with h'|h'
     ·exact h'
     ·rw [←hr] at hu;simp only [Option.getD_some] at hu;rw [List.getElem?_eq_none h'] at hu;cases hu
    obtain ⟨u',h1,h2⟩:=key i hi j hj
    rw [←hr,h2] at hu
    injection hu with hu
    subst hu
    rw [add_plain hspot,hl,←Nat.add_assoc] at *
    have e:(⟨a.block,a.off+i*P.cellsOf e,none⟩:Addr).add j=⟨a.block,a.off+i*P.cellsOf e+j,none⟩:=add_plain rfl
    rw [e] at h1
    exact h1
theorem notes_of:∀ (rows:List (List Value)),(∀ r∈rows,∃ y:NoteD,NoteRow w y r∧y.ok)→∃ ys:List NoteD,rows.length=ys.length∧(∀ y∈ys,y.ok)∧∀ k (h:k<ys.length) (h':k<rows.length),NoteRow w ys[k] rows[k]
 | [],_=>⟨[],rfl,by simp,fun k h=>by simp at h⟩
 | r :: rows,h=>by
  obtain ⟨y,h1,h2⟩:=h r (by simp)
  obtain ⟨ys,h3,h4,h5⟩:=notes_of rows fun r hr=>h r (by simp [hr])
  refine ⟨y :: ys,by simp [h3],?_,?_⟩
  ·intro z hz
   rcases List.mem_cons.1 hz with rfl|hz
   ·exact h2
   ·exact h4 z hz
  ·intro k a b
   cases k with
   | zero=>exact h1
   | succ k=>exact h5 k (by simpa using a) (by simpa using b)
set_option maxRecDepth 100000 in
theorem note_cells4:4=Tryz.prog.cellsOf 78:=by kernel_rfl
set_option maxRecDepth 100000 in
theorem open_notes {r:Reach} {b0:Nat} (hv:Value.okWide Tryz.prog w r b0 22 v) (h:DataW.Trod enc Tryz.prog w base spare held 22 v d p) :
  ∃ (A:Option Addr) (n c:Nat) (ys:List NoteD),v = .slice A n c∧(∀ y∈ys,y.ok)∧Notes w A n c ys:=by
 obtain ⟨a0,len,cap,rfl⟩:=okWide_slice Tryz.underlying22 hv
 obtain ⟨fuel,hf⟩:=h
 obtain ⟨A,n,c,rows,he,h3,h4⟩:=seg_of_sliceQ (Q:=fun r=>∃ y:NoteD,NoteRow w y r∧y.ok) Tryz.underlying22 note_cells4 (by decide) (fun n cs y hy=>by
  obtain ⟨z,A,m,c,e,h1,h2⟩:=note_of hy
  exact ⟨⟨z,⟨A,m,c,e,h2⟩,h1⟩,by rw [e];rfl⟩) hf
 obtain ⟨ys,h5,h6,h7⟩:=notes_of rows h3
 exact ⟨A,n,c,ys,he,h6,⟨rows,h4,h5,h7⟩⟩
end
theorem rec_info:(Tryz.prog.info? 45).map (fun i=>(i.zero,i.size,i.bytes))=some (some (.agg #[.int .i64 0,.int .i64 0,.int .i64 0,.int .i64 0,.int .i64 0,.int .i64 0,.bool false,.int .i64 0,.int .i64 0,.int .i64 0,.string ByteArray.empty,.string ByteArray.empty,.string ByteArray.empty,.int .i64 0,.int .i64 0,.int .i64 0,.int .i64 0,.slice none 0 0,.int .i64 0,.slice none 0 0]),20,216):=by kernel_rfl
theorem RecAt.own {w w':World} {r:RK} {row:List Value} {B size:Nat} {v:Value} {rows:List (List Value)} (h:RecAt w r row) (ho:Own w B 45 size v rows) (hg:w.grownBy w' v.ownBlock):RecAt w' r row:=by
 rcases ho.form with ⟨rfl,_⟩|⟨g,cap,rfl,_,_,_,cur,h3,_⟩
 ·exact h.bl ((Below.refl _ _).grown hg (Nat.le_refl _) (fun k hk=>by simp [Value.ownBlock] at hk))
 ·exact h.grown h3 hg
def RowsAt (w:World) (rs:List RK) (rows:List (List Value)):Prop:=rows.length=rs.length∧∀ k (h:k<rs.length) (h':k<rows.length),RecAt w rs[k] rows[k]
theorem RowsAt.nil {w:World}:RowsAt w [] []:=⟨rfl,fun k h=>by simp at h⟩
theorem RowsAt.snoc {w:World} {rs:List RK} {rows:List (List Value)} {r:RK} {row:List Value} (h:RowsAt w rs rows) (hr:RecAt w r row):RowsAt w (rs ++ [r]) (rows ++ [row]):=by
 refine ⟨by simp [h.1],fun k a b=>?_⟩
 have hl:=h.1
 by_cases hk:k<rs.length
 ·rw [List.getElem_append_left hk,List.getElem_append_left (by omega)]
  exact h.2 k hk (by omega)
 ·have e:k=rs.length:=by simp at a;omega
  subst e
  simp only [List.getElem_concat_length,hl] at *
  exact hr
theorem RowsAt.keep {w w':World} {rs:List RK} {rows:List (List Value)} (h:RowsAt w rs rows) (hk:∀ r row,RecAt w r row→RecAt w' r row):RowsAt w' rs rows:=⟨h.1,fun k a b=>hk _ _ (h.2 k a b)⟩
theorem RowsAt.recs {w:World} {A:Option Addr} {n c:Nat} {rs:List RK} {rows:List (List Value)} (h:RowsAt w rs rows) (hs:Sl w 20 A n c rows):Recs w A n c rs rows:=⟨hs,h.1,h.2⟩
theorem note_step {ys:List NoteD} {k:Nat} (hk:k<ys.length):(ys.take (k+1)).map recOf=(ys.take k).map recOf ++ [recOf ys[k]]:=by
 rw [List.take_succ_eq_append_getElem hk,List.map_append];rfl
def RecsPost (rs:List RK) (w:World) (e:Ending) (w':World):Prop:=∃ (A:Option Addr) (n c:Nat) (rows:List (List Value)),e = .returned (.slice A n c)∧Recs w' A n c rs rows∧Below w.heap.size w w'
set_option maxRecDepth 100000 in
theorem records_any (A:Option Addr) (n c:Nat) (ys:List NoteD) (w:World) (hN:Notes w A n c ys) (hy:∀ y∈ys,y.ok) (hNo:Noth w) :
  Calls Tryz.prog 11 #[.slice A n c] w (RecsPost ((ys.take 16).map recOf) w):=by
 obtain rfl:=hN.len
 obtain ⟨hlm,hlm'⟩:ys.length≤c∧c≤maxLen:=by obtain ⟨rows,h1,h2,h3⟩:=hN.ex;exact ⟨h1.nc,h1.cm⟩
 unfold maxLen at hlm'
 have HY:=hide hy
 clear hy
 have HRP:=hide (fun (A:Option Addr) (n c:Nat) (rows:List (List Value)) w' (h:Recs w' A n c ((ys.take 16).map recOf) rows) (q:Below w.heap.size w w')=>(show RecsPost ((ys.take 16).map recOf) w (.returned (.slice A n c)) w' from ⟨A,n,c,rows,rfl,h,q⟩))
 generalize RecsPost ((ys.take 16).map recOf) w=PP at *
 go_enter Tryz.func11,Tryz.ntmps11
 go_wp2_with fail
 go_loopw [3,4] (fun s3 s4 wr=>∃ k:Nat,k≤ys.length∧k≤16∧s4 = .int .i64 (k:Int)∧∃ (B:Option Addr) (m e:Nat) (rows:List (List Value)),s3 = .slice B m e∧Own wr w.heap.size 45 20 (.slice B m e) rows∧RowsAt wr ((ys.take k).map recOf) rows∧Below w.heap.size w wr) (fun _ s4 _=>ys.length - (intOf s4).toNat)
 case atStart=>exact ⟨0,by omega,by omega,rfl,none,0,0,[],rfl,Own.nil,RowsAt.nil,below_by⟩
 case round=>
  obtain ⟨k,hk,hk16,rfl,B,m,e,rows,rfl,O,RA,q⟩:=hrel
  have hqs:=q.size
  by_cases hlt:k<ys.length∧k<16
  ·obtain ⟨hlt,hlt16⟩:=hlt
   obtain ⟨b,off,rfl,hb,B2,m2,e2,c0,c1,c2,c3,hS⟩:=(hN.bl q).note hlt
   have HRC:=hide (record_any ys[k] (HY.out _ (List.getElem_mem hlt)) B2 m2 e2 wr hS (hNo.bl q))
   have hst:=hide (note_step hlt)
   have hlen:=hide (show rows.length=k by have:=RA.1;simp at this;omega)
   generalize recOf ys[k]=r at *
   generalize ys[k]=y at *
   clear hS
   go_wp2_with fail
   refine HRC.out.mono ?_
   rintro e_ w5 ⟨row,rfl,hrec,b5⟩
   obtain ⟨v0,v1,v2,v3,v4,v5,v6,v7,v8,v9,v10,v11,v12,v13,v14,v15,v16,v17,v18,v19,rfl⟩:=twenty hrec.len
   have h1:=hide hrec.one
   have ba:Below w5.heap.size w5 (w5.alloc (.cells #[.int .i64 0,.int .i64 0,.int .i64 0,.int .i64 0,.int .i64 0,.int .i64 0,.bool false,.int .i64 0,.int .i64 0,.int .i64 0,.string { data:=#[] },.string { data:=#[] },.string { data:=#[] },.int .i64 0,.int .i64 0,.int .i64 0,.int .i64 0,.slice none 0 0,.int .i64 0,.slice none 0 0] 45)):=below_by
   clear c0 c1 c2 c3 HRC
   go_upto_region 6 with (refine wpList_store_blk rfl 45 _ _ rfl (cells:=#[v0,v1,v2,v3,v4,v5,v6,v7,v8,v9,v10,v11,v12,v13,v14,v15,v16,v17,v18,v19]) rfl rfl (Blk.new w5 _ _) rfl rec_size h1.out ?_;intro w6 Z6 gr6 sz6)
   have b56:Below w5.heap.size w5 w6:=below_grow ba gr6 (by simp) (Nat.le_refl _)
   have b6:=bstep b5 b56
   replace hrec:=hrec.bl b56
   replace O:=O.below b6
   replace RA:=RA.keep fun r row h=>h.bl b6
   have q6:=bstep q b6
   have hq6:=q6.size
   clear gr6 sz6 ba b56 b5 b6
   have bb:Below w6.heap.size w6 (w6.alloc (.cells #[v0,v1,v2,v3,v4,v5,v6,v7,v8,v9,v10,v11,v12,v13,v14,v15,v16,v17,v18,v19] 45)):=below_by
   go_wp2_with (first|(refine wpList_load_blk rfl 45 _ rfl rfl Z6 Tryz.underlying45 rfl rec_size ?_)|(at_builtin;refine wpList_push_g rfl _ _ _ rfl Tryz.underlying23 rec_info rfl (by decide) (by rfl) O (H:=w6.heap.size) rfl (by rfl) (row:=#[v0,v1,v2,v3,v4,v5,v6,v7,v8,v9,v10,v11,v12,v13,v14,v15,v16,v17,v18,v19]) rfl h1.out ?_ ?_ hq6 ?_))
   ·rw [hlen.out];unfold maxLen;omega
   ·rw [hlen.out];omega
   intro B7 m7 e7 w7 O7 g7
   have b67:=(below_grown (O.alloc (.cells #[v0,v1,v2,v3,v4,v5,v6,v7,v8,v9,v10,v11,v12,v13,v14,v15,v16,v17,v18,v19] 45)) g7 (by simp;omega))
   have RA7:RowsAt w7 ((ys.take (k+1)).map recOf) (rows ++ [[v0,v1,v2,v3,v4,v5,v6,v7,v8,v9,v10,v11,v12,v13,v14,v15,v16,v17,v18,v19]]):=by
    rw [hst.out]
    exact ((RA.keep fun r row h=>h.bl bb).snoc (hrec.bl bb)).keep fun r row h=>h.own (O.alloc _) g7
   have q7:Below w.heap.size w w7:=(q6.trans (bb.mono hq6)).trans b67
   clear b67 g7 bb O RA hrec Z6
   go_wp2_with fail
   go_roundw
   case rel=>exact ⟨k+1,by omega,by omega,by go_num,B7,m7,e7,_,rfl,O7,RA7,q7⟩
   case measure=>simp [intOf];omega
  ·have hk2:(ys.take k).map recOf=(ys.take 16).map recOf:=by
    by_cases h16:k=16
    ·rw [h16]
    ·have:k=ys.length:=by omega
     rw [List.take_of_length_le (by omega),List.take_of_length_le (by omega)]
   rw [hk2] at RA
   have HP:=hide (HRP.out _ _ _ _ _ (RA.recs O.sl') q)
   clear RA O HRP hk2
   by_cases hl2:k<ys.length
   ·have hl3:¬ (k<16):=fun h=>hlt ⟨hl2,h⟩
    clear hlt
    go_wp2_with fail
    exact HP.out
   ·clear hlt
    go_wp2_with fail
    exact HP.out
theorem frame_step {rs:List RK} {k:Nat} (hk:k<rs.length):tapeB (rs.take (k+1))=tapeB (rs.take k) ++ rs[k].frame:=by
 rw [List.take_succ_eq_append_getElem hk,tapeB_app];simp [tapeB]
theorem tapeB_step_le {rs:List RK} {k:Nat} (hk:k<rs.length):(tapeB (rs.take k)).length+rs[k].frame.length≤(tapeB rs).length:=by
 rw [←List.length_append,←frame_step hk];exact tapeB_take_le rs (k+1)
def TapedPost (rs:List RK) (w:World) (e:Ending) (w':World):Prop:=∃ (Y:Option Addr) (m d:Nat),e = .returned (.tuple #[.agg #[.slice Y m d,.int .i64 0],.bool true])∧TpSl w' Y m d (tapeB rs)∧Below w.heap.size w w'
set_option maxRecDepth 100000 in
theorem taped_any (A:Option Addr) (n c:Nat) (rs:List RK) (rows:List (List Value)) (w:World) (hR:Recs w A n c rs rows) (hok:∀ r∈rs,r.Ok) (hlen:(tapeB rs).length≤400000) :
  Calls Tryz.prog 12 #[.slice A n c] w (TapedPost rs w):=by
 obtain rfl:=hR.n_
 have hlm:=hR.sl.nc
 have hlm':=hR.sl.cm
 unfold maxLen at hlm'
 have HOK:=hide hok
 have HLEN:=hide hlen
 clear hok hlen
 have Z0:=(Blk.new w 27 #[.slice none 0 0,.int .i64 0]).alloc (.cells #[.slice none 0 0,.int .i64 0] 27)
 have T0:Blk ((w.alloc (.cells #[.slice none 0 0,.int .i64 0] 27)).alloc (.cells #[.slice none 0 0,.int .i64 0] 27)) (w.heap.size+1) 27 #[.slice none 0 0,.int .i64 0]:=Blk.new' _ _ _ (by simp)
 have q0:Below w.heap.size w ((w.alloc (.cells #[.slice none 0 0,.int .i64 0] 27)).alloc (.cells #[.slice none 0 0,.int .i64 0] 27)):=below_by
 go_enter Tryz.func12,Tryz.ntmps12
 go_wp2_with fail
 go_loopw [5] (fun s5 wr=>∃ k:Nat,k≤rs.length∧s5 = .int .i64 (k:Int)∧Blk wr w.heap.size 27 #[.slice none 0 0,.int .i64 0]∧∃ (Y:Option Addr) (m d:Nat),Blk wr (w.heap.size+1) 27 #[.slice Y m d,.int .i64 0]∧Own wr w.heap.size 5 1 (.slice Y m d) (byteRows (tapeB (rs.take k)))∧Hid (U8s (tapeB (rs.take k)))∧Below w.heap.size w wr) (fun s5 _=>rs.length - (intOf s5).toNat)
 case atStart=>exact ⟨0,by omega,rfl,Z0,none,0,0,T0,Own.nil,hide (by intro u hu;cases hu),q0⟩
 case round=>
  obtain ⟨k,hk,rfl,Z,Y,m,d,T,O,HU,q⟩:=hrel
  clear Z0 T0 q0
  have hqs:=q.size
  have hz:=Z.lt
  have ht:=T.lt
  by_cases hlt:k<rs.length
  ·obtain ⟨b,off,row,rfl,hbb,hrg,hrec⟩:=(hR.bl q).range hlt
   have hr:=HOK.out rs[k] (List.getElem_mem hlt)
   have hfs:=hide (frame_step hlt)
   have hsl:=hide (tapeB_step_le hlt)
   have hfi:=frame_in hr
   have hpl:=O.sl'.len
   rw [byteRows_length] at hpl
   generalize rs[k]=r at *
   have hl20:=hrec.len
   have HSZ:=hide (show (Tryz.prog.info? 45).map (·.size)=some row.length by rw [hl20];exact rec_size)
   have HAP:=hide (fun w' (b':Below wr.heap.size wr w')=>Append_any (tapeB (rs.take k)) Y m d 0 hr row w' ⟨O.sl'.below b',HU.out,(own_tp O).bl b'⟩ (by omega) (by omega) (hrec.bl b') (by have:=hsl.out;have:=HLEN.out;omega))
   unfold AppPost at HAP
   generalize tapeB (rs.take k)=bs at *
   have hfl:Hid (bs.length=m):=hide hpl
   clear hl20 hr hpl
   have HRG:=hide (fun w' (b':Below wr.heap.size wr w')=>show w'.rangeAt b (off+k*20) row from fun j v hv=>by rw [←hrg j v hv];exact b'.cell (p:=⟨b,off+k*20+j,none⟩) hbb)
   clear hrec
   go_upto_region 5 with fail
   refine wp_region_x (l:=[]) (S:=fun w'=>w'.cell? ⟨w.heap.size+1,0,none⟩=some (.slice Y m d)∧w'.cell? ⟨w.heap.size+1,1,none⟩=some (.int .i64 0)∧w'.rangeAt b (off+k*20) row) (by kernel_rfl) ⟨T.drew.cell 0,T.drew.cell 1,HRG.out _ (Below.refl _ wr).drew⟩ (fun hS=>?_)
   have bd:Below wr.heap.size wr wr.drew:=(Below.refl _ wr).drew
   obtain ⟨wd,hwd⟩:∃ wd,wd=wr.drew:=⟨_,rfl⟩
   rw [←hwd] at hS bd ⊢
   clear hwd hrg
   have HS:=hide (fun w' (b':Below wr.heap.size wr w')=>And.intro ((T.below' b').cell 0) (And.intro ((T.below' b').cell 1) (HRG.out _ b')))
   refine wpAnyX_tq 0 ?_
   refine wpAnyX_tq 1 ?_
   refine wpAnyX_tq 2 ?_
   refine wpAnyX_tq 3 ?_
   refine wpAnyX_tq 4 ?_ (hy:=yieldsIf_load_mid (by rfl) 45 _ rfl b (off+k*20) rfl row _ (fun w' h=>h.2.2) Tryz.underlying45 rfl HSZ.out)
   clear hS
   refine wpG_start1 (j:=9) (d:=6) (t:=27) (z:=#[.slice none 0 0,.int .i64 0]) (val:=vptr) (C:=fun _=>True) ⟨⟨_,rfl,rfl,rfl,fun a w _=>?al1⟩,vptr_inj⟩ (fun al1=>?_)
   (case al1=>simp [go_sem,execOp,vptr])
   refine wpG_phase1 (base:=wd.heap.size) al1 5 (f:=5) (fun b_=>#[true,true,true,true,true,false,false,false,false,b_,false,false]) (fun w'=>Below wd.heap.size wd w') (x:=u6) (fun w' q=>HS.out w' (bstep bd q)) (fun w' o q=>q.alloc q.size o) (fun w' q=>q.size) (fun _=>trivial) (Below.refl _ wd) PendG.no ?_
   intro b_ y_ w2 G2 hy K_ hK_
   (try simp only [vptr,vsl,Act.put,List.setIfInBounds_toArray,List.set_cons_zero,List.set_cons_succ,List.getElem_toArray,List.getElem_cons_zero,List.getElem_cons_succ])
   go_wp2_with fail
   refine (HAP.out _ (bstep bd G2)).mono ?_
   rintro e_ w3 ⟨Y3,m3,d3,rfl,TS3,O3,b3⟩
   go_wp2_with fail
   replace O3:=O3.mono (bstep q (bstep bd G2)).size
   have G3:=bstep G2 b3
   replace hy:=hy.bl b3
   have hS3:=HS.out _ (bstep bd G3)
   refine hK_.out _ _ (Or.inr hS3) ?_
   clear hK_ K_ G2 b3
   refine wpG_take1 6 (f:=4) (fun b_=>#[true,true,true,true,true,true,false,false,false,b_,false,false]) ?_
   refine wpG_take1 7 (f:=3) (fun b_=>#[true,true,true,true,true,true,true,false,false,b_,false,false]) ?_
   refine wpG_take1 8 (f:=2) (fun b_=>#[true,true,true,true,true,true,true,true,false,b_,false,false]) ?_
   refine wpG_lay1 (base:=wd.heap.size) al1 (f:=2) (fun b_=>#[true,true,true,true,true,true,true,true,true,b_,false,false]) (fun w'=>Below w3.heap.size w3 w') (x:=y_) (fun w' q=>HS.out w' (bstep bd (bstep G3 q))) (fun w' o q=>q.alloc q.size o) (fun w' q=>Nat.le_trans G3.size q.size) (fun _=>trivial) (Below.refl _ w3) hy ?_
   clear hy hS3
   intro g7 w4 b4 hg7 B4
   (try simp only [vptr,vsl,Act.put,List.setIfInBounds_toArray,List.set_cons_zero,List.set_cons_succ,List.getElem_toArray,List.getElem_cons_zero,List.getElem_cons_succ])
   have hm3:=TS3.len
   replace TS3:U8s (bs ++ r.frame):=TS3.u8
   replace O3:=O3.below b4
   replace G3:=bstep bd (bstep G3 b4)
   clear al1 b4
   have hwd:=bd.size
   refine wpAnyX_oq 10 fun K hK=>?_
   refine wpList_store_blk rfl 27 _ _ rfl (cells:=#[.slice Y3 m3 d3,.int .i64 0]) rfl rfl B4 rfl tape_size (all_one rfl) ?_
   intro w5 X5 gr5 sz5
   have T4:=T.below' G3
   have hne5:w.heap.size+1≠g7:=by omega
   have T5:=grown_blk T4 gr5 hne5
   have Z5:=grown_blk (Z.below' G3) gr5 (by omega)
   have hR5:w5.rangeAt b (off+k*20) row:=fun j v hv=>by
    have h:=HRG.out _ G3 j v hv
    have hb2:b<w4.heap.size:=by have:=G3.size;omega
    have hbn:b≠g7:=by omega
    unfold World.cell? at h ⊢
    rw [gr5.block b hb2 (by simpa using hbn)]
    exact h
   have O5:=own_grew O3 B4 gr5
   have q5:=below_grow (bstep q G3) gr5 (by have:=G3.size;omega) (by omega)
   refine hK.out _ _ (Or.inr ⟨T5.cell 0,T5.cell 1,hR5⟩) (fun hS=>?_)
   replace hS:=hS.resolve_left (by decide)
   clear hK K gr5 sz5 B4 O3 T4
   refine wpAnyX_oq 11 fun K hK=>?_
   go_wp2_with fail
   refine hK.out _ _ (Or.inr hS) (fun _=>?_)
   clear hK K hS
   refine wpAnyX_done (by kernel_rfl) ?_ _
   have hsl2:Hid (m<m3):=hide (by have:=hfl.out;simp at hm3;omega)
   have hm1:(m:Int)<(m3:Int):=by have:=hsl2.out;omega
   have hx5:=X5.lt
   have ht5:=T5.lt
   have HT8:=hide hfs.out
   clear HAP HRG HS G3 hR5
   (try clear cX5 fX5);have cX5:=X5.cell;have fX5:=X5.frozen;(try clear cT5 fT5);have cT5:=T5.cell;have fT5:=T5.frozen
   go_wp2_with (refine wpList_store_blk rfl 27 _ _ rfl (cells:=#[.slice Y3 m3 d3,.int .i64 0]) rfl rfl T5 rfl tape_size (all_one rfl) ?_;intro w8 T8 gr8 sz8)
   have O8:=own_grew O5 T5 gr8
   have Z8:=grown_blk Z5 gr8 (by omega)
   have q8:=below_grow q5 gr8 q5.size (by omega)
   go_roundw
   case rel=>exact ⟨k+1,by omega,by go_num,Z8,Y3,m3,d3,T8,by rw [HT8.out];exact O8,hide (by rw [HT8.out];exact TS3),q8⟩
   case measure=>simp [intOf];omega
  ·obtain rfl:k=rs.length:=by omega
   rw [List.take_of_length_le (Nat.le_refl _)] at O HU
   (try clear cT fT);have cT:=T.cell;have fT:=T.frozen
   go_wp2_with (refine wpList_store_blk rfl 27 _ _ rfl (cells:=#[.slice Y m d,.int .i64 0]) rfl rfl Z rfl tape_size (all_one rfl) ?_;intro w8 Z8 gr8 sz8)
   have O8:=own_grew O Z gr8
   have q8:=below_grow q gr8 q.size (Nat.le_refl _)
   have HP:=hide (show TapedPost rs w (.returned (.tuple #[.agg #[.slice Y m d,.int .i64 0],.bool true])) w8 from ⟨Y,m,d,rfl,⟨O8.sl',HU.out,own_tp O8⟩,q8⟩)
   clear gr8 sz8 cT fT O8 O q8
   (try clear cZ8 fZ8);have cZ8:=Z8.cell;have fZ8:=Z8.frozen
   go_wp2_with fail
   refine bodyPost_ret (v:=.tuple #[.agg #[.slice Y m d,.int .i64 0],.bool true]) ?_ rfl HP.out
   simp [results,Tryz.results12,go_sem, *]
end Go.Proofs.YtgmojjclobkpjaaGreatDoor

namespace Go.Proofs.YtgmojjclobkpjaaGreatDoor
set_option linter.all false
set_option maxHeartbeats 32000000
open Go.RowKit
def RecvPost (l:List Value) (s:Int) (w:World) (e:Ending) (w':World):Prop:=
 ∃ (A:Option Addr) (n c:Nat) (rows:List (List Value)) (Y:Option Addr) (d:Nat),e = .returned (.tuple #[.slice A n c,.agg #[.slice Y (recA l).2 d,.int .i64 (min s ((recA l).2:Int))],.int .i64 0])∧Recs w' A n c (recA l).1 rows∧TpSl w' Y (recA l).2 d (l.take (recA l).2)∧Below w.heap.size w w'
theorem drop_take_rows {w:World} {Y:Option Addr} {n d:Nat} {l:List Value} (h:Sl w 1 Y n d (byteRows l)) (k j:Nat) (hk:k+j≤n):Sl w 1 (cutA Y d k 1) j (d - k) (byteRows ((l.drop k).take j)):=by
 have h1:=h.drop k (by omega) d (Nat.le_refl _) h.nc
 have h2:=h1.take j (by omega) (d - k) (by have:=h.nc;omega) (Nat.le_refl _)
 rwa [byteRows_drop,byteRows_take] at h2
set_option maxRecDepth 100000 in
theorem Recover_any (l:List Value) (A:Option Addr) (n c:Nat) (s:Int) (w:World) (hT:TpSl w A n c l) (h0:0≤s) (h1:s≤l.length) (h2:l.length≤400000) :
  Calls Tryz.prog 23 #[.agg #[.slice A n c,.int .i64 s]] w (RecvPost l s w):=by
 have hm:=hT.len
 have HO:=hide (fun w' (q:Below w.heap.size w w')=>topen_any l hT.u8 A n c s w' (hT.sl.below q) h0 h1 h2)
 have HU:=hide hT.u8
 have hn4:n≤400000:=by omega
 have HM:=hide hm
 clear hT h1 h2 hm
 have T0:=(Blk.new w 27 #[.slice A n c,.int .i64 s]).alloc (.cells #[.slice none 0 0,.int .i64 0] 27)
 have Z0:Blk ((w.alloc (.cells #[.slice A n c,.int .i64 s] 27)).alloc (.cells #[.slice none 0 0,.int .i64 0] 27)) (w.heap.size+1) 27 #[.slice none 0 0,.int .i64 0]:=Blk.new' _ _ _ (by simp)
 have q0:Below w.heap.size w ((w.alloc (.cells #[.slice A n c,.int .i64 s] 27)).alloc (.cells #[.slice none 0 0,.int .i64 0] 27)):=below_by
 go_enter Tryz.func23,Tryz.ntmps23
 (try clear cT0 fT0);have cT0:=T0.cell;have fT0:=T0.frozen
 go_wp2_with fail
 refine (HO.out _ q0).mono ?_
 rintro e w1 ⟨Y,n1,d,rfl,OY1,b1⟩
 obtain rfl:n=n1:=by rw [←HM.out,←OY1.sl'.len,byteRows_length]
 replace OY1:=OY1.mono q0.size
 have hnd:=OY1.sl'.nc
 replace Z0:=Z0.below' b1
 have q1:=bstep q0 b1
 clear cT0 fT0 T0 b1 q0 HO
 have HNE:=hide (show w.heap.size≤w.heap.size+1∧w1.heap.size≠w.heap.size+1 from ⟨by omega,by have:=Z0.lt;omega⟩)
 have bz:Below w1.heap.size w1 (w1.alloc (.cells #[.slice Y n d,.int .i64 s] 27)):=below_by
 have X1:=Blk.new w1 27 #[.slice Y n d,.int .i64 s]
 replace Z0:=Z0.below' bz
 replace OY1:=OY1.below bz
 replace q1:=bstep q1 bz
 clear bz
 go_upto_region 4 with fail
 obtain ⟨w2,hw2⟩:∃ w2,w2=w1.alloc (.cells #[.slice Y n d,.int .i64 s] 27):=⟨_,rfl⟩
 rw [←hw2] at X1 Z0 OY1 q1 ⊢
 clear hw2
 go_wp2_with fail
 go_loopw [7,8] (fun s7 s8 wr=>∃ at_:Nat,at_≤n∧s8 = .int .i64 (at_:Int)∧∃ (B:Option Addr) (m e:Nat) (rows:List (List Value)) (dn:List RK),s7 = .slice B m e∧Blk wr w1.heap.size 27 #[.slice Y n d,.int .i64 s]∧Blk wr (w.heap.size+1) 27 #[.slice none 0 0,.int .i64 0]∧Own wr w.heap.size 5 1 (.slice Y n d) (byteRows l)∧Own wr w.heap.size 45 20 (.slice B m e) rows∧RowsAt wr dn rows∧Hid (dn.length≤at_)∧Hid (Scan l dn at_)∧Below w.heap.size w wr) (fun _ s8 _=>n - (intOf s8).toNat)
 case atStart=>exact ⟨0,by omega,rfl,none,0,0,[],[],rfl,X1,Z0,OY1,Own.nil,RowsAt.nil,hide (by simp),hide (scan_start l),q1⟩
 case round=>
  obtain ⟨at_,hat,rfl,B,m,e,rows,dn,rfl,X,Z,OY,O,RA,HDL,HSC,q⟩:=hrel
  obtain ⟨gX,hgX⟩:∃ gX,gX=w1.heap.size:=⟨_,rfl⟩
  simp only [←hgX] at *
  clear hgX X1 Z0 OY1 q1
  have hqs:=q.size
  have hx:=X.lt
  have hz:=Z.lt
  by_cases h3:at_+3≤n
  ·obtain ⟨vn,hvn⟩:=Int.eq_ofNat_of_zero_le (val3_bd (HU.out.drop at_)).1
   have hvb:=(val3_bd (HU.out.drop at_)).2
   have sA:=fun w=>run_cut Tryz.underlying25 u8_size Y n d at_ (by omega) w
   have hSd:=OY.sl'.drop at_ (by omega) d (Nat.le_refl _) hnd
   rw [byteRows_drop] at hSd
   have HV:=hide (tvalue_any (l.drop at_) _ _ _ wr hSd (HU.out.drop at_) (by omega))
   rw [hvn] at HV hvb
   have HVN:=hide hvn
   clear hvn hSd
   have e1:(at_:Int)+3≤(n:Int):=by omega
   (try clear cX fX);have cX:=X.cell;have fX:=X.frozen
   go_wp2_with fail
   refine HV.out.mono ?_
   rintro e_ w3 ⟨rfl,b3⟩
   clear cX fX HV sA
   replace X:=X.below' b3;replace Z:=Z.below' b3;replace OY:=OY.below b3;replace O:=O.below b3
   replace RA:=RA.keep fun r row h=>h.bl b3
   replace q:=bstep q b3
   clear b3
   by_cases h4:n<at_+3+vn
   ·have e2:(n:Int)<(at_:Int)+3+(vn:Int):=by omega
    have HEND:=hide (show recA l=(dn,at_) from scan_short HSC.out (by rw [List.length_drop,HM.out,HVN.out];right;omega))
    (try clear cX fX);have cX:=X.cell;have fX:=X.frozen
    have ha1:=hide (show at_≤d by omega)
    have st_:=fun w=>run_take3 Tryz.underlying25 u8_size Y n d at_ at_ (Nat.le_refl _) ha1.out w
    have mi1:(if (at_:Int)<s then (at_:Int) else s)=min s at_:=by split <;> omega
    have mi2:(if s<(at_:Int) then s else (at_:Int))=min s at_:=by split <;> omega
    go_upto_region 13 with fail
    refine wp_region_x (l:=[]) (S:=fun w'=>w'.cell? ⟨gX,0,none⟩=some (.slice Y n d)∧w'.cell? ⟨gX,1,none⟩=some (.int .i64 s)) (by kernel_rfl) ⟨X.drew.cell 0,X.drew.cell 1⟩ (fun hS=>?_)
    have bd:Below w3.heap.size w3 w3.drew:=(Below.refl _ w3).drew
    replace X:=X.drew;replace Z:=Z.drew;replace OY:=OY.drew;replace O:=O.drew;replace q:=q.drew
    replace RA:=RA.keep fun r row h=>h.bl bd
    clear bd
    obtain ⟨wd,hwd⟩:∃ wd,wd=w3.drew:=⟨_,rfl⟩
    rw [←hwd] at hS X Z OY O q RA ⊢
    clear hwd
    refine wpAnyX_tq 0 ?_
    refine wpAnyX_tq 1 ?_
    refine wpAnyX_tq 2 ?_
    refine wpAnyX_tq 3 ?_
    refine wpAnyX_tq 4 ?_
    refine wpAnyX_tq 5 ?_
    refine wpAnyX_tq 6 ?_
    refine wpAnyX_tq 7 ?_
    refine wpAnyX_tq 8 ?_
    refine wpAnyX_tq 9 ?_
    refine wpAnyX_tq 10 ?_
    refine wpAnyX_oq 11 fun K hK=>?_
    go_wp2_with fail
    refine hK.out _ _ (Or.inr hS) (fun hS=>?_)
    replace hS:=hS.resolve_left (by decide)
    clear hK K
    refine wpAnyX_oq 12 fun K hK=>?_
    refine wpList_store_blk rfl 27 _ _ rfl (cells:=#[.slice Y at_ at_,.int .i64 (min s at_)]) rfl rfl Z rfl tape_size (all_one rfl) ?_
    intro w9 Z9 gr9 sz9
    have X9:=grown_blk X gr9 HNE.out.2
    have HP:=hide (show RecvPost l s w (.returned (.tuple #[.slice B m e,.agg #[.slice Y at_ at_,.int .i64 (min s at_)],.int .i64 0])) w9 from
     ⟨B,m,e,rows,Y,at_,by rw [HEND.out],by rw [HEND.out];exact (RA.keep fun r row h=>h.grown Z gr9).recs (own_grew O Z gr9).sl',by rw [HEND.out];exact ⟨by have h:=(own_grew OY Z gr9).sl'.take at_ (by omega) at_ (Nat.le_refl _) ha1.out;rwa [byteRows_take] at h,HU.out.take _,own_tp (own_grew OY Z gr9)⟩,below_grow q gr9 q.size HNE.out.1⟩)
    refine hK.out _ _ (Or.inr ⟨X9.cell 0,X9.cell 1⟩) (fun hS=>?_)
    replace hS:=hS.resolve_left (by decide)
    clear hK K gr9 sz9 RA O OY Z X q
    refine wpAnyX_oq 13 fun K hK=>?_
    go_wp2_with fail
    refine hK.out _ _ (Or.inr hS) (fun _=>?_)
    clear hK K hS X9 mi1 mi2 st_
    refine wpAnyX_done (by kernel_rfl) ?_ _
    (try clear cZ9 fZ9);have cZ9:=Z9.cell;have fZ9:=Z9.frozen
    go_wp2_with fail
    refine bodyPost_ret (v:=.tuple #[.slice B m e,.agg #[.slice Y at_ at_,.int .i64 (min s at_)],.int .i64 0]) ?_ rfl HP.out
    simp [results,Tryz.results23,go_sem, *]
   ·have e2:(at_:Int)+3+(vn:Int)≤(n:Int):=by omega
    have hvb2:(vn:Int)≤400000:=by omega
    clear hvb
    have sB:∀ w,(Instr.slice 25 (.slice Y n d) (some (.int .i64 ((at_:Int)+3))) (some (.int .i64 ((at_:Int)+3+(vn:Int)))) none).run Tryz.prog w = .ok (.slice (cutA Y d (at_+3) 1) vn (d - (at_+3))) w:=fun w=>by
     have h:=run_cut2 Tryz.underlying25 u8_size Y n d (at_+3) (at_+3+vn) (by omega) (by omega) w
     rw [show at_+3+vn - (at_+3)=vn by omega] at h
     push_cast at h
     exact h
    have HDE:=hide (decode_any (((l.drop at_).drop 3).take vn) _ _ _ w3 (by rw [List.drop_drop];exact drop_take_rows OY.sl' (at_+3) vn (by omega)) (((HU.out.drop at_).drop 3).take vn))
    have HSH:Hid (¬ ((l.drop at_).length<3∨(l.drop at_).length<3+(val3 (l.drop at_)).toNat)):=hide (by rw [List.length_drop,HM.out,HVN.out];omega)
    have HSN:=hide (fun r (h:decRec (((l.drop at_).drop 3).take vn)=some r)=>(show Scan l (dn ++ [r]) (at_+(3+vn)) from by
     have:=scan_step HSC.out HSH.out (r:=r) (by rw [HVN.out];exact h)
     rwa [HVN.out] at this))
    have HSE:=hide (fun (h:decRec (((l.drop at_).drop 3).take vn)=none)=>scan_none HSC.out HSH.out (by rw [HVN.out];exact h))
    generalize decRec (((l.drop at_).drop 3).take vn)=O_ at *
    (try clear cX fX);have cX:=X.cell;have fX:=X.frozen
    go_wp2_with fail
    refine HDE.out.mono ?_
    rintro e_ w4 ⟨row,ok,rfl,hl20,hone,hok1,hok0,b4⟩
    clear cX fX HDE sB
    replace X:=X.below' b4;replace Z:=Z.below' b4;replace OY:=OY.below b4;replace O:=O.below b4
    replace RA:=RA.keep fun r row h=>h.bl b4
    replace q:=bstep q b4
    clear b4
    obtain ⟨v0,v1,v2,v3,v4,v5,v6,v7,v8,v9,v10,v11,v12,v13,v14,v15,v16,v17,v18,v19,rfl⟩:=twenty hl20
    have ba:Below w4.heap.size w4 (w4.alloc (.cells #[.int .i64 0,.int .i64 0,.int .i64 0,.int .i64 0,.int .i64 0,.int .i64 0,.bool false,.int .i64 0,.int .i64 0,.int .i64 0,.string { data:=#[] },.string { data:=#[] },.string { data:=#[] },.int .i64 0,.int .i64 0,.int .i64 0,.int .i64 0,.slice none 0 0,.int .i64 0,.slice none 0 0] 45)):=below_by
    have HONE:=hide hone
    have HK1:=hide hok1
    have HK0:=hide hok0
    clear hl20 hone hok1 hok0
    go_upto_region 10 with (refine wpList_store_blk rfl 45 _ _ rfl (cells:=#[v0,v1,v2,v3,v4,v5,v6,v7,v8,v9,v10,v11,v12,v13,v14,v15,v16,v17,v18,v19]) rfl rfl (Blk.new w4 _ _) rfl rec_size HONE.out ?_;intro w5 R5 gr5 sz5)
    have b45:Below w4.heap.size w4 w5:=below_grow ba gr5 (by simp) (Nat.le_refl _)
    replace X:=X.below' b45;replace Z:=Z.below' b45;replace OY:=OY.below b45;replace O:=O.below b45
    replace RA:=RA.keep fun r row h=>h.bl b45
    replace q:=bstep q b45
    clear gr5 sz5 ba
    cases ok with
    | false=>
     have hO:O_=none:=by
      cases hO:O_ with
      | none=>rfl
      | some r=>have:=(HK1.out r hO).1;cases this
     have HEND:=hide (HSE.out hO)
     clear b45 R5 HSN HSE
     (try clear cX fX);have cX:=X.cell;have fX:=X.frozen
     have ha1:=hide (show at_≤d by omega)
     have st_:=fun w=>run_take3 Tryz.underlying25 u8_size Y n d at_ at_ (Nat.le_refl _) ha1.out w
     have mi1:(if (at_:Int)<s then (at_:Int) else s)=min s at_:=by split <;> omega
     have mi2:(if s<(at_:Int) then s else (at_:Int))=min s at_:=by split <;> omega
     go_upto_region 13 with fail
     refine wp_region_x (l:=[]) (S:=fun w'=>w'.cell? ⟨gX,0,none⟩=some (.slice Y n d)∧w'.cell? ⟨gX,1,none⟩=some (.int .i64 s)) (by kernel_rfl) ⟨X.drew.cell 0,X.drew.cell 1⟩ (fun hS=>?_)
     have bd:Below w5.heap.size w5 w5.drew:=(Below.refl _ w5).drew
     replace X:=X.drew;replace Z:=Z.drew;replace OY:=OY.drew;replace O:=O.drew;replace q:=q.drew
     replace RA:=RA.keep fun r row h=>h.bl bd
     clear bd
     obtain ⟨wd,hwd⟩:∃ wd,wd=w5.drew:=⟨_,rfl⟩
     rw [←hwd] at hS X Z OY O q RA ⊢
     clear hwd
     refine wpAnyX_tq 0 ?_
     refine wpAnyX_tq 1 ?_
     refine wpAnyX_tq 2 ?_
     refine wpAnyX_tq 3 ?_
     refine wpAnyX_tq 4 ?_
     refine wpAnyX_tq 5 ?_
     refine wpAnyX_tq 6 ?_
     refine wpAnyX_tq 7 ?_
     refine wpAnyX_tq 8 ?_
     refine wpAnyX_tq 9 ?_
     refine wpAnyX_tq 10 ?_
     refine wpAnyX_oq 11 fun K hK=>?_
     go_wp2_with fail
     refine hK.out _ _ (Or.inr hS) (fun hS=>?_)
     replace hS:=hS.resolve_left (by decide)
     clear hK K
     refine wpAnyX_oq 12 fun K hK=>?_
     refine wpList_store_blk rfl 27 _ _ rfl (cells:=#[.slice Y at_ at_,.int .i64 (min s at_)]) rfl rfl Z rfl tape_size (all_one rfl) ?_
     intro w9 Z9 gr9 sz9
     have X9:=grown_blk X gr9 HNE.out.2
     have HP:=hide (show RecvPost l s w (.returned (.tuple #[.slice B m e,.agg #[.slice Y at_ at_,.int .i64 (min s at_)],.int .i64 0])) w9 from
      ⟨B,m,e,rows,Y,at_,by rw [HEND.out],by rw [HEND.out];exact (RA.keep fun r row h=>h.grown Z gr9).recs (own_grew O Z gr9).sl',by rw [HEND.out];exact ⟨by have h:=(own_grew OY Z gr9).sl'.take at_ (by omega) at_ (Nat.le_refl _) ha1.out;rwa [byteRows_take] at h,HU.out.take _,own_tp (own_grew OY Z gr9)⟩,below_grow q gr9 q.size HNE.out.1⟩)
     refine hK.out _ _ (Or.inr ⟨X9.cell 0,X9.cell 1⟩) (fun hS=>?_)
     replace hS:=hS.resolve_left (by decide)
     clear hK K gr9 sz9 RA O OY Z X q
     refine wpAnyX_oq 13 fun K hK=>?_
     go_wp2_with fail
     refine hK.out _ _ (Or.inr hS) (fun _=>?_)
     clear hK K hS X9 mi1 mi2 st_
     refine wpAnyX_done (by kernel_rfl) ?_ _
     (try clear cZ9 fZ9);have cZ9:=Z9.cell;have fZ9:=Z9.frozen
     go_wp2_with fail
     refine bodyPost_ret (v:=.tuple #[.slice B m e,.agg #[.slice Y at_ at_,.int .i64 (min s at_)],.int .i64 0]) ?_ rfl HP.out
     simp [results,Tryz.results23,go_sem, *]
    | true=>
     obtain ⟨r,hO⟩:∃ r,O_=some r:=by
      cases hO:O_ with
      | none=>have:=HK0.out hO;cases this
      | some r=>exact ⟨r,rfl⟩
     have hrec:=((HK1.out r hO).2).bl b45
     have HS5:=HSN.out r hO
     have hlen:=hide (show rows.length=dn.length from RA.1)
     clear b45 HSN HSE HK1 HK0
     have bb:Below w5.heap.size w5 (w5.alloc (.cells #[v0,v1,v2,v3,v4,v5,v6,v7,v8,v9,v10,v11,v12,v13,v14,v15,v16,v17,v18,v19] 45)):=below_by
     have hq5:=q.size
     have wv:IntKind.i64.wrap (3+(vn:Int))=3+vn:=IntWalk.i64_in _ (by omega)
     go_wp2_with (first|(refine wpList_load_blk rfl 45 _ rfl rfl R5 Tryz.underlying45 rfl rec_size ?_)|(at_builtin;refine wpList_push_g rfl _ _ _ rfl Tryz.underlying23 rec_info rfl (by decide) (by rfl) O (H:=w5.heap.size) rfl (by rfl) (row:=#[v0,v1,v2,v3,v4,v5,v6,v7,v8,v9,v10,v11,v12,v13,v14,v15,v16,v17,v18,v19]) rfl HONE.out ?_ ?_ hq5 ?_))
     ·have:=HDL.out;rw [hlen.out];unfold maxLen;omega
     ·have:=HDL.out;rw [hlen.out];omega
     intro B7 m7 e7 w7 O7 g7
     have b67:=below_grown (O.alloc (.cells #[v0,v1,v2,v3,v4,v5,v6,v7,v8,v9,v10,v11,v12,v13,v14,v15,v16,v17,v18,v19] 45)) g7 (by simp;omega)
     have RA7:RowsAt w7 (dn ++ [r]) (rows ++ [[v0,v1,v2,v3,v4,v5,v6,v7,v8,v9,v10,v11,v12,v13,v14,v15,v16,v17,v18,v19]]):=((RA.keep fun r row h=>h.bl bb).snoc (hrec.bl bb)).keep fun r row h=>h.own (O.alloc _) g7
     have q7:Below w.heap.size w w7:=(q.trans (bb.mono hq5)).trans b67
     have hng:∀ (k:Nat) (ty:TypeId) (cs:Array Value),Blk w5 k ty cs→ty≠45→Blk w7 k ty cs:=fun k ty cs h hne=>by
      have h2:=h.alloc (.cells #[v0,v1,v2,v3,v4,v5,v6,v7,v8,v9,v10,v11,v12,v13,v14,v15,v16,v17,v18,v19] 45)
      exact (g7.block k h2.lt (fun e=>own_block_ne (O.alloc (.cells #[v0,v1,v2,v3,v4,v5,v6,v7,v8,v9,v10,v11,v12,v13,v14,v15,v16,v17,v18,v19] 45)) h2 hne e.symm)).trans h2
     have X7:=hng _ _ _ X (by decide)
     have Z7:=hng _ _ _ Z (by decide)
     have OY7:Own w7 w.heap.size 5 1 (.slice Y n d) (byteRows l):=by
      refine ⟨⟨OY.1.1,?_⟩,OY.2⟩
      rcases OY.1.2 with e1|⟨k,cap,cur,e1,e2,e3,e4⟩
      ·exact .inl e1
      ·exact .inr ⟨k,cap,cur,e1,e2,hng k _ _ e3 (by decide),e4⟩
     have HDL7:=hide (show (dn ++ [r]).length≤at_+(3+vn) by have:=HDL.out;simp;omega)
     clear b67 g7 bb O RA hrec R5 X Z OY hng
     go_wp2_with fail
     go_roundw
     case rel=>exact ⟨at_+(3+vn),by omega,by first|go_num|(congr 1;push_cast;omega),B7,m7,e7,_,_,rfl,X7,Z7,OY7,O7,RA7,HDL7,hide HS5,q7⟩
     case measure=>simp [intOf];omega
  ·have e1:¬ (at_:Int)+3≤(n:Int):=by omega
   have HEND:=hide (show recA l=(dn,at_) from scan_short HSC.out (by rw [List.length_drop,HM.out];left;omega))
   (try clear cX fX);have cX:=X.cell;have fX:=X.frozen
   have ha1:=hide (show at_≤d by omega)
   have st_:=fun w=>run_take3 Tryz.underlying25 u8_size Y n d at_ at_ (Nat.le_refl _) ha1.out w
   have mi1:(if (at_:Int)<s then (at_:Int) else s)=min s at_:=by split <;> omega
   have mi2:(if s<(at_:Int) then s else (at_:Int))=min s at_:=by split <;> omega
   go_upto_region 13 with fail
   refine wp_region_x (l:=[]) (S:=fun w'=>w'.cell? ⟨gX,0,none⟩=some (.slice Y n d)∧w'.cell? ⟨gX,1,none⟩=some (.int .i64 s)) (by kernel_rfl) ⟨X.drew.cell 0,X.drew.cell 1⟩ (fun hS=>?_)
   have bd:Below wr.heap.size wr wr.drew:=(Below.refl _ wr).drew
   replace X:=X.drew;replace Z:=Z.drew;replace OY:=OY.drew;replace O:=O.drew;replace q:=q.drew
   replace RA:=RA.keep fun r row h=>h.bl bd
   clear bd
   obtain ⟨wd,hwd⟩:∃ wd,wd=wr.drew:=⟨_,rfl⟩
   rw [←hwd] at hS X Z OY O q RA ⊢
   clear hwd
   refine wpAnyX_tq 0 ?_
   refine wpAnyX_tq 1 ?_
   refine wpAnyX_tq 2 ?_
   refine wpAnyX_tq 3 ?_
   refine wpAnyX_tq 4 ?_
   refine wpAnyX_tq 5 ?_
   refine wpAnyX_tq 6 ?_
   refine wpAnyX_tq 7 ?_
   refine wpAnyX_tq 8 ?_
   refine wpAnyX_tq 9 ?_
   refine wpAnyX_tq 10 ?_
   refine wpAnyX_oq 11 fun K hK=>?_
   go_wp2_with fail
   refine hK.out _ _ (Or.inr hS) (fun hS=>?_)
   replace hS:=hS.resolve_left (by decide)
   clear hK K
   refine wpAnyX_oq 12 fun K hK=>?_
   refine wpList_store_blk rfl 27 _ _ rfl (cells:=#[.slice Y at_ at_,.int .i64 (min s at_)]) rfl rfl Z rfl tape_size (all_one rfl) ?_
   intro w9 Z9 gr9 sz9
   have X9:=grown_blk X gr9 HNE.out.2
   have HP:=hide (show RecvPost l s w (.returned (.tuple #[.slice B m e,.agg #[.slice Y at_ at_,.int .i64 (min s at_)],.int .i64 0])) w9 from
    ⟨B,m,e,rows,Y,at_,by rw [HEND.out],by rw [HEND.out];exact (RA.keep fun r row h=>h.grown Z gr9).recs (own_grew O Z gr9).sl',by rw [HEND.out];exact ⟨by have h:=(own_grew OY Z gr9).sl'.take at_ (by omega) at_ (Nat.le_refl _) ha1.out;rwa [byteRows_take] at h,HU.out.take _,own_tp (own_grew OY Z gr9)⟩,below_grow q gr9 q.size HNE.out.1⟩)
   refine hK.out _ _ (Or.inr ⟨X9.cell 0,X9.cell 1⟩) (fun hS=>?_)
   replace hS:=hS.resolve_left (by decide)
   clear hK K gr9 sz9 RA O OY Z X q
   refine wpAnyX_oq 13 fun K hK=>?_
   go_wp2_with fail
   refine hK.out _ _ (Or.inr hS) (fun _=>?_)
   clear hK K hS X9 mi1 mi2 st_
   refine wpAnyX_done (by kernel_rfl) ?_ _
   (try clear cZ9 fZ9);have cZ9:=Z9.cell;have fZ9:=Z9.frozen
   go_wp2_with fail
   refine bodyPost_ret (v:=.tuple #[.slice B m e,.agg #[.slice Y at_ at_,.int .i64 (min s at_)],.int .i64 0]) ?_ rfl HP.out
   simp [results,Tryz.results23,go_sem, *]
end Go.Proofs.YtgmojjclobkpjaaGreatDoor

