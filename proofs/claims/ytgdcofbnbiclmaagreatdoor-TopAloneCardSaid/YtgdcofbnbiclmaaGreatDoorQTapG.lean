import Derived.Test.YtgdcofbnbiclmaaGreatDoorQTapF
import Derived.Deep.MidRow
namespace Go.Proofs.YtgdcofbnbiclmaaGreatDoor
set_option linter.all false
set_option maxHeartbeats 32000000
open Go.RowKit
structure Recs (w:World) (A:Option Addr) (n c:Nat) (rs:List RK) (rows:List (List Value)):Prop where
 sl:Sl w 20 A n c rows
 len:rows.length=rs.length
 at_:∀ k (h:k<rs.length) (h':k<rows.length),RecAt w rs[k] rows[k]
theorem Recs.bl {w w':World} {A:Option Addr} {n c:Nat} {rs:List RK} {rows:List (List Value)} (h:Recs w A n c rs rows) (hb:Below w.heap.size w w'):Recs w' A n c rs rows:=⟨h.sl.below hb,h.len,fun k h1 h2=>(h.at_ k h1 h2).bl hb⟩
theorem Recs.n_ {w:World} {A:Option Addr} {n c:Nat} {rs:List RK} {rows:List (List Value)} (h:Recs w A n c rs rows):rs.length=n:=by rw [←h.len,h.sl.len]
theorem Recs.range {w:World} {A:Option Addr} {n c:Nat} {rs:List RK} {rows:List (List Value)} (h:Recs w A n c rs rows) {k:Nat} (hk:k<rs.length) :
  ∃ b off row,A=some ⟨b,off,none⟩∧b<w.heap.size∧w.rangeAt b (off+k*20) row∧RecAt w rs[k] row:=by
 have hk':k<rows.length:=by rw [h.len];exact hk
 obtain ⟨b,off,rfl,hb,hc⟩:=h.sl.seg.at_ (i:=k) hk'
 refine ⟨b,off,rows[k],rfl,hb,fun j v hv=>?_,h.at_ k hk hk'⟩
 rw [Nat.add_assoc]
 exact hc j v hv
theorem disk_log {w2:World} {g:Nat} {x0 x1 x2 x3 x4 x5 x6 x7 x8 x9 x10:Value} (u0 u1 u2:Value) (R:Blk w2 g 124 #[x0,x1,x2,x3,x4,x5,x6,x7,x8,x9,x10]) :
  Blk (((w2.setCell ⟨g,8,none⟩ u0).setCell ⟨g,9,none⟩ u1).setCell ⟨g,10,none⟩ u2) g 124 #[x0,x1,x2,x3,x4,x5,x6,x7,u0,u1,u2]∧w2.grownBy (((w2.setCell ⟨g,8,none⟩ u0).setCell ⟨g,9,none⟩ u1).setCell ⟨g,10,none⟩ u2) (some g)∧(((w2.setCell ⟨g,8,none⟩ u0).setCell ⟨g,9,none⟩ u1).setCell ⟨g,10,none⟩ u2).heap.size=w2.heap.size:=by
 have R0:=one_step (w:=w2) (cs':=#[x0,x1,x2,x3,x4,x5,x6,x7,u0,x9,x10]) 8 u0 ⟨R,grown_refl _ _,rfl⟩ rfl
 have R1:=one_step (w:=w2) (cs':=#[x0,x1,x2,x3,x4,x5,x6,x7,u0,u1,x10]) 9 u1 R0 rfl
 exact one_step (w:=w2) (cs':=#[x0,x1,x2,x3,x4,x5,x6,x7,u0,u1,u2]) 10 u2 R1 rfl
theorem disk_mach {w2:World} {g:Nat} {x0 x1 x2 x3 x4 x5 x6 x7 x8 x9 x10:Value} (u0 u1 u2 u3:Value) (R:Blk w2 g 124 #[x0,x1,x2,x3,x4,x5,x6,x7,x8,x9,x10]) :
  Blk ((((w2.setCell ⟨g,4,none⟩ u0).setCell ⟨g,5,none⟩ u1).setCell ⟨g,6,none⟩ u2).setCell ⟨g,7,none⟩ u3) g 124 #[x0,x1,x2,x3,u0,u1,u2,u3,x8,x9,x10]∧w2.grownBy ((((w2.setCell ⟨g,4,none⟩ u0).setCell ⟨g,5,none⟩ u1).setCell ⟨g,6,none⟩ u2).setCell ⟨g,7,none⟩ u3) (some g)∧((((w2.setCell ⟨g,4,none⟩ u0).setCell ⟨g,5,none⟩ u1).setCell ⟨g,6,none⟩ u2).setCell ⟨g,7,none⟩ u3).heap.size=w2.heap.size:=by
 have R0:=one_step (w:=w2) (cs':=#[x0,x1,x2,x3,u0,x5,x6,x7,x8,x9,x10]) 4 u0 ⟨R,grown_refl _ _,rfl⟩ rfl
 have R1:=one_step (w:=w2) (cs':=#[x0,x1,x2,x3,u0,u1,x6,x7,x8,x9,x10]) 5 u1 R0 rfl
 have R2:=one_step (w:=w2) (cs':=#[x0,x1,x2,x3,u0,u1,u2,x7,x8,x9,x10]) 6 u2 R1 rfl
 exact one_step (w:=w2) (cs':=#[x0,x1,x2,x3,u0,u1,u2,u3,x8,x9,x10]) 7 u3 R2 rfl
theorem disk_snap {w2:World} {g:Nat} {x0 x1 x2 x3 x4 x5 x6 x7 x8 x9 x10:Value} (u0 u1 u2 u3 u4 u5:Value) (R:Blk w2 g 124 #[x0,x1,x2,x3,x4,x5,x6,x7,x8,x9,x10]) :
  Blk ((((((w2.setCell ⟨g,2,none⟩ u0).setCell ⟨g,3,none⟩ u1).setCell ⟨g,4,none⟩ u2).setCell ⟨g,5,none⟩ u3).setCell ⟨g,6,none⟩ u4).setCell ⟨g,7,none⟩ u5) g 124 #[x0,x1,u0,u1,u2,u3,u4,u5,x8,x9,x10]∧w2.grownBy ((((((w2.setCell ⟨g,2,none⟩ u0).setCell ⟨g,3,none⟩ u1).setCell ⟨g,4,none⟩ u2).setCell ⟨g,5,none⟩ u3).setCell ⟨g,6,none⟩ u4).setCell ⟨g,7,none⟩ u5) (some g)∧((((((w2.setCell ⟨g,2,none⟩ u0).setCell ⟨g,3,none⟩ u1).setCell ⟨g,4,none⟩ u2).setCell ⟨g,5,none⟩ u3).setCell ⟨g,6,none⟩ u4).setCell ⟨g,7,none⟩ u5).heap.size=w2.heap.size:=by
 have R0:=one_step (w:=w2) (cs':=#[x0,x1,u0,x3,x4,x5,x6,x7,x8,x9,x10]) 2 u0 ⟨R,grown_refl _ _,rfl⟩ rfl
 have R1:=one_step (w:=w2) (cs':=#[x0,x1,u0,u1,x4,x5,x6,x7,x8,x9,x10]) 3 u1 R0 rfl
 have R2:=one_step (w:=w2) (cs':=#[x0,x1,u0,u1,u2,x5,x6,x7,x8,x9,x10]) 4 u2 R1 rfl
 have R3:=one_step (w:=w2) (cs':=#[x0,x1,u0,u1,u2,u3,x6,x7,x8,x9,x10]) 5 u3 R2 rfl
 have R4:=one_step (w:=w2) (cs':=#[x0,x1,u0,u1,u2,u3,u4,x7,x8,x9,x10]) 6 u4 R3 rfl
 exact one_step (w:=w2) (cs':=#[x0,x1,u0,u1,u2,u3,u4,u5,x8,x9,x10]) 7 u5 R4 rfl
abbrev dkC (d:Dk) (E C I:Value):Array Value:=#[.int .i64 d.term,.int .i64 d.who,.int .i64 d.si,.int .i64 d.st,.int .i64 d.m.now,E,.int .i64 d.m.next,C,.int .i64 d.b,.int .i64 d.bt,I]
def DkAt (w:World) (g:Nat) (d:Dk):Prop:=∃ (A:Option Addr) (n c:Nat) (B:Option Addr) (k e:Nat) (I:Option Addr) (m q:Nat),
 Blk w g 124 #[.int .i64 d.term,.int .i64 d.who,.int .i64 d.si,.int .i64 d.st,.int .i64 d.m.now,.slice A n c,.int .i64 d.m.next,.slice B k e,.int .i64 d.b,.int .i64 d.bt,.slice I m q]∧St w A n c d.m.ents∧Ci w B k e d.m.clis∧OI w I m q d.L
theorem DkAt.bl {w w':World} {g:Nat} {d:Dk} (h:DkAt w g d) (hb:Below w.heap.size w w'):DkAt w' g d:=by
 obtain ⟨A,n,c,B,k,e,I,m,q,h1,h2,h3,h4⟩:=h
 exact ⟨A,n,c,B,k,e,I,m,q,h1.below' hb,h2.bl hb,h3.bl hb,h4.bl hb⟩
def FoldPost (r:Dk×Int) (w:World) (e:Ending) (w':World):Prop:=
 (r.2=0→∃ (A:Option Addr) (n c:Nat) (B:Option Addr) (k d:Nat) (I:Option Addr) (m q:Nat),e = .returned (.tuple #[.agg #[.int .i64 r.1.term,.int .i64 r.1.who,.int .i64 r.1.si,.int .i64 r.1.st,.int .i64 r.1.m.now,.slice A n c,.int .i64 r.1.m.next,.slice B k d,.int .i64 r.1.b,.int .i64 r.1.bt,.slice I m q],.int .i64 0])∧St w' A n c r.1.m.ents∧Ci w' B k d r.1.m.clis∧OI w' I m q r.1.L) ∧
 (r.2≠0→e = .returned (.tuple #[.agg #[.int .i64 0,.int .i64 0,.int .i64 0,.int .i64 0,.int .i64 0,.slice none 0 0,.int .i64 0,.slice none 0 0,.int .i64 0,.int .i64 0,.slice none 0 0],.int .i64 r.2]))∧Below w.heap.size w w'
set_option maxRecDepth 100000 in
theorem Fold_any (rs:List RK) (hrs:∀ r∈rs,r.Ok) (A:Option Addr) (n c:Nat) (rows:List (List Value)) (w:World) (hR:Recs w A n c rs rows) :
  Calls Tryz.prog 137 #[.slice A n c] w (FoldPost (foldG newDk rs) w):=by
 obtain rfl:=hR.n_
 have hnc:=hR.sl.nc
 have hcm:=hR.sl.cm
 unfold maxLen at hcm
 obtain ⟨RR,hRR⟩:∃ RR,RR=foldG newDk rs:=⟨_,rfl⟩
 rw [←hRR]
 have HRR:=hide (show RR=foldG newDk (rs.drop 0) from hRR)
 clear hRR
 have HRS:=hide hrs
 clear hrs
 have Z0:=Blk.new w 124 #[.int .i64 0,.int .i64 0,.int .i64 0,.int .i64 0,.int .i64 0,.slice none 0 0,.int .i64 0,.slice none 0 0,.int .i64 0,.int .i64 0,.slice none 0 0]
 have q0:Below w.heap.size w (w.alloc (.cells #[.int .i64 0,.int .i64 0,.int .i64 0,.int .i64 0,.int .i64 0,.slice none 0 0,.int .i64 0,.slice none 0 0,.int .i64 0,.int .i64 0,.slice none 0 0] 124)):=below_by
 go_enter Tryz.func137,Tryz.ntmps137
 go_wp2_with fail
 refine (TapeNew_any _).mono ?_
 rintro e w1 ⟨rfl,b1⟩
 have q1:=bstep q0 b1
 replace Z0:=Z0.below' b1
 clear b1 q0
 have hz0:=hide Z0.lt
 have D0:=Blk.new w1 124 #[.int .i64 0,.int .i64 (-1),.int .i64 0,.int .i64 0,.int .i64 0,.slice none 0 0,.int .i64 1,.slice none 0 0,.int .i64 0,.int .i64 0,.slice none 0 0]
 replace Z0:=Z0.alloc (.cells #[.int .i64 0,.int .i64 (-1),.int .i64 0,.int .i64 0,.int .i64 0,.slice none 0 0,.int .i64 1,.slice none 0 0,.int .i64 0,.int .i64 0,.slice none 0 0] 124)
 have hgD:=hide (q1.size)
 replace q1:Below w.heap.size w (w1.alloc (.cells #[.int .i64 0,.int .i64 (-1),.int .i64 0,.int .i64 0,.int .i64 0,.slice none 0 0,.int .i64 1,.slice none 0 0,.int .i64 0,.int .i64 0,.slice none 0 0] 124)):=below_by
 go_wp2_with fail
 obtain ⟨w2,hw2⟩:∃ w2,w2=w1.alloc (.cells #[.int .i64 0,.int .i64 (-1),.int .i64 0,.int .i64 0,.int .i64 0,.slice none 0 0,.int .i64 1,.slice none 0 0,.int .i64 0,.int .i64 0,.slice none 0 0] 124):=⟨_,rfl⟩
 have hDk:DkAt w2 w1.heap.size newDk:=⟨none,0,0,none,0,0,none,0,0,by rw [hw2];exact D0,St.nil _,Ci.nil _,⟨0,Own.nil⟩⟩
 rw [←hw2] at Z0 q1 ⊢
 clear hw2 D0
 obtain ⟨gD,hgd⟩:∃ g,g=w1.heap.size:=⟨_,rfl⟩
 rw [←hgd] at hDk hgD ⊢
 have hzD:Hid (w.heap.size<gD):=hide (by rw [hgd];exact hz0.out)
 clear hgd hz0
 go_loopw [15] (fun s15 wr=>∃ (k:Nat) (dk:Dk),k≤rs.length∧s15 = .int .i64 (k:Int)∧Blk wr w.heap.size 124 #[.int .i64 0,.int .i64 0,.int .i64 0,.int .i64 0,.int .i64 0,.slice none 0 0,.int .i64 0,.slice none 0 0,.int .i64 0,.int .i64 0,.slice none 0 0]∧DkAt wr gD dk∧Hid (RR=foldG dk (rs.drop k))∧Hid dk.Ok∧Below w.heap.size w wr) (fun s15 _=>rs.length - (intOf s15).toNat)
 case atStart=>exact ⟨0,newDk,by omega,rfl,Z0,hDk,HRR,hide new_ok,q1⟩
 case round=>
  obtain ⟨k,dk,hk,rfl,Z,D,HQ,HOK,q⟩:=hrel
  clear Z0 hDk q1
  by_cases hlt:k<rs.length
  ·have hr:=HRS.out rs[k] (List.getElem_mem hlt)
   have HQ':=foldG_step hlt HQ
   obtain ⟨b,off,row,rfl,hbb,hrg,hrec⟩:=(hR.bl q).range hlt
   obtain ⟨r,hre⟩:∃ r,r=rs[k]:=⟨_,rfl⟩
   rw [←hre] at hr HQ' hrec
   clear hre
   have hl20:=hrec.len
   have HONE:=hide hrec.one
   have HSZ:=hide (show (Tryz.prog.info? 205).map (·.size)=some row.length by rw [hl20];exact rec_size)
   have HSZ2:=hide (show (Tryz.prog.info? 205).map (·.size)=some row.toArray.size by rw [List.size_toArray,hl20];exact rec_size)
   have HL2:=hide (show 20=row.toArray.size by rw [List.size_toArray,hl20])
   have HRG:=hide hrg
   have HREC:=hide hrec
   have HR1:=hide hr
   clear hrg hl20 hrec hr
   have q34:Below wr.heap.size wr (wr.alloc (.cells #[.int .i64 0,.int .i64 0,.int .i64 0,.int .i64 0,.int .i64 0,.int .i64 0,.bool false,.int .i64 0,.int .i64 0,.int .i64 0,.string { data:=#[] },.string { data:=#[] },.string { data:=#[] },.int .i64 0,.int .i64 0,.int .i64 0,.int .i64 0,.slice none 0 0,.int .i64 0,.slice none 0 0] 205)):=below_by
   go_wp2_with (first|(refine wpList_load_mid rfl 205 _ rfl _ _ rfl row _ HRG.out Tryz.underlying205 rfl HSZ.out ?_)|(refine wpList_store_blk rfl 205 _ _ rfl (cells:=row.toArray) rfl rfl (Blk.new wr _ _) HL2.out HSZ2.out HONE.out ?_;intro w4 Z4 gr4 sz4)|(refine wpList_load_blk rfl 205 _ rfl rfl Z4 Tryz.underlying205 rfl HSZ2.out ?_))
   have b4:Below wr.heap.size wr w4:=below_grow q34 gr4 (by simp) (Nat.le_refl _)
   refine (Check_rec HR1.out _ (HREC.out.bl b4)).mono ?_
   rintro e w5 ⟨rfl,b5⟩
   have b35:Below wr.heap.size wr w5:=bstep b4 b5
   have Rk:=Z4.below' b5
   clear Z4 gr4 sz4 q34 b4 b5
   have HZG:=hide (show gD<wr.heap.size from by obtain ⟨_,_,_,_,_,_,_,_,_,h,_⟩:=D;exact h.lt)
   have hws:=q.size
   replace Z:=Z.below' b35
   replace D:=D.bl b35
   have q5:=bstep q b35
   obtain ⟨A1,n1,c1,B1,k1,d1,I1,m1,e1,D1,hE,hC,hI⟩:=D
   clear HSZ HSZ2 HL2 HONE HRG q
   cases r with
   | mark t f=>
    obtain rfl:row=markCells t f:=HREC.out
    replace Rk:Blk w5 wr.heap.size 205 #[.int .i64 1,.int .i64 t,.int .i64 f,.int .i64 0,.int .i64 0,.int .i64 0,.bool false,.int .i64 0,.int .i64 0,.int .i64 0,.string { data:=#[] },.string { data:=#[] },.string { data:=#[] },.int .i64 0,.int .i64 0,.int .i64 0,.int .i64 0,.slice none 0 0,.int .i64 0,.slice none 0 0]:=Rk
    have HQ2:=hide (show RR=foldG { dk with term:=t,who:=f } (rs.drop (k+1)) from HQ'.out)
    have HOK2:=hide (show ({ dk with term:=t,who:=f }:Dk).Ok from stepD_ok (r:=.mark t f) HOK.out HR1.out)
    clear HREC HQ' HQ b35
    (try clear cRk fRk);have cRk:=Rk.cell;have fRk:=Rk.frozen
    go_wp2_with fail
    clear cRk fRk
    have bd:Below w5.heap.size w5 w5.drew:=(Below.refl _ w5).drew
    refine wp_region_x (l:=[]) (S:=fun w'=>w'.cell? ⟨wr.heap.size,1,none⟩=some (.int .i64 t)∧w'.cell? ⟨wr.heap.size,2,none⟩=some (.int .i64 f)) (by kernel_rfl) ⟨Rk.drew.cell 1,Rk.drew.cell 2⟩ (fun hS=>?_)
    replace Rk:=Rk.drew;replace Z:=Z.drew;replace D1:=D1.drew;replace hE:=hE.bl bd;replace hC:=hC.bl bd;replace hI:=hI.bl bd;replace q5:=q5.drew
    clear bd
    obtain ⟨wd,hwd⟩:∃ wd,wd=w5.drew:=⟨_,rfl⟩
    rw [←hwd] at hS Rk Z D1 hE hC hI q5 ⊢
    clear hwd
    have E1:=one_step (w:=wd) (cs':=#[.int .i64 t,.int .i64 dk.who,.int .i64 dk.si,.int .i64 dk.st,.int .i64 dk.m.now,.slice A1 n1 c1,.int .i64 dk.m.next,.slice B1 k1 d1,.int .i64 dk.b,.int .i64 dk.bt,.slice I1 m1 e1]) 0 (.int .i64 t) ⟨D1,grown_refl _ _,rfl⟩ rfl
    have E2:=one_step (w:=wd) (cs':=#[.int .i64 t,.int .i64 f,.int .i64 dk.si,.int .i64 dk.st,.int .i64 dk.m.now,.slice A1 n1 c1,.int .i64 dk.m.next,.slice B1 k1 d1,.int .i64 dk.b,.int .i64 dk.bt,.slice I1 m1 e1]) 1 (.int .i64 f) E1 rfl
    have HE1:=hide E1
    have HE2:=hide E2
    clear E1 E2
    refine wpAnyX_tq 0 ?_
    refine wpAnyX_tq 1 ?_
    refine wpAnyX_tq 2 ?_
    refine wpAnyX_tq 3 ?_
    refine wpAnyX_tq 4 ?_
    have hg1:=D1.lt
    refine wpAnyX_oq 5 fun K hK=>?_
    (try clear cD1 fD1);have cD1:=D1.cell;have fD1:=D1.frozen
    go_wp2_with fail
    clear cD1 fD1
    have Rk6:=grown_blk Rk HE1.out.2.1 (by have:=HZG.out;omega)
    refine hK.out _ _ (Or.inr ⟨Rk6.cell 1,Rk6.cell 2⟩) (fun hS=>?_)
    replace hS:=hS.resolve_left (by decide)
    clear hK K
    have D6:=HE1.out.1
    have Rk7:=grown_blk Rk HE2.out.2.1 (by have:=HZG.out;omega)
    obtain ⟨w6,hw6⟩:∃ w6,w6=wd.setCell ⟨gD,0,none⟩ (.int .i64 t):=⟨_,rfl⟩
    rw [←hw6] at hS D6 HE2 Rk7 ⊢
    have hg6:=D6.lt
    clear hw6 HE1 Rk6
    refine wpAnyX_tq 6 ?_
    refine wpAnyX_oq 7 fun K hK=>?_
    (try clear cD6 fD6);have cD6:=D6.cell;have fD6:=D6.frozen
    go_wp2_with fail
    clear cD6 fD6
    refine hK.out _ _ (Or.inr ⟨Rk7.cell 1,Rk7.cell 2⟩) (fun _=>?_)
    clear hK K
    refine wpAnyX_done (by kernel_rfl) ?_ _
    obtain ⟨w7,hw7⟩:∃ w7,w7=w6.setCell ⟨gD,1,none⟩ (.int .i64 f):=⟨_,rfl⟩
    rw [←hw7] at HE2 ⊢
    have Z7:=grown_blk Z HE2.out.2.1 (by have:=hzD.out;omega)
    have q7:=below_grow q5 HE2.out.2.1 q5.size (by have:=hzD.out;omega)
    have DD:DkAt w7 gD { dk with term:=t,who:=f }:=⟨A1,n1,c1,B1,k1,d1,I1,m1,e1,HE2.out.1,hE.grown D1 HE2.out.2.1,hC.grown D1 HE2.out.2.1,hI.grew D1 HE2.out.2.1⟩
    clear hw7 Rk7 hS HE2 D6 D1 Rk Z hE hC hI
    go_wp2_with fail
    go_roundw
    case rel=>exact ⟨k+1,{ dk with term:=t,who:=f },by omega,by go_num,Z7,DD,HQ2,HOK2,q7⟩
    case measure=>simp [intOf];omega
   | line i x=>
    obtain rfl:row=lineCells i x:=HREC.out
    replace Rk:Blk w5 wr.heap.size 205 #[.int .i64 2,.int .i64 0,.int .i64 0,.int .i64 i,.int .i64 x.term,.int .i64 x.time,.bool x.nop,.int .i64 x.client,.int .i64 x.seq,.int .i64 x.cmd.kind,.string x.cmd.key,.string x.cmd.field,.string x.cmd.text,.int .i64 x.cmd.n,.int .i64 0,.int .i64 0,.int .i64 0,.slice none 0 0,.int .i64 0,.slice none 0 0]:=Rk
    obtain ⟨LR,hLR⟩:∃ LR,LR=lineP dk.b dk.bt dk.L i x:=⟨_,rfl⟩
    have HQ2:=hide (show RR=if LR.2=0 then foldG { dk with L:=LR.1 } (rs.drop (k+1)) else ({ dk with L:=LR.1 },LR.2) by rw [hLR];exact HQ'.out)
    have HOK2:=hide (show ({ dk with L:=LR.1 }:Dk).Ok by rw [hLR];exact stepD_ok (r:=.line i x) HOK.out HR1.out)
    have hin:=number_iff.1 HR1.out.1
    have HLN:=hide (fun w' (b':Below w5.heap.size w5 w')=>line_any dk.b dk.bt i I1 m1 e1 dk.L x w' (hI.bl b') HOK.out.log ⟨by omega,by omega⟩)
    rw [←hLR] at HLN
    clear hLR HREC HQ' HQ b35 hin
    obtain ⟨L6,ec⟩:=LR
    simp only at HQ2 HOK2
    (try clear cRk fRk);have cRk:=Rk.cell;have fRk:=Rk.frozen;(try clear cD1 fD1);have cD1:=D1.cell;have fD1:=D1.frozen
    go_wp2_with fail
    refine (HLN.out _ (Below.refl _ _)).mono ?_
    rintro e w6 ⟨I6,m6,e6,rfl,hI6,b6⟩
    simp only at hI6
    replace Z:=Z.below' b6
    replace D1:=D1.below' b6
    replace hE:=hE.bl b6
    replace hC:=hC.bl b6
    have q6:=bstep q5 b6
    clear b6 cRk fRk cD1 fD1 HLN hI Rk
    have ba:Below w6.heap.size w6 (w6.alloc (.cells #[.int .i64 0,.int .i64 0,.slice none 0 0] 43)):=below_by
    have hws6:=q6.size
    have hg6:=D1.lt
    by_cases hec:ec=0
    ·subst hec
     have HQ3:=hide (show RR=foldG { dk with L:=L6 } (rs.drop (k+1)) from HQ2.out)
     clear HQ2
     go_upto_region 13 with (refine wpList_store_blk rfl 43 _ _ rfl (cells:=#[.int .i64 dk.b,.int .i64 dk.bt,.slice I6 m6 e6]) rfl rfl (Blk.new w6 _ _) rfl log_size (all_one rfl) ?_;intro w7 Z7 gr7 sz7)
     have b67:Below w6.heap.size w6 w7:=below_grow ba gr7 (by simp) (Nat.le_refl _)
     replace Z:=Z.below' b67
     replace D1:=D1.below' b67
     replace hE:=hE.bl b67
     replace hC:=hC.bl b67
     replace hI6:=hI6.bl b67
     replace q6:=bstep q6 b67
     have hg7:=D1.lt
     clear gr7 sz7 b67 ba
     have HE7:=hide (disk_log (.int .i64 dk.b) (.int .i64 dk.bt) (.slice I6 m6 e6) D1)
     (try clear cZ7 fZ7);have cZ7:=Z7.cell;have fZ7:=Z7.frozen;(try clear cD1 fD1);have cD1:=D1.cell;have fD1:=D1.frozen
     go_upto_region 19 with fail
     obtain ⟨w8,hw8⟩:∃ w8,w8=((w7.setCell ⟨gD,8,none⟩ (.int .i64 dk.b)).setCell ⟨gD,9,none⟩ (.int .i64 dk.bt)).setCell ⟨gD,10,none⟩ (.slice I6 m6 e6):=⟨_,rfl⟩
     rw [←hw8] at HE7 ⊢
     clear hw8 cZ7 fZ7 cD1 fD1
     have Z8:=grown_blk Z HE7.out.2.1 (by have:=hzD.out;omega)
     have q8:=below_grow q6 HE7.out.2.1 q6.size (by have:=hzD.out;omega)
     have DD:DkAt w8 gD { dk with L:=L6 }:=⟨A1,n1,c1,B1,k1,d1,I6,m6,e6,HE7.out.1,hE.grown D1 HE7.out.2.1,hC.grown D1 HE7.out.2.1,hI6.grew D1 HE7.out.2.1⟩
     clear HE7 D1 Z7 Z hE hC hI6
     go_wp2_with fail
     go_roundw
     case rel=>exact ⟨k+1,{ dk with L:=L6 },by omega,by go_num,Z8,DD,HQ3,HOK2,q8⟩
     case measure=>simp [intOf];omega
    ·have hcb:(ec == 0)=false:=by simpa using hec
     have HQ3:=hide (show RR=({ dk with L:=L6 },ec) from by rw [HQ2.out,if_neg hec])
     have HEC:=hide hec
     clear HQ2 hec
     go_upto_region 13 with (refine wpList_store_blk rfl 43 _ _ rfl (cells:=#[.int .i64 dk.b,.int .i64 dk.bt,.slice I6 m6 e6]) rfl rfl (Blk.new w6 _ _) rfl log_size (all_one rfl) ?_;intro w7 Z7 gr7 sz7)
     have b67:Below w6.heap.size w6 w7:=below_grow ba gr7 (by simp) (Nat.le_refl _)
     replace Z:=Z.below' b67
     replace q6:=bstep q6 b67
     clear gr7 sz7 b67 ba hE hC hI6 D1
     go_wp2_with (refine wpList_store_blk rfl 124 _ _ rfl (cells:=#[.int .i64 0,.int .i64 0,.int .i64 0,.int .i64 0,.int .i64 0,.slice none 0 0,.int .i64 0,.slice none 0 0,.int .i64 0,.int .i64 0,.slice none 0 0]) rfl rfl Z rfl disk_size (all_one rfl) ?_;intro w9 Z9 gr9 sz9)
     have HP:=hide (show FoldPost RR w (.returned (.tuple #[.agg #[.int .i64 0,.int .i64 0,.int .i64 0,.int .i64 0,.int .i64 0,.slice none 0 0,.int .i64 0,.slice none 0 0,.int .i64 0,.int .i64 0,.slice none 0 0],.int .i64 ec])) w9 from ⟨fun h=>absurd (by rw [HQ3.out] at h;exact h) HEC.out,fun _=>by rw [HQ3.out],below_grow q6 gr9 q6.size (Nat.le_refl _)⟩)
     clear gr9 sz9 Z
     go_wp2_with fail
     have hlv:(loadVar 124 ⟨w.heap.size,0,none⟩).run Tryz.prog w9 = .ok (.agg #[.int .i64 0,.int .i64 0,.int .i64 0,.int .i64 0,.int .i64 0,.slice none 0 0,.int .i64 0,.slice none 0 0,.int .i64 0,.int .i64 0,.slice none 0 0]) w9:=run_loadVar_row w9 _ _ _ _ (0,0) _ Z9 Tryz.underlying124 rfl disk_size
     refine bodyPost_ret (v:=.tuple #[.agg #[.int .i64 0,.int .i64 0,.int .i64 0,.int .i64 0,.int .i64 0,.slice none 0 0,.int .i64 0,.slice none 0 0,.int .i64 0,.int .i64 0,.slice none 0 0],.int .i64 ec]) ?_ rfl HP.out
     simp only [results,Tryz.results137]
     simp [asAddr,Act.put,hlv]
   | load i t m=>
    obtain ⟨A6,n6,c6,B6,k6,d6,rfl,hE6,hC6⟩:=HREC.out
    replace Rk:Blk w5 wr.heap.size 205 #[.int .i64 3,.int .i64 0,.int .i64 0,.int .i64 0,.int .i64 0,.int .i64 0,.bool false,.int .i64 0,.int .i64 0,.int .i64 0,.string { data:=#[] },.string { data:=#[] },.string { data:=#[] },.int .i64 0,.int .i64 i,.int .i64 t,.int .i64 m.now,.slice A6 n6 c6,.int .i64 m.next,.slice B6 k6 d6]:=Rk
    replace hE6:=hE6.bl b35
    replace hC6:=hC6.bl b35
    have hin:=number_iff.1 HR1.out.1
    clear HQ b35
    by_cases hsi:dk.si<i
    ·have HQ2:=hide (show RR=foldG { dk with si:=i,st:=t,m:=m,b:=i,bt:=t,L:=restL dk.b dk.bt dk.L i t } (rs.drop (k+1)) by
      have h:=HQ'.out
      have e:stepD dk (.load i t m)=({ dk with si:=i,st:=t,m:=m,b:=i,bt:=t,L:=restL dk.b dk.bt dk.L i t },0):=by simp only [stepD];rw [if_pos hsi]
      rw [e] at h;exact h)
     have HOK2:=hide (show ({ dk with si:=i,st:=t,m:=m,b:=i,bt:=t,L:=restL dk.b dk.bt dk.L i t }:Dk).Ok by
      have h:=stepD_ok (r:=.load i t m) HOK.out HR1.out
      have e:stepD dk (.load i t m)=({ dk with si:=i,st:=t,m:=m,b:=i,bt:=t,L:=restL dk.b dk.bt dk.L i t },0):=by simp only [stepD];rw [if_pos hsi]
      rw [e] at h;exact h)
     have hlg:=log_good HOK.out.log
     have HRT:=hide (fun w' (b':Below w5.heap.size w5 w')=>rest_any dk.b dk.bt i t m.now m.next I1 A6 B6 m1 e1 n6 c6 k6 d6 dk.L w' ⟨by omega,by omega⟩ ⟨by omega,by omega⟩ (by omega) (by omega) (hI.bl b').sl HOK.out.log)
     generalize restL dk.b dk.bt dk.L i t=RL at *
     clear HQ' hlg HREC
     (try clear cRk fRk);have cRk:=Rk.cell;have fRk:=Rk.frozen;(try clear cD1 fD1);have cD1:=D1.cell;have fD1:=D1.frozen
     go_upto_region 18 with fail
     clear cRk fRk cD1 fD1
     have bd:Below w5.heap.size w5 w5.drew:=(Below.refl _ w5).drew
     refine wp_region_x (l:=[10]) (S:=fun w'=>w'.cell? ⟨wr.heap.size,14,none⟩=some (.int .i64 i)∧w'.cell? ⟨wr.heap.size,15,none⟩=some (.int .i64 t)∧w'.cell? ⟨wr.heap.size,16,none⟩=some (.int .i64 m.now)∧w'.cell? ⟨wr.heap.size,17,none⟩=some (.slice A6 n6 c6)∧w'.cell? ⟨wr.heap.size,18,none⟩=some (.int .i64 m.next)∧w'.cell? ⟨wr.heap.size,19,none⟩=some (.slice B6 k6 d6)∧w'.cell? ⟨gD,8,none⟩=some (.int .i64 dk.b)∧w'.cell? ⟨gD,9,none⟩=some (.int .i64 dk.bt)∧w'.cell? ⟨gD,10,none⟩=some (.slice I1 m1 e1)) (by kernel_rfl) ⟨Rk.drew.cell 14,Rk.drew.cell 15,Rk.drew.cell 16,Rk.drew.cell 17,Rk.drew.cell 18,Rk.drew.cell 19,D1.drew.cell 8,D1.drew.cell 9,D1.drew.cell 10⟩ (fun hS=>?_)
     replace Rk:=Rk.drew;replace Z:=Z.drew;replace D1:=D1.drew;replace hE6:=hE6.bl bd;replace hC6:=hC6.bl bd;replace q5:=q5.drew
     clear hE hC hI
     obtain ⟨wd,hwd⟩:∃ wd,wd=w5.drew:=⟨_,rfl⟩
     rw [←hwd] at hS Rk Z D1 hE6 hC6 q5 bd ⊢
     clear hwd
     refine wpAnyX_tq 0 ?_
     refine wpAnyX_tq 1 ?_
     refine wpAnyX_tq 2 ?_
     refine wpAnyX_tq 3 ?_
     refine wpAnyX_tq 4 ?_
     refine wpAnyX_tq 5 ?_
     refine wpAnyX_tq 7 ?_
     refine wpAnyX_oq 6 fun K hK=>?_
     go_wp2_with fail
     refine (HRT.out _ bd).mono ?_
     rintro e w6 ⟨I6,m6,e6,rfl,⟨BI,hI6⟩,b6⟩
     replace hI6:OI w6 I6 m6 e6 RL:=⟨BI,hI6⟩
     go_wp2_with fail
     replace Z:=Z.below' b6
     replace D1:=D1.below' b6
     replace Rk:=Rk.below' b6
     replace hE6:=hE6.bl b6
     replace hC6:=hC6.bl b6
     have q6:=bstep q5 b6
     refine hK.out _ _ (Or.inr ⟨Rk.cell 14,Rk.cell 15,Rk.cell 16,Rk.cell 17,Rk.cell 18,Rk.cell 19,D1.cell 8,D1.cell 9,D1.cell 10⟩) (fun hS=>?_)
     replace hS:=hS.resolve_left (by decide)
     clear hK K b6 bd HRT q5
     have HE7:=hide (disk_snap (.int .i64 i) (.int .i64 t) (.int .i64 m.now) (.slice A6 n6 c6) (.int .i64 m.next) (.slice B6 k6 d6) D1)
     have hg6:=D1.lt
     have hq6:=q6.size
     refine wpAnyX_oq 8 fun K hK=>?_
     (try clear cD1 fD1);have cD1:=D1.cell;have fD1:=D1.frozen
     go_wp2_with fail
     clear cD1 fD1
     have hne7:wr.heap.size≠gD:=by have:=HZG.out;omega
     refine hK.out _ _ (Or.inr ⟨(grown_blk Rk HE7.out.2.1 hne7).cell 14,(grown_blk Rk HE7.out.2.1 hne7).cell 15,(grown_blk Rk HE7.out.2.1 hne7).cell 16,(grown_blk Rk HE7.out.2.1 hne7).cell 17,(grown_blk Rk HE7.out.2.1 hne7).cell 18,(grown_blk Rk HE7.out.2.1 hne7).cell 19,HE7.out.1.cell 8,HE7.out.1.cell 9,HE7.out.1.cell 10⟩) (fun hS=>?_)
     replace hS:=hS.resolve_left (by decide)
     clear hK K
     obtain ⟨w7,hw7⟩:∃ w7,w7=(((((w6.setCell ⟨gD,2,none⟩ (.int .i64 i)).setCell ⟨gD,3,none⟩ (.int .i64 t)).setCell ⟨gD,4,none⟩ (.int .i64 m.now)).setCell ⟨gD,5,none⟩ (.slice A6 n6 c6)).setCell ⟨gD,6,none⟩ (.int .i64 m.next)).setCell ⟨gD,7,none⟩ (.slice B6 k6 d6):=⟨_,rfl⟩
     rw [←hw7] at hS HE7 ⊢
     clear hw7
     have Z7:=grown_blk Z HE7.out.2.1 (by have:=hzD.out;omega)
     have q7:=below_grow q6 HE7.out.2.1 q6.size (by have:=hzD.out;omega)
     have hE7:=hE6.grown D1 HE7.out.2.1
     have hC7:=hC6.grown D1 HE7.out.2.1
     have hI7:=hI6.grew D1 HE7.out.2.1
     have D7:=HE7.out.1
     clear HE7 D1 Z hE6 hC6 hI6 Rk
     have HE8:=hide (disk_log (.int .i64 i) (.int .i64 t) (.slice I6 m6 e6) D7)
     have hg7:=D7.lt
     refine wpAnyX_tq 9 ?_
     refine wpAnyX_oq 10 fun K hK=>?_
     (try clear cD7 fD7);have cD7:=D7.cell;have fD7:=D7.frozen
     go_wp2_with fail
     clear cD7 fD7
     refine hK.out _ _ (Or.inl (by decide)) (fun _=>?_)
     clear hK K
     refine wpAnyX_done (by kernel_rfl) ?_ _
     obtain ⟨w8,hw8⟩:∃ w8,w8=((w7.setCell ⟨gD,8,none⟩ (.int .i64 i)).setCell ⟨gD,9,none⟩ (.int .i64 t)).setCell ⟨gD,10,none⟩ (.slice I6 m6 e6):=⟨_,rfl⟩
     rw [←hw8] at HE8 ⊢
     clear hw8 hS
     have Z8:=grown_blk Z7 HE8.out.2.1 (by have:=hzD.out;omega)
     have q8:=below_grow q7 HE8.out.2.1 q7.size (by have:=hzD.out;omega)
     have DD:DkAt w8 gD { dk with si:=i,st:=t,m:=m,b:=i,bt:=t,L:=RL }:=⟨A6,n6,c6,B6,k6,d6,I6,m6,e6,HE8.out.1,hE7.grown D7 HE8.out.2.1,hC7.grown D7 HE8.out.2.1,hI7.grew D7 HE8.out.2.1⟩
     clear HE8 D7 Z7 hE7 hC7 hI7 hne7
     go_wp2_with fail
     go_roundw
     case rel=>exact ⟨k+1,{ dk with si:=i,st:=t,m:=m,b:=i,bt:=t,L:=RL },by omega,by go_num,Z8,DD,HQ2,HOK2,q8⟩
     case measure=>simp [intOf];omega
    ·have HQ2:=hide (show RR=foldG dk (rs.drop (k+1)) by
      have h:=HQ'.out
      have e:stepD dk (.load i t m)=(dk,0):=by simp only [stepD];rw [if_neg hsi]
      rw [e] at h;exact h)
     have DD:DkAt w5 gD dk:=⟨A1,n1,c1,B1,k1,d1,I1,m1,e1,D1,hE,hC,hI⟩
     clear HQ' HREC hE6 hC6 hE hC hI
     (try clear cRk fRk);have cRk:=Rk.cell;have fRk:=Rk.frozen;(try clear cD1 fD1);have cD1:=D1.cell;have fD1:=D1.frozen
     go_wp2_with fail
     go_roundw
     case rel=>exact ⟨k+1,dk,by omega,by go_num,Z,DD,HQ2,HOK,q5⟩
     case measure=>simp [intOf];omega
  ·obtain rfl:k=rs.length:=by omega
   have HQ2:=hide (foldG_end (Nat.le_refl _) HQ)
   obtain ⟨A1,n1,c1,B1,k1,d1,I1,m1,e1,D1,hE,hC,hI⟩:=D
   have HEN:=hide (Encode_own HOK.out.mach A1 B1 n1 c1 k1 d1 wr hE hC)
   have HDE:=hide (fun A n c w' (h:Sl w' 1 A n c (byteRows (encB dk.m)))=>Decode_any A n c (encB dk.m) w' h (u8s_mach HOK.out.mach))
   rw [decM_back HOK.out.mach] at HDE
   unfold DecMPost at HDE
   have hI1:=hI.len
   have hI2:=(log_good HOK.out.log).2.2.2.1
   have HCL:=hide (fun w' (h':OI w' I1 m1 e1 dk.L)=>Clone_item I1 m1 e1 (itemRows dk.L) w' h'.sl (item_one _) (by omega))
   clear HQ HRS hI1 hI2
   generalize encB dk.m=bs at *
   (try clear cD1 fD1);have cD1:=D1.cell;have fD1:=D1.frozen
   go_wp2_with fail
   refine HEN.out.mono ?_
   rintro e w6 ⟨A6,n6,c6,rfl,O6,b6⟩
   replace Z:=Z.below' b6
   replace D1:=D1.below' b6
   have q6:=bstep q b6
   clear cD1 fD1 hE hC HEN q
   go_wp2_with fail
   refine (HDE.out _ _ _ _ O6.sl').mono ?_
   rintro e w7 ⟨A7,n7,c7,B7,k7,d7,rfl,hE7,hC7,b7⟩
   replace Z:=Z.below' b7
   replace D1:=D1.below' b7
   have q7:=bstep q6 b7
   have b67:=bstep b6 b7
   have hg7:=D1.lt
   have HE8:=hide (disk_mach (.int .i64 dk.m.now) (.slice A7 n7 c7) (.int .i64 dk.m.next) (.slice B7 k7 d7) D1)
   clear b6 b7 O6 HDE q6
   (try clear cD1 fD1);have cD1:=D1.cell;have fD1:=D1.frozen
   go_upto_region 22 with fail
   clear cD1 fD1
   obtain ⟨w8,hw8⟩:∃ w8,w8=(((w7.setCell ⟨gD,4,none⟩ (.int .i64 dk.m.now)).setCell ⟨gD,5,none⟩ (.slice A7 n7 c7)).setCell ⟨gD,6,none⟩ (.int .i64 dk.m.next)).setCell ⟨gD,7,none⟩ (.slice B7 k7 d7):=⟨_,rfl⟩
   rw [←hw8] at HE8 ⊢
   clear hw8
   have Z8:=grown_blk Z HE8.out.2.1 (by have:=hzD.out;omega)
   have q8:=below_grow q7 HE8.out.2.1 q7.size (by have:=hzD.out;omega)
   have hE8:=hE7.grown D1 HE8.out.2.1
   have hC8:=hC7.grown D1 HE8.out.2.1
   have D8:=HE8.out.1
   have hI8:=(hI.bl b67).grew D1 HE8.out.2.1
   clear HE8 D1 Z hE7 hC7 hI b67 q7
   (try clear cD8 fD8);have cD8:=D8.cell;have fD8:=D8.frozen
   go_wp2_with fail
   refine (HCL.out _ hI8).mono ?_
   rintro e w9 ⟨v9,rfl,O9,b9⟩
   obtain ⟨I9,m9,e9,rfl⟩:=own_slice O9
   have Z9:=Z8.below' b9
   have D9:=D8.below' b9
   have hE9:=hE8.bl b9
   have hC9:=hC8.bl b9
   have q9:=bstep q8 b9
   have hg9:=D9.lt
   have HE10:=hide (one_step (w:=w9) (cs':=#[.int .i64 dk.term,.int .i64 dk.who,.int .i64 dk.si,.int .i64 dk.st,.int .i64 dk.m.now,.slice A7 n7 c7,.int .i64 dk.m.next,.slice B7 k7 d7,.int .i64 dk.b,.int .i64 dk.bt,.slice I9 m9 e9]) 10 (.slice I9 m9 e9) ⟨D9,grown_refl _ _,rfl⟩ rfl)
   clear b9 cD8 fD8 D8 Z8 hE8 hC8 hI8 q8 HCL
   (try clear cD9 fD9);have cD9:=D9.cell;have fD9:=D9.frozen
   go_upto_region 23 with fail
   obtain ⟨w10,hw10⟩:∃ w10,w10=w9.setCell ⟨gD,10,none⟩ (.slice I9 m9 e9):=⟨_,rfl⟩
   rw [←hw10] at HE10 ⊢
   clear hw10 cD9 fD9
   have Z10:=grown_blk Z9 HE10.out.2.1 (by have:=hzD.out;omega)
   have q10:=below_grow q9 HE10.out.2.1 q9.size (by have:=hzD.out;omega)
   have hE10:=hE9.grown D9 HE10.out.2.1
   have hC10:=hC9.grown D9 HE10.out.2.1
   have hI10:=OI.grew ⟨_,O9⟩ D9 HE10.out.2.1
   have D10:=HE10.out.1
   clear HE10 D9 Z9 hE9 hC9 O9 q9
   go_wp2_with (first|(refine wpList_load_blk rfl 124 _ rfl rfl D10 Tryz.underlying124 rfl disk_size ?_)|(refine wpList_store_blk rfl 124 _ _ rfl (cells:=#[.int .i64 dk.term,.int .i64 dk.who,.int .i64 dk.si,.int .i64 dk.st,.int .i64 dk.m.now,.slice A7 n7 c7,.int .i64 dk.m.next,.slice B7 k7 d7,.int .i64 dk.b,.int .i64 dk.bt,.slice I9 m9 e9]) rfl rfl Z10 rfl disk_size (all_one rfl) ?_;intro w11 Z11 gr11 sz11))
   have HP:=hide (show FoldPost RR w (.returned (.tuple #[.agg #[.int .i64 dk.term,.int .i64 dk.who,.int .i64 dk.si,.int .i64 dk.st,.int .i64 dk.m.now,.slice A7 n7 c7,.int .i64 dk.m.next,.slice B7 k7 d7,.int .i64 dk.b,.int .i64 dk.bt,.slice I9 m9 e9],.int .i64 0])) w11 from ⟨fun _=>by rw [HQ2.out];exact ⟨A7,n7,c7,B7,k7,d7,I9,m9,e9,rfl,hE10.grown Z10 gr11,hC10.grown Z10 gr11,hI10.grew Z10 gr11⟩,fun h=>absurd (by rw [HQ2.out]) h,below_grow q10 gr11 q10.size (Nat.le_refl _)⟩)
   clear gr11 sz11 D10 Z10 hE10 hC10 hI10
   go_wp2_with fail
   have hlv:(loadVar 124 ⟨w.heap.size,0,none⟩).run Tryz.prog w11 = .ok (.agg #[.int .i64 dk.term,.int .i64 dk.who,.int .i64 dk.si,.int .i64 dk.st,.int .i64 dk.m.now,.slice A7 n7 c7,.int .i64 dk.m.next,.slice B7 k7 d7,.int .i64 dk.b,.int .i64 dk.bt,.slice I9 m9 e9]) w11:=run_loadVar_row w11 _ _ _ _ (0,0) _ Z11 Tryz.underlying124 rfl disk_size
   refine bodyPost_ret (v:=.tuple #[.agg #[.int .i64 dk.term,.int .i64 dk.who,.int .i64 dk.si,.int .i64 dk.st,.int .i64 dk.m.now,.slice A7 n7 c7,.int .i64 dk.m.next,.slice B7 k7 d7,.int .i64 dk.b,.int .i64 dk.bt,.slice I9 m9 e9],.int .i64 0]) ?_ rfl HP.out
   simp only [results,Tryz.results137]
   simp [asAddr,Act.put,hlv]
end Go.Proofs.YtgdcofbnbiclmaaGreatDoor

