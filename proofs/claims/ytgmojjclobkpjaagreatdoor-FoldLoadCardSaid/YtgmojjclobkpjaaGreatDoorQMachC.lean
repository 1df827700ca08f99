import Derived.Test.YtgmojjclobkpjaaGreatDoorQCli
import Derived.Test.YtgmojjclobkpjaaGreatDoorQCliO
import Derived.Test.YtgmojjclobkpjaaGreatDoorQHeldX
import Derived.Test.YtgmojjclobkpjaaGreatDoorQCliE
namespace Go.Proofs.YtgmojjclobkpjaaGreatDoor
set_option linter.all false
set_option maxHeartbeats 32000000
open Go.RowKit
def callV (c:CallM):Value:=.agg #[.int .i64 c.client,.int .i64 c.seq,.int .i64 c.cmd.kind,.string c.cmd.key,.string c.cmd.field,.string c.cmd.text,.int .i64 c.cmd.n]
theorem whole_call {w2:World} {b:Nat} {x0 x1 x2 x3 x4 x5 x6:Value} (u0 u1 u2 u3 u4 u5 u6:Value) (R:Blk w2 b 33 #[x0,x1,x2,x3,x4,x5,x6]) :
  Blk (((((((w2.setCell ⟨b,0,none⟩ (u0)).setCell ⟨b,1,none⟩ (u1)).setCell ⟨b,2,none⟩ (u2)).setCell ⟨b,3,none⟩ (u3)).setCell ⟨b,4,none⟩ (u4)).setCell ⟨b,5,none⟩ (u5)).setCell ⟨b,6,none⟩ (u6)) b 33 #[u0,u1,u2,u3,u4,u5,u6]∧w2.grownBy (((((((w2.setCell ⟨b,0,none⟩ (u0)).setCell ⟨b,1,none⟩ (u1)).setCell ⟨b,2,none⟩ (u2)).setCell ⟨b,3,none⟩ (u3)).setCell ⟨b,4,none⟩ (u4)).setCell ⟨b,5,none⟩ (u5)).setCell ⟨b,6,none⟩ (u6)) (some b)∧(((((((w2.setCell ⟨b,0,none⟩ (u0)).setCell ⟨b,1,none⟩ (u1)).setCell ⟨b,2,none⟩ (u2)).setCell ⟨b,3,none⟩ (u3)).setCell ⟨b,4,none⟩ (u4)).setCell ⟨b,5,none⟩ (u5)).setCell ⟨b,6,none⟩ (u6)).heap.size=w2.heap.size:=by
 have R0:=R.set' (i:=0) (u:=u0) rfl
 have R1:=R0.set' (i:=1) (u:=u1) rfl
 have R2:=R1.set' (i:=2) (u:=u2) rfl
 have R3:=R2.set' (i:=3) (u:=u3) rfl
 have R4:=R3.set' (i:=4) (u:=u4) rfl
 have R5:=R4.set' (i:=5) (u:=u5) rfl
 have R6:=R5.set' (i:=6) (u:=u6) rfl
 exact ⟨R6,grown_trans (grown_trans (grown_trans (grown_trans (grown_trans (grown_trans (grown_setRow_cell w2 b 0 u0) (grown_setRow_cell _ b 1 u1)) (grown_setRow_cell _ b 2 u2)) (grown_setRow_cell _ b 3 u3)) (grown_setRow_cell _ b 4 u4)) (grown_setRow_cell _ b 5 u5)) (grown_setRow_cell _ b 6 u6),by simp⟩
def cmdW (c:Cmd):Value:=.agg #[.int .i64 c.kind,.string c.key,.string c.field,.string c.text,.int .i64 c.n]
theorem CommandM_any (r:RawD) (hr:r.ok) (w:World):Calls Tryz.prog 63 #[.agg #[.int .i64 r.kind,.int .i64 r.key,.int .i64 r.field,.int .i64 r.n,.string r.text]] w fun e w'=>e = .returned (cmdW (cmdR r))∧Below w.heap.size w w':=by
 obtain ⟨⟨k1,k2⟩,⟨y1,y2⟩,⟨f1,f2⟩,⟨n1,n2⟩,hx⟩:=hr
 exact Command_any r.kind r.key r.field r.n r.text w k1 k2 y1 y2 f1 f2 n1 n2 hx (picked r.kind 22) rfl (picked_lo _ _ (by omega)) (picked_hi _ _ (by omega))
theorem seq_next {n off:Int} {l:List Cl} {k:Nat} (hk:k<l.length):(l.take (k+1)).foldl (seqStep n off) 1=seqStep n off ((l.take k).foldl (seqStep n off) 1) l[k]:=by
 rw [List.take_succ_eq_append_getElem hk,List.foldl_append];rfl
set_option maxRecDepth 100000 in
theorem call_any (m:Mach) (d:DeedD) (hd:d.ok) (hsq:∀ x∈m.clis,0≤x.seq∧x.seq≤1048576) (hfew:m.clis.length≤1048576) (A B:Option Addr) (na ca nb cb:Nat) (w:World) (hC:Ci w B nb cb m.clis) :
  Calls Tryz.prog 41 #[.agg #[.int .i64 m.now,.slice A na ca,.int .i64 m.next,.slice B nb cb],.agg d.cells.toArray] w fun e w'=>e = .returned (callV (callD m d))∧Below w.heap.size w w':=by
 obtain ⟨R,hR⟩:∃ R,R=callD m d:=⟨_,rfl⟩
 rw [←hR]
 unfold callD at hR
 have hmk:=fun w=>CommandM_any d.raw hd.2.2.2 w
 have p0:=picked_lo d.client 7 (by omega)
 have p1:=picked_hi d.client 7 (by omega)
 have hp:=fun w=>picked_any d.client 7 w hd.1.1 hd.1.2 (by omega) (by omega)
 have o0:=picked_lo d.off 3 (by omega)
 have o1:=picked_hi d.off 3 (by omega)
 have ho:=fun w=>picked_any d.off 3 w hd.2.1.1 hd.2.1.2 (by omega) (by omega)
 have hst:∀ s x,seqStep (picked d.client 7) d.off s x=if x.id=picked d.client 7 then max (x.seq+1 - picked d.off 3 / 2) 1 else s:=fun _ _=>rfl
 have hsn:=fun k (hk:k<m.clis.length)=>seq_next (n:=picked d.client 7) (off:=d.off) hk
 have hse:seqOf (picked d.client 7) d.off m.clis=(m.clis.take m.clis.length).foldl (seqStep (picked d.client 7) d.off) 1:=by rw [List.take_length];rfl
 rw [hse] at hR
 have hz:(m.clis.take 0).foldl (seqStep (picked d.client 7) d.off) 1=1:=rfl
 generalize cmdR d.raw=cm at *
 obtain ⟨sq,hsqe⟩:∃ sq:Nat→Int,sq=fun k=>(m.clis.take k).foldl (seqStep (picked d.client 7) d.off) 1:=⟨_,rfl⟩
 have hsn2:∀ k (hk:k<m.clis.length),sq (k+1)=if m.clis[k].id=picked d.client 7 then max (m.clis[k].seq+1 - picked d.off 3 / 2) 1 else sq k:=fun k hk=>by rw [hsqe];simp only;rw [hsn k hk,hst]
 have hR2:R=if picked d.client 7=0 then zeroCall_ else ⟨picked d.client 7,sq m.clis.length,cm⟩:=by rw [hR,hsqe]
 have hz2:sq 0=1:=by rw [hsqe];rfl
 clear hsqe hst hsn hse hz hR
 generalize picked d.client 7=p at *
 generalize picked d.off 3=o at *
 have hlen:=hC.sl.len
 obtain ⟨now,ents,next,clis⟩:=m
 simp only at hsn2 hR2 hsq hfew hlen hC ⊢
 obtain ⟨dc,doff,dw,⟨rk,ry,rf,rr,rx⟩⟩:=d
 obtain ⟨ck,cy,cf,ct,cn⟩:=cm
 simp only [cmdW] at hp ho hmk
 have HP:=hide hp;have HO:=hide ho;have HMK:=hide hmk;have HSN:=hide hsn2;have HR:=hide hR2;have HZ:=hide hz2;have HSQ:=hide hsq
 clear hp ho hmk hsn2 hR2 hz2 hsq
 simp only [DeedD.cells]
 have M0:Blk (((w.alloc (.cells #[.int .i64 now,.slice A na ca,.int .i64 next,.slice B nb cb] 41)).alloc (.cells #[.int .i64 dc,.int .i64 doff,.int .i64 dw,.int .i64 rk,.int .i64 ry,.int .i64 rf,.int .i64 rr,.string rx] 62)).alloc (.cells #[.int .i64 0,.int .i64 0,.int .i64 0,.string { data:=#[] },.string { data:=#[] },.string { data:=#[] },.int .i64 0] 33)) w.heap.size 41 #[.int .i64 now,.slice A na ca,.int .i64 next,.slice B nb cb]:=((Blk.new _ _ _).alloc _).alloc _
 have D0:Blk (((w.alloc (.cells #[.int .i64 now,.slice A na ca,.int .i64 next,.slice B nb cb] 41)).alloc (.cells #[.int .i64 dc,.int .i64 doff,.int .i64 dw,.int .i64 rk,.int .i64 ry,.int .i64 rf,.int .i64 rr,.string rx] 62)).alloc (.cells #[.int .i64 0,.int .i64 0,.int .i64 0,.string { data:=#[] },.string { data:=#[] },.string { data:=#[] },.int .i64 0] 33)) (w.heap.size+1) 62 #[.int .i64 dc,.int .i64 doff,.int .i64 dw,.int .i64 rk,.int .i64 ry,.int .i64 rf,.int .i64 rr,.string rx]:=(Blk.new' _ _ _ (by simp)).alloc _
 have R0:Blk (((w.alloc (.cells #[.int .i64 now,.slice A na ca,.int .i64 next,.slice B nb cb] 41)).alloc (.cells #[.int .i64 dc,.int .i64 doff,.int .i64 dw,.int .i64 rk,.int .i64 ry,.int .i64 rf,.int .i64 rr,.string rx] 62)).alloc (.cells #[.int .i64 0,.int .i64 0,.int .i64 0,.string { data:=#[] },.string { data:=#[] },.string { data:=#[] },.int .i64 0] 33)) (w.heap.size+2) 33 #[.int .i64 0,.int .i64 0,.int .i64 0,.string { data:=#[] },.string { data:=#[] },.string { data:=#[] },.int .i64 0]:=Blk.new' _ _ _ (by simp)
 have q0:Below w.heap.size w (((w.alloc (.cells #[.int .i64 now,.slice A na ca,.int .i64 next,.slice B nb cb] 41)).alloc (.cells #[.int .i64 dc,.int .i64 doff,.int .i64 dw,.int .i64 rk,.int .i64 ry,.int .i64 rf,.int .i64 rr,.string rx] 62)).alloc (.cells #[.int .i64 0,.int .i64 0,.int .i64 0,.string { data:=#[] },.string { data:=#[] },.string { data:=#[] },.int .i64 0] 33)):=below_by
 go_enter Tryz.func41,Tryz.ntmps41
 go_wp2_with fail
 refine (HP.out _).mono ?_
 rintro e w1 ⟨rfl,rfl⟩
 obtain ⟨w1,hw1⟩:∃ w1,w1=(((w.alloc (.cells #[.int .i64 now,.slice A na ca,.int .i64 next,.slice B nb cb] 41)).alloc (.cells #[.int .i64 dc,.int .i64 doff,.int .i64 dw,.int .i64 rk,.int .i64 ry,.int .i64 rf,.int .i64 rr,.string rx] 62)).alloc (.cells #[.int .i64 0,.int .i64 0,.int .i64 0,.string { data:=#[] },.string { data:=#[] },.string { data:=#[] },.int .i64 0] 33)):=⟨_,rfl⟩
 rw [←hw1] at M0 D0 R0 q0 ⊢
 clear hw1 HP
 have hrl:=R0.lt
 have hs1:w.heap.size<w1.heap.size:=by omega
 have hs2:w.heap.size+1<w1.heap.size:=by omega
 by_cases hp0:p=0
 ·have hr:=HR.out
  rw [if_pos hp0] at hr
  subst hr
  subst hp0
  obtain ⟨Z9,gr9,sz9⟩:=whole_call (.int .i64 0) (.int .i64 0) (.int .i64 0) (.string { data:=#[] }) (.string { data:=#[] }) (.string { data:=#[] }) (.int .i64 0) R0
  have q9:=hide (below_grow q0 gr9 q0.size (by omega))
  have cZ9:=hide Z9.cell
  clear Z9 gr9 sz9
  (try clear cR0 fR0);have cR0:=R0.cell;have fR0:=R0.frozen
  go_wp2_with fail
  have cZ9:=cZ9.out
  refine bodyPost_ret (v:=.agg #[.int .i64 0,.int .i64 0,.int .i64 0,.string { data:=#[] },.string { data:=#[] },.string { data:=#[] },.int .i64 0]) ?_ rfl ⟨rfl,q9.out⟩
  simp [results,Tryz.results41,go_sem,cZ9]
 ·have hr0:=HR.out
  rw [if_neg hp0] at hr0
  have hp0':(p == 0)=false:=by simpa using hp0
  have HR2:=hide hr0
  clear HR hr0
  (try clear cD0 fD0);have cD0:=D0.cell;have fD0:=D0.frozen
  go_wp2_with fail
  refine (HMK.out _).mono ?_
  rintro e w2 ⟨rfl,hb2⟩
  replace M0:=M0.bl hb2;replace D0:=D0.bl hb2;replace R0:=R0.bl hb2
  replace q0:=bstep q0 hb2
  clear hb2 HMK cD0 fD0
  have hrl:=R0.lt
  have hs1:w.heap.size<w2.heap.size:=by omega
  have hs2:w.heap.size+1<w2.heap.size:=by omega
  have G0:=Blk.new w2 33 #[.int .i64 p,.int .i64 1,.int .i64 ck,.string cy,.string cf,.string ct,.int .i64 cn]
  have bg:Below w2.heap.size w2 (w2.alloc (.cells #[.int .i64 p,.int .i64 1,.int .i64 ck,.string cy,.string cf,.string ct,.int .i64 cn] 33)):=below_by
  have M1:=M0.below' bg;have D1:=D0.below' bg;have R1:=R0.below' bg;have q1:=bstep q0 bg
  go_wp2_with fail
  obtain ⟨wg,hwg⟩:∃ wg,wg=(w2.alloc (.cells #[.int .i64 p,.int .i64 1,.int .i64 ck,.string cy,.string cf,.string ct,.int .i64 cn] 33)):=⟨_,rfl⟩
  rw [←hwg] at G0 M1 D1 R1 q1 ⊢
  clear hwg bg M0 D0 R0 q0
  go_loopw [7] (fun s7 wr=>∃ k:Nat,k≤nb∧s7 = .int .i64 (k:Int)∧∃ v:Int,Hid (v=sq k)∧Blk wr w.heap.size 41 #[.int .i64 now,.slice A na ca,.int .i64 next,.slice B nb cb]∧Blk wr (w.heap.size+1) 62 #[.int .i64 dc,.int .i64 doff,.int .i64 dw,.int .i64 rk,.int .i64 ry,.int .i64 rf,.int .i64 rr,.string rx]∧Blk wr (w.heap.size+2) 33 #[.int .i64 0,.int .i64 0,.int .i64 0,.string { data:=#[] },.string { data:=#[] },.string { data:=#[] },.int .i64 0]∧Blk wr w2.heap.size 33 #[.int .i64 p,.int .i64 v,.int .i64 ck,.string cy,.string cf,.string ct,.int .i64 cn]∧Below w.heap.size w wr) (fun s7 _=>nb - (intOf s7).toNat)
  case atStart=>exact ⟨0,by omega,rfl,1,hide HZ.out.symm,M1,D1,R1,G0,q1⟩
  case round=>
   obtain ⟨k,hk,rfl,v,HV,Mr,Dr,Rr,Gr,qr⟩:=hrel
   clear M1 D1 R1 G0 q1
   have lr:=Rr.lt
   have lg:=Gr.lt
   have hs1:w.heap.size<wr.heap.size:=by omega
   have hs2:w.heap.size+1<wr.heap.size:=by omega
   by_cases hlt:k<nb
   ·have hkl:k<clis.length:=by omega
    obtain ⟨b,off,Y,mm,d,rfl,hbb,⟨i0,i1,i2,i3,i4,i5,i6⟩,-⟩:=(hC.bl qr).sl.at_ hkl
    have hnx:=HSN.out k hkl
    have hsq:=HSQ.out _ (List.getElem_mem hkl)
    generalize clis[k]=x at i0 i1 i2 i3 i4 i5 hnx hsq
    obtain ⟨xi,xs,xt,⟨xc,xx,xn,xl⟩⟩:=x
    simp only at i0 i1 hnx hsq
    clear i2 i3 i4 i5 i6
    have hz1:(0:Int)≤(k:Int):=by omega
    have hz2:(k:Int)<(nb:Int):=by omega
    have HNX:=hide hnx
    clear hnx
    by_cases he:xi=p
    ·have hnx:=HNX.out
     rw [if_pos he] at hnx
     subst he
     (try clear cMr fMr);have cMr:=Mr.cell;have fMr:=Mr.frozen
     go_wp2_with fail
     have hsG:∀ w',Below wr.heap.size wr w'→(w'.cell? ⟨w.heap.size,3,none⟩=some (.slice (some ⟨b,off,none⟩) nb cb)∧w'.cell? ⟨b,off+k*7+1,none⟩=some (.int .i64 xs)∧w'.cell? ⟨w.heap.size+1,1,none⟩=some (.int .i64 doff)):=fun w' q=>⟨(Mr.below' q).cell 3,(q.cell (p:=⟨b,off+k*7+1,none⟩) hbb).trans i1,(Dr.below' q).cell 1⟩
     refine wp_region_x (l:=[14]) (S:=fun w'=>w'.cell? ⟨w.heap.size,3,none⟩=some (.slice (some ⟨b,off,none⟩) nb cb)∧w'.cell? ⟨b,off+k*7+1,none⟩=some (.int .i64 xs)∧w'.cell? ⟨w.heap.size+1,1,none⟩=some (.int .i64 doff)) (by kernel_rfl) (hsG _ (Below.refl _ wr).drew) (fun hS=>?_)
     clear cMr fMr i0 i1
     have HSG:=hide hsG
     clear hsG
     refine wpAnyX_tq 0 ?_
     refine wpAnyX_tq 1 ?_
     refine wpAnyX_tq 2 ?_
     refine wpAnyX_tq 3 ?_
     refine wpAnyX_tq 4 ?_
     refine wpAnyX_tq 5 ?_
     refine wpAnyX_tq 6 ?_
     refine wpAnyX_tq 7 ?_
     refine wpAnyX_tq 8 ?_
     refine wpAnyX_oq 9 fun K hK=>?_
     go_wp2_with fail
     refine (HO.out _).mono ?_
     rintro e w' ⟨rfl,rfl⟩
     go_wp2_with fail
     refine hK.out _ _ (Or.inr (HSG.out _ (Below.refl _ wr).drew)) (fun hS=>?_)
     replace hS:=hS.resolve_left (by decide)
     clear hK K
     refine wpAnyX_ps 10 ?_
     refine wpAnyX_ps 11 ?_
     refine wpAnyX_oq 12 fun K hK=>?_
     go_wp2_with fail
     refine hK.out _ _ (Or.inr (HSG.out _ (Below.refl _ wr).drew)) (fun hS=>?_)
     replace hS:=hS.resolve_left (by decide)
     clear hK K
     (try clear cGr fGr);have cGr:=Gr.cell;have fGr:=Gr.frozen
     refine wpAnyX_ps 13 ?_
     refine wpAnyX_oq 14 fun K hK=>?_
     go_wp2_with fail
     refine hK.out _ _ (Or.inl (by decide)) (fun hS=>?_)
     clear hK K hS cGr fGr
     refine wpAnyX_done (by kernel_rfl) ?_ _
     have G9:=(Gr.drew.set' (i:=1) (u:=.int .i64 (max (xs+1 - o / 2) 1)) rfl)
     have gr9:=grown_setRow_cell wr.drew w2.heap.size 1 (.int .i64 (max (xs+1 - o / 2) 1))
     have M9:=grown_blk Mr.drew gr9 (by omega)
     have D9:=grown_blk Dr.drew gr9 (by omega)
     have R9:=grown_blk Rr.drew gr9 (by omega)
     have q9:=below_grow qr.drew gr9 (by simp;omega) (by omega)
     obtain ⟨w9,hw9⟩:∃ w9,w9=wr.drew.setCell ⟨w2.heap.size,1,none⟩ (.int .i64 (max (xs+1 - o / 2) 1)):=⟨_,rfl⟩
     have hw9':w9=(wr.setCell ⟨w2.heap.size,1,none⟩ (.int .i64 (max (xs+1 - o / 2) 1))).drew:=by rw [hw9];rfl
     rw [←hw9] at G9 M9 D9 R9 q9
     rw [←hw9']
     clear hw9 hw9' gr9 Gr Mr Dr Rr qr HSG
     go_wp2_with fail
     go_roundw
     case rel=>exact ⟨k+1,by omega,by go_num,_,hide hnx.symm,M9,D9,R9,G9,q9⟩
     case measure=>simp [intOf];omega
    ·have hnx:=HNX.out
     rw [if_neg he] at hnx
     have he':(xi == p)=false:=by simpa using he
     (try clear cMr fMr);have cMr:=Mr.cell;have fMr:=Mr.frozen
     go_wp2_with fail
     go_roundw
     case rel=>exact ⟨k+1,by omega,by go_num,v,hide (HV.out.trans hnx.symm),Mr,Dr,Rr,Gr,qr⟩
     case measure=>simp [intOf];omega
   ·obtain rfl:k=nb:=by omega
    have hr:=HR2.out
    rw [hlen,←HV.out] at hr
    subst hr
    obtain ⟨Z9,gr9,sz9⟩:=whole_call (.int .i64 p) (.int .i64 v) (.int .i64 ck) (.string cy) (.string cf) (.string ct) (.int .i64 cn) Rr
    have q9:=hide (below_grow qr gr9 (by omega) (by omega))
    have cZ9:=hide Z9.cell
    clear Z9 gr9 sz9
    (try clear cMr fMr);have cMr:=Mr.cell;have fMr:=Mr.frozen;(try clear cRr fRr);have cRr:=Rr.cell;have fRr:=Rr.frozen;(try clear cGr fGr);have cGr:=Gr.cell;have fGr:=Gr.frozen
    go_wp2_with fail
    have cZ9:=cZ9.out
    refine bodyPost_ret (v:=.agg #[.int .i64 p,.int .i64 v,.int .i64 ck,.string cy,.string cf,.string ct,.int .i64 cn]) ?_ rfl ⟨rfl,q9.out⟩
    simp [results,Tryz.results41,go_sem,cZ9]
def MachPost (m:Mach) (w:World) (e:Ending) (w':World):Prop:=
 ∃ A n c B k d,e = .returned (.agg #[.int .i64 m.now,.slice A n c,.int .i64 m.next,.slice B k d])∧St w' A n c m.ents∧Ci w' B k d m.clis∧Below w.heap.size w w'
theorem New_any (w:World):Calls Tryz.prog 39 #[] w fun e w'=>e = .returned (.agg #[.int .i64 0,.slice none 0 0,.int .i64 1,.slice none 0 0])∧Below w.heap.size w w':=by
 have Z:=Blk.new w 41 #[.int .i64 0,.slice none 0 0,.int .i64 1,.slice none 0 0]
 have q:Below w.heap.size w (w.alloc (.cells #[.int .i64 0,.slice none 0 0,.int .i64 1,.slice none 0 0] 41)):=below_by
 have cZ:=hide Z.cell
 clear Z
 go_enter Tryz.func39,Tryz.ntmps39
 go_wp2_with fail
 have cZ:=cZ.out
 refine bodyPost_ret (v:=.agg #[.int .i64 0,.slice none 0 0,.int .i64 1,.slice none 0 0]) ?_ rfl ⟨rfl,q⟩
 simp [results,Tryz.results39,go_sem,cZ]
set_option maxRecDepth 100000 in
theorem Machine_any (A:Option Addr) (n c:Nat) (l:List DeedD) (w:World) (hS:Sl w 8 A n c (deedRows l)) (hd:∀ d∈l,d.ok) (hN:Noth w) :
  Calls Tryz.prog 19 #[.slice A n c] w (MachPost (machOf l) w):=by
 have hn:=deed_len hS
 subst hn
 have hlm:=hS.nc
 have hlm':=hS.cm
 unfold maxLen at hlm'
 have HD:=hide hd;clear hd
 have Z0:=Blk.new w 41 #[.int .i64 0,.slice none 0 0,.int .i64 0,.slice none 0 0]
 have q0:Below w.heap.size w (w.alloc (.cells #[.int .i64 0,.slice none 0 0,.int .i64 0,.slice none 0 0] 41)):=below_by
 go_enter Tryz.func19,Tryz.ntmps19
 go_wp2_with fail
 refine (New_any _).mono ?_
 rintro e w1 ⟨rfl,hb1⟩
 replace Z0:=Z0.below' hb1
 replace q0:=bstep q0 hb1
 have hz0:=hide Z0.lt
 clear hb1
 replace Z0:=Z0.alloc (.cells #[.int .i64 0,.slice none 0 0,.int .i64 1,.slice none 0 0] 41)
 have V0:=Blk.new w1 41 #[.int .i64 0,.slice none 0 0,.int .i64 1,.slice none 0 0]
 replace q0:Below w.heap.size w (w1.alloc (.cells #[.int .i64 0,.slice none 0 0,.int .i64 1,.slice none 0 0] 41)):=below_by
 go_wp2_with fail
 obtain ⟨gv,hgv⟩:∃ gv,gv=w1.heap.size:=⟨_,rfl⟩
 obtain ⟨w2,hw2⟩:∃ w2,w2=(w1.alloc (.cells #[.int .i64 0,.slice none 0 0,.int .i64 1,.slice none 0 0] 41)):=⟨_,rfl⟩
 rw [←hw2] at Z0 V0 q0 ⊢
 rw [←hgv] at V0 ⊢
 have hz1:=Z0.lt
 have hgz:w.heap.size<gv:=by have:=hz0.out;omega
 clear hw2 hgv
 go_loopw [4,5] (fun s4 s5 wr=>∃ k:Nat,k≤l.length∧k≤40∧s5 = .int .i64 k∧∃ (m:Mach) (A1:Option Addr) (n1 c1:Nat) (B1:Option Addr) (k1 d1:Nat),s4 = .int .i64 m.now ∧
   (∃ z0 z1 z2 z3,Blk wr w.heap.size 41 #[z0,z1,z2,z3])∧Blk wr gv 41 #[.int .i64 m.now,.slice A1 n1 c1,.int .i64 m.next,.slice B1 k1 d1]∧St wr A1 n1 c1 m.ents∧Ci wr B1 k1 d1 m.clis ∧
   Hid (machOf l=((l.take 40).drop k).foldl stepM m)∧Hid (MInv k m)∧Below w.heap.size w wr)
  (fun _ s5 _=>l.length - (intOf s5).toNat)
 case atStart=>exact ⟨0,by omega,by omega,rfl,newM,none,0,0,none,0,0,rfl,⟨_,_,_,_,Z0⟩,V0,St.nil _,Ci.nil _,hide rfl,hide new_inv,q0⟩
 case round=>
  obtain ⟨k,hk',hk40,rfl,m,A1,n1,c1,B1,k1,d1,rfl,⟨z0,z1,z2,z3,Z⟩,V,M,C,HQ,HM,hbr⟩:=hrel
  clear Z0 V0 q0 hz1
  have hbs:=hbr.size
  have hv1:=V.lt
  have hz1:=Z.lt
  by_cases hlt:k<l.length∧k<40
  ·obtain ⟨hlt,hlt40⟩:=hlt
   obtain ⟨b,off,rfl,hbb,R⟩:=(hS.below hbr).deed hlt
   have HQ':=mach_step hlt hlt40 HQ
   have hdk:(l[k]).ok:=HD.out _ (List.getElem_mem hlt)
   generalize l[k]=r at R HQ' hdk
   have hinv:=HM.out
   have h0:=hinv.ok.sto.now0
   have hnow:=hinv.now
   have p0:=picked_lo r.wait 8 (by omega)
   have p1:=picked_hi r.wait 8 (by omega)
   have hpk:=fun w=>picked_any r.wait 8 w hdk.2.2.1.1 hdk.2.2.1.2 (by omega) (by omega)
   have hmk:=fun w' (h:Ci w' B1 k1 d1 m.clis)=>call_any m r hdk (fun x hx=>⟨(hinv.ok.cli x hx).seq0,by have:=hinv.seq x hx;omega⟩) (by have:=hinv.ok.few;omega) A1 B1 n1 c1 k1 d1 w' h
   have hmay:=step_inv hinv (by omega) r
   have hcc:=callD_ok hinv (by omega) r
   have hDo:=fun w' hE hC hN=>DoM_any hinv.ok (callD m r) (m.now+picked r.wait 8) _ (apply_do hinv.ok (t:=m.now+picked r.wait 8) (by omega) (by omega) hcc) (by omega) (by omega) A1 B1 n1 c1 k1 d1 w' hE hC hN
   have e1:(doM (laterM m (m.now+picked r.wait 8)) (callD m r)).1=stepM m r:=rfl
   rw [e1] at hDo
   have e2:(stepM m r).now=m.now+picked r.wait 8:=doM_now
   clear e1 hcc hinv
   generalize (doM (laterM m (m.now+picked r.wait 8)) (callD m r)).2=RE at *
   generalize stepM m r=m' at *
   obtain ⟨dc,doff,dw,⟨rk,ry,rf,rr,rx⟩⟩:=r
   simp only [DeedD.cells] at hmk
   simp only at p0 p1 hpk hmk hDo hmay e2
   generalize picked dw 8=p at *
   generalize callD m ⟨dc,doff,dw,⟨rk,ry,rf,rr,rx⟩⟩=cm at *
   obtain ⟨cc,cs,⟨ck,cy,cf,ct,cn⟩⟩:=cm
   obtain ⟨rc,rt,rn,rl⟩:=RE
   obtain ⟨now,ents,next,clis⟩:=m
   obtain ⟨now',ents',next',clis'⟩:=m'
   simp only [callV] at hmk
   simp only at hmk hDo e2 h0 hnow M C V
   subst e2
   have wp:IntKind.i64.wrap (now+p)=now+p:=IntWalk.i64_in _ (by omega)
   have HP:=hide hpk;have HMK:=hide hmk;have HDO:=hide hDo;have HMY:=hide hmay
   clear hmk hDo hmay hpk hdk
   obtain ⟨i0,i1,i2,i3,i4,i5,i6,i7⟩:=R
   simp only at i0 i1 i2 i3 i4 i5 i6 i7
   (try clear cV fV);have cV:=V.cell;have fV:=V.frozen
   go_wp2_with fail
   refine (HP.out _).mono ?_
   rintro e w' ⟨rfl,rfl⟩
   go_wp2_with fail
   have hsG:∀ w',Below wr.heap.size wr w'→(w'.cell? ⟨gv,0,none⟩=some (.int .i64 now)∧w'.cell? ⟨gv,1,none⟩=some (.slice A1 n1 c1)∧w'.cell? ⟨gv,2,none⟩=some (.int .i64 next)∧w'.cell? ⟨gv,3,none⟩=some (.slice B1 k1 d1)∧w'.cell? ⟨b,off+k*8,none⟩=some (.int .i64 dc)∧w'.cell? ⟨b,off+k*8+1,none⟩=some (.int .i64 doff)∧w'.cell? ⟨b,off+k*8+2,none⟩=some (.int .i64 dw)∧w'.cell? ⟨b,off+k*8+3,none⟩=some (.int .i64 rk)∧w'.cell? ⟨b,off+k*8+4,none⟩=some (.int .i64 ry)∧w'.cell? ⟨b,off+k*8+5,none⟩=some (.int .i64 rf)∧w'.cell? ⟨b,off+k*8+6,none⟩=some (.int .i64 rr)∧w'.cell? ⟨b,off+k*8+7,none⟩=some (.string rx)):=fun w' q=>by
    have V':=V.below' q
    exact ⟨V'.cell 0,V'.cell 1,V'.cell 2,V'.cell 3,(q.cell (p:=⟨b,off+k*8,none⟩) hbb).trans i0,(q.cell (p:=⟨b,off+k*8+1,none⟩) hbb).trans i1,(q.cell (p:=⟨b,off+k*8+2,none⟩) hbb).trans i2,(q.cell (p:=⟨b,off+k*8+3,none⟩) hbb).trans i3,(q.cell (p:=⟨b,off+k*8+4,none⟩) hbb).trans i4,(q.cell (p:=⟨b,off+k*8+5,none⟩) hbb).trans i5,(q.cell (p:=⟨b,off+k*8+6,none⟩) hbb).trans i6,(q.cell (p:=⟨b,off+k*8+7,none⟩) hbb).trans i7⟩
   refine wp_region_x (l:=[]) (S:=fun w'=>w'.cell? ⟨gv,0,none⟩=some (.int .i64 now)∧w'.cell? ⟨gv,1,none⟩=some (.slice A1 n1 c1)∧w'.cell? ⟨gv,2,none⟩=some (.int .i64 next)∧w'.cell? ⟨gv,3,none⟩=some (.slice B1 k1 d1)∧w'.cell? ⟨b,off+k*8,none⟩=some (.int .i64 dc)∧w'.cell? ⟨b,off+k*8+1,none⟩=some (.int .i64 doff)∧w'.cell? ⟨b,off+k*8+2,none⟩=some (.int .i64 dw)∧w'.cell? ⟨b,off+k*8+3,none⟩=some (.int .i64 rk)∧w'.cell? ⟨b,off+k*8+4,none⟩=some (.int .i64 ry)∧w'.cell? ⟨b,off+k*8+5,none⟩=some (.int .i64 rf)∧w'.cell? ⟨b,off+k*8+6,none⟩=some (.int .i64 rr)∧w'.cell? ⟨b,off+k*8+7,none⟩=some (.string rx)) (by kernel_rfl) (hsG _ (Below.refl _ wr).drew) (fun hS=>?_)
   refine wpAnyX_tq 0 ?_
   refine wpAnyX_tq 1 ?_
   refine wpAnyX_tq 2 ?_
   refine wpAnyX_tq 3 ?_
   refine wpAnyX_tq 4 ?_
   refine wpAnyX_tq 5 ?_
   refine wpAnyX_tq 6 ?_
   have HSG:=hide hsG
   clear hsG hS cV fV i0 i1 i2 i3 i4 i5 i6 i7
   refine wpX_start (n:=9+left2 false false) (listed:=(fun b_ c_=>#[true,true,true,true,true,true,true,false,false,false,false,false,false,b_,c_,false,false,false]) false false) (j1:=13) (d1:=6) (t1:=41) (z1:=#[.int .i64 0,.slice none 0 0,.int .i64 0,.slice none 0 0]) (j2:=14) (d2:=7) (t2:=102) (z2:=#[.int .i64 0,.string { data:=#[] },.int .i64 0,.slice none 0 0]) ?al1 ?al2 ?aln ?all (fun al1 al2=>?alr);(case al1=>exact ⟨⟨_,rfl,rfl,rfl,fun a w=>by simp [go_sem,execOp]⟩⟩);(case al2=>exact ⟨⟨_,rfl,rfl,rfl,fun a w=>by simp [go_sem,execOp]⟩⟩);(case aln=>kernel_rfl);(case all=>kernel_rfl)
   refine' wpX_phase' (f:=8) (i:=7) (L:=(fun b_ c_=>#[true,true,true,true,true,true,true,false,false,false,false,false,false,b_,c_,false,false,false])) (L':=(fun b_ c_=>#[true,true,true,true,true,true,true,true,false,false,false,false,false,b_,c_,false,false,false])) (base:=wr.heap.size) (G:=(fun w'=>Below wr.heap.size wr w')) (b:=false) (c:=false) (x:=u6) (y:=u7) al1 al2 ?an7 ?al7 ?aa7 ?ar7 ?ai7 ?ag7 ?ae17 ?ae27 ?ae37 ?ap17 ?ap27 HSG.out (fun w' o q=>q.alloc q.size o) (fun w' q=>q.size) ?aw7 Pend.no Pend.no Two.no ?am7;(case an7=>rfl);(case al7=>rfl);(case aa7=>rfl);(case ar7=>kernel_rfl);(case ai7=>rfl);(case ag7=>rfl);(case ae17=>(intros;rfl));(case ae27=>(intros;rfl));(case ae37=>(intros;rfl));(case ap17=>(intros;rfl));(case ap27=>(intros;rfl))
   (case aw7=>exact (Below.refl _ wr).drew)
   intro b_ c_ x_ y_ wp1 hG_ hx_ hy_ hxy_ K_ hK_;(try simp only [Act.put,List.setIfInBounds_toArray,List.set_cons_zero,List.set_cons_succ,List.getElem_toArray,List.getElem_cons_zero,List.getElem_cons_succ])
   go_wp2_with fail
   refine (HMK.out _ (C.bl hG_)).mono ?_
   rintro e w4 ⟨rfl,hbp⟩
   go_wp2_with fail
   have qp:Below wr.heap.size wr w4:=bstep hG_ hbp
   have hSp:=HSG.out _ qp
   refine hK_.out _ _ (Or.inr hSp) ?_
   clear hK_ K_ hG_
   refine' wpX_phase' (f:=7) (i:=8) (L:=(fun b_ c_=>#[true,true,true,true,true,true,true,true,false,false,false,false,false,b_,c_,false,false,false])) (L':=(fun b_ c_=>#[true,true,true,true,true,true,true,true,true,false,false,false,false,b_,c_,false,false,false])) (base:=wr.heap.size) (G:=(fun w'=>Below wr.heap.size wr w')) (b:=b_) (c:=c_) (x:=x_) (y:=y_) al1 al2 ?an8 ?al8 ?aa8 ?ar8 ?ai8 ?ag8 ?ae18 ?ae28 ?ae38 ?ap18 ?ap28 HSG.out (fun w' o q=>q.alloc q.size o) (fun w' q=>q.size) ?aw8 (hx_.bl hbp) (hy_.bl hbp) hxy_ ?am8;(case an8=>rfl);(case al8=>rfl);(case aa8=>rfl);(case ar8=>kernel_rfl);(case ai8=>rfl);(case ag8=>rfl);(case ae18=>(intros;rfl));(case ae28=>(intros;rfl));(case ae38=>(intros;rfl));(case ap18=>(intros;rfl));(case ap28=>(intros;rfl))
   (case aw8=>exact qp)
   clear hx_ hy_ hxy_ x_ y_ b_ c_ hbp
   intro b_ c_ x_ y_ wp2 hG_ hx_ hy_ hxy_ K_ hK_;(try simp only [Act.put,List.setIfInBounds_toArray,List.set_cons_zero,List.set_cons_succ,List.getElem_toArray,List.getElem_cons_zero,List.getElem_cons_succ])
   go_wp2_with fail
   refine (HDO.out _ (M.bl hG_) (C.bl hG_) (hN.bl (bstep hbr hG_))).mono ?_
   rintro e w6 ⟨A2,n2,c2,B2,k2,d2,Y2,m2,o2,rfl,S6,C6,T6,hbp⟩
   go_wp2_with fail
   have qp:Below wr.heap.size wr w6:=bstep hG_ hbp
   have hSp:=HSG.out _ qp
   refine hK_.out _ _ (Or.inr hSp) ?_
   clear hK_ K_ hG_
   refine' wpX_take' (f:=6) (i:=9) (v:=?xv9) (L:=(fun b_ c_=>#[true,true,true,true,true,true,true,true,true,false,false,false,false,b_,c_,false,false,false])) (L':=(fun b_ c_=>#[true,true,true,true,true,true,true,true,true,true,false,false,false,b_,c_,false,false,false])) ?tan9 ?tal9 rfl (by kernel_rfl) ?tar9 (by kernel_rfl) ?tae39 (fun _ _ _ h=>h) (Or.inl ⟨by rfl,?xh9⟩) ?taw9 ?xr9;(case tan9=>rfl);(case tal9=>rfl);(case tar9=>kernel_rfl);(case tae39=>(intros;rfl));(case taw9=>assumption);(case xh9=>(intro w hSw;(try dsimp only at hSw);go_simp;(try with_reducible rfl)));(try simp only [Act.put,List.setIfInBounds_toArray,List.set_cons_zero,List.set_cons_succ,List.getElem_toArray,List.getElem_cons_zero,List.getElem_cons_succ])
   refine' wpX_take' (f:=5) (i:=10) (v:=?xv10) (L:=(fun b_ c_=>#[true,true,true,true,true,true,true,true,true,true,false,false,false,b_,c_,false,false,false])) (L':=(fun b_ c_=>#[true,true,true,true,true,true,true,true,true,true,true,false,false,b_,c_,false,false,false])) ?tan10 ?tal10 rfl (by kernel_rfl) ?tar10 (by kernel_rfl) ?tae310 (fun _ _ _ h=>h) (Or.inl ⟨by rfl,?xh10⟩) ?taw10 ?xr10;(case tan10=>rfl);(case tal10=>rfl);(case tar10=>kernel_rfl);(case tae310=>(intros;rfl));(case taw10=>assumption);(case xh10=>(intro w hSw;(try dsimp only at hSw);go_simp;(try with_reducible rfl)));(try simp only [Act.put,List.setIfInBounds_toArray,List.set_cons_zero,List.set_cons_succ,List.getElem_toArray,List.getElem_cons_zero,List.getElem_cons_succ])
   refine' wpX_take' (f:=4) (i:=11) (v:=?xv11) (L:=(fun b_ c_=>#[true,true,true,true,true,true,true,true,true,true,true,false,false,b_,c_,false,false,false])) (L':=(fun b_ c_=>#[true,true,true,true,true,true,true,true,true,true,true,true,false,b_,c_,false,false,false])) ?tan11 ?tal11 rfl (by kernel_rfl) ?tar11 (by kernel_rfl) ?tae311 (fun _ _ _ h=>h) (Or.inl ⟨by rfl,?xh11⟩) ?taw11 ?xr11;(case tan11=>rfl);(case tal11=>rfl);(case tar11=>kernel_rfl);(case tae311=>(intros;rfl));(case taw11=>assumption);(case xh11=>(intro w hSw;(try dsimp only at hSw);go_simp;(try with_reducible rfl)));(try simp only [Act.put,List.setIfInBounds_toArray,List.set_cons_zero,List.set_cons_succ,List.getElem_toArray,List.getElem_cons_zero,List.getElem_cons_succ])
   refine' wpX_take' (f:=3) (i:=12) (v:=?xv12) (L:=(fun b_ c_=>#[true,true,true,true,true,true,true,true,true,true,true,true,false,b_,c_,false,false,false])) (L':=(fun b_ c_=>#[true,true,true,true,true,true,true,true,true,true,true,true,true,b_,c_,false,false,false])) ?tan12 ?tal12 rfl (by kernel_rfl) ?tar12 (by kernel_rfl) ?tae312 (fun _ _ _ h=>h) (Or.inl ⟨by rfl,?xh12⟩) ?taw12 ?xr12;(case tan12=>rfl);(case tal12=>rfl);(case tar12=>kernel_rfl);(case tae312=>(intros;rfl));(case taw12=>assumption);(case xh12=>(intro w hSw;(try dsimp only at hSw);go_simp;(try with_reducible rfl)));(try simp only [Act.put,List.setIfInBounds_toArray,List.set_cons_zero,List.set_cons_succ,List.getElem_toArray,List.getElem_cons_zero,List.getElem_cons_succ])
   refine' wpX_lay' (f:=3) (L:=(fun b_ c_=>#[true,true,true,true,true,true,true,true,true,true,true,true,true,b_,c_,false,false,false])) (base:=wr.heap.size) (G:=(fun w'=>Below w6.heap.size w6 w')) (b:=b_) (c:=c_) (x:=x_) (y:=y_) al1 al2 ?anL ?alL ?aaL ?arL ?ae1L ?ae2L ?ap1L ?ap2L (fun w' q=>HSG.out w' (bstep qp q)) (fun w' o q=>q.alloc q.size o) (fun w' q=>Nat.le_trans qp.size q.size) ?awL (hx_.bl hbp) (hy_.bl hbp) hxy_ ?amL;(case anL=>rfl);(case alL=>rfl);(case aaL=>rfl);(case arL=>kernel_rfl);(case ae1L=>(intros;rfl));(case ae2L=>(intros;rfl));(case ap1L=>(intros;rfl));(case ap2L=>(intros;rfl))
   (case awL=>exact Below.refl _ w6)
   clear hx_ hy_ hxy_ x_ y_ b_ c_ hSp
   intro g1 g2 w7 hb7 hg1 G1 hg2 G2 hgg
   have q7:Below wr.heap.size wr w7:=bstep qp hb7
   clear al1 al2
   (try clear cG1 fG1);have cG1:=G1.cell;have fG1:=G1.frozen
   refine wpAnyX_oq 15 fun K hK=>?_
   go_wp2_with fail
   refine hK.out _ _ (Or.inr (HSG.out _ (below_set (below_set (below_set (below_set q7 hg1 0 _) hg1 1 _) hg1 2 _) hg1 3 _))) (fun hS=>?_)
   clear hK K hS cG1 fG1
   have F0:=G2.far (p:=⟨g1,0,none⟩) (by simpa using hgg.symm) (.int .i64 (now+p))
   have F1:=F0.far (p:=⟨g1,1,none⟩) (by simpa using hgg.symm) (.slice A2 n2 c2)
   have F2:=F1.far (p:=⟨g1,2,none⟩) (by simpa using hgg.symm) (.int .i64 next')
   have F3:=F2.far (p:=⟨g1,3,none⟩) (by simpa using hgg.symm) (.slice B2 k2 d2)
   (try clear cF3 fF3);have cF3:=F3.cell;have fF3:=F3.frozen
   refine wpAnyX_oq 16 fun K hK=>?_
   go_wp2_with fail
   refine hK.out _ _ (Or.inr (HSG.out _ (below_set (below_set (below_set (below_set (below_set (below_set (below_set (below_set q7 hg1 0 _) hg1 1 _) hg1 2 _) hg1 3 _) hg2 0 _) hg2 1 _) hg2 2 _) hg2 3 _))) (fun hS=>?_)
   replace hS:=hS.resolve_left (by decide)
   clear hK K cF3 fF3
   refine wpAnyX_ps 17 ?_
   clear hS
   refine wpAnyX_done (by kernel_rfl) ?_ _
   clear F0 F1 F2 F3
   obtain ⟨X1,gr1,sz1⟩:=whole_mach (Value.int .i64 (now+p)) (Value.slice A2 n2 c2) (Value.int .i64 next') (Value.slice B2 k2 d2) G1
   have Y1:=grown_blk G2 gr1 hgg.symm
   obtain ⟨X2,gr2,sz2⟩:=whole_reply (Value.int .i64 rc) (Value.string rt) (Value.int .i64 rn) (Value.slice Y2 m2 o2) Y1
   have X1':=grown_blk X1 gr2 hgg
   have q8:=below_grow (below_grow q7 gr1 q7.size hg1) gr2 (by rw [sz1];exact q7.size) hg2
   have S8:=((S6.bl hb7).grown G1 gr1).grown Y1 gr2
   have C8:=((C6.bl hb7).grown G1 gr1).grown Y1 gr2
   have T8:=((T6.bl hb7).grown G1 gr1).grown Y1 gr2
   have V8:=grown_blk (grown_blk (V.below' q7) gr1 (by omega)) gr2 (by omega)
   have Z8:=grown_blk (grown_blk (Z.below' q7) gr1 (by omega)) gr2 (by omega)
   obtain ⟨w8,hw8⟩:∃ w8,w8=((((((((w7.setCell ⟨g1,0,none⟩ (Value.int .i64 (now+p))).setCell ⟨g1,1,none⟩ (Value.slice A2 n2 c2)).setCell ⟨g1,2,none⟩ (Value.int .i64 next')).setCell ⟨g1,3,none⟩ (Value.slice B2 k2 d2)).setCell ⟨g2,0,none⟩ (Value.int .i64 rc)).setCell ⟨g2,1,none⟩ (Value.string rt)).setCell ⟨g2,2,none⟩ (Value.int .i64 rn)).setCell ⟨g2,3,none⟩ (Value.slice Y2 m2 o2)):=⟨_,rfl⟩
   rw [←hw8] at q8 X1' X2 S8 C8 T8 V8 Z8 ⊢
   clear hw8 gr1 gr2 sz1 sz2 Y1 X1 G1 G2 q7 hb7 S6 C6 T6
   have X1:=X1'
   clear X1'
   have hw8:=q8.size
   (try clear cX1 fX1);have cX1:=X1.cell;have fX1:=X1.frozen;(try clear cV8 fV8);have cV8:=V8.cell;have fV8:=V8.frozen
   go_wp2_with fail
   go_roundw
   case rel=>
    obtain ⟨V9,gr9,sz9⟩:=whole_mach (.int .i64 (now+p)) (.slice A2 n2 c2) (.int .i64 next') (.slice B2 k2 d2) V8
    exact ⟨k+1,by omega,by omega,by go_num,⟨now+p,ents',next',clis'⟩,A2,n2,c2,B2,k2,d2,rfl,⟨_,_,_,_,grown_blk Z8 gr9 (by omega)⟩,V9,S8.grown V8 gr9,C8.grown V8 gr9,HQ',HMY,below_grow (bstep hbr q8) gr9 (by omega) (by omega)⟩
   case measure=>simp [intOf];omega
  ·have HE:=hide (mach_end hlt HQ)
   (try clear cZ fZ);have cZ:=Z.cell;have fZ:=Z.frozen;(try clear cV fV);have cV:=V.cell;have fV:=V.frozen
   obtain ⟨Z9,gr9,sz9⟩:=whole_mach (.int .i64 m.now) (.slice A1 n1 c1) (.int .i64 m.next) (.slice B1 k1 d1) Z
   have S9:=M.grown Z gr9
   have C9:=C.grown Z gr9
   have q9:=below_grow hbr gr9 (by omega) (Nat.le_refl _)
   have HP:=hide (show MachPost (machOf l) w (.returned (.agg #[.int .i64 m.now,.slice A1 n1 c1,.int .i64 m.next,.slice B1 k1 d1])) _ from ⟨A1,n1,c1,B1,k1,d1,by rw [HE.out],by rw [HE.out];exact S9,by rw [HE.out];exact C9,q9⟩)
   have cZ9:=hide Z9.cell
   clear S9 C9 q9 gr9 sz9 HE
   by_cases h1:k<l.length
   ·have h40':¬ ((k:Int)<40):=by omega
    go_wp2_with fail
    have cZ9:=cZ9.out
    refine bodyPost_ret (v:=.agg #[.int .i64 m.now,.slice A1 n1 c1,.int .i64 m.next,.slice B1 k1 d1]) ?_ rfl HP.out
    simp [results,Tryz.results19,go_sem,cZ9]
   ·go_wp2_with fail
    have cZ9:=cZ9.out
    refine bodyPost_ret (v:=.agg #[.int .i64 m.now,.slice A1 n1 c1,.int .i64 m.next,.slice B1 k1 d1]) ?_ rfl HP.out
    simp [results,Tryz.results19,go_sem,cZ9]
theorem tnumber_any (n:Int) (w:World):Calls Tryz.prog 56 #[.int .i64 n] w fun e w'=>e = .returned (.bool (numberOk n))∧w=w':=by
 go_enter Tryz.func56,Tryz.ntmps56
 go_wp2_with fail
 all_goals go_ret
 all_goals exact ⟨ret_bool (by simp [numberOk];try omega),rfl⟩
def csM (i t:Int) (m:Mach):Int:=if (numberOk i && numberOk t)=true then checkMach m else 2
set_option maxRecDepth 100000 in
theorem CheckSnap_any (i t:Int) (m:Mach) (A B:Option Addr) (na ca nb cb:Nat) (w:World) (hE:StSl w A na ca m.ents) (hC:ClSl w B nb cb m.clis) (hna:na≤1048576) (hnb:nb≤1048576) (hsm:∀ x∈m.ents,small x.val 1048576) (hcl:∀ x∈m.clis,x.rep.text.size≤1048576∧x.rep.list.length≤1048576) :
  Calls Tryz.prog 57 #[.agg #[.int .i64 i,.int .i64 t,.int .i64 m.now,.slice A na ca,.int .i64 m.next,.slice B nb cb]] w fun e w'=>e = .returned (.int .i64 (csM i t m))∧Below w.heap.size w w':=by
 have KM:=hide (fun w' (hb:Below w.heap.size w w')=>CheckM_any m A B na ca nb cb w' (hE.bl hb) (hC.bl hb) hna hnb hsm hcl)
 have h1:=fun w=>tnumber_any i w
 have h2:=fun w=>tnumber_any t w
 unfold csM
 generalize checkMach m=cm at *
 generalize numberOk i=bi at *
 generalize numberOk t=bt at *
 have H1:=hide h1;have H2:=hide h2
 clear h1 h2 hE hC hsm hcl
 obtain ⟨now,ents,next,clis⟩:=m
 simp only at KM ⊢
 have T0:=Blk.new w 43 #[.int .i64 i,.int .i64 t,.int .i64 now,.slice A na ca,.int .i64 next,.slice B nb cb]
 have q0:Below w.heap.size w (w.alloc (.cells #[.int .i64 i,.int .i64 t,.int .i64 now,.slice A na ca,.int .i64 next,.slice B nb cb] 43)):=below_by
 go_enter Tryz.func57,Tryz.ntmps57
 go_wp2_with fail
 refine (H1.out _).mono ?_
 rintro e w' ⟨rfl,rfl⟩
 cases bi
 ·go_wp2_with fail
  go_ret
  exact ⟨rfl,q0⟩
 ·(try clear cT0 fT0);have cT0:=T0.cell;have fT0:=T0.frozen
  go_wp2_with fail
  refine (H2.out _).mono ?_
  rintro e w' ⟨rfl,rfl⟩
  cases bt
  ·go_wp2_with fail
   go_ret
   exact ⟨rfl,q0⟩
  ·go_wp2_with fail
   refine (KM.out _ q0).mono ?_
   rintro e w1 ⟨rfl,hb1⟩
   have q1:=bstep q0 hb1
   go_wp2_with fail
   go_ret
   exact ⟨rfl,q1⟩
set_option maxRecDepth 100000 in
theorem CheckLoad_any (i t:Int) (m:Mach) (A B:Option Addr) (na ca nb cb:Nat) (w:World) (hE:StSl w A na ca m.ents) (hC:ClSl w B nb cb m.clis) (hna:na≤1048576) (hnb:nb≤1048576) (hsm:∀ x∈m.ents,small x.val 1048576) (hcl:∀ x∈m.clis,x.rep.text.size≤1048576∧x.rep.list.length≤1048576) :
  Calls Tryz.prog 28 #[.agg #[.int .i64 3,.int .i64 0,.int .i64 0,.int .i64 0,.int .i64 0,.int .i64 0,.bool false,.int .i64 0,.int .i64 0,.int .i64 0,.string { data:=#[] },.string { data:=#[] },.string { data:=#[] },.int .i64 0,.int .i64 i,.int .i64 t,.int .i64 m.now,.slice A na ca,.int .i64 m.next,.slice B nb cb]] w fun e w'=>e = .returned (.int .i64 (csM i t m))∧Below w.heap.size w w':=by
 have KM:=hide (fun w' (hb:Below w.heap.size w w')=>CheckSnap_any i t m A B na ca nb cb w' (hE.bl hb) (hC.bl hb) hna hnb hsm hcl)
 generalize csM i t m=R at *
 clear hE hC hsm hcl
 obtain ⟨now,ents,next,clis⟩:=m
 simp only at KM ⊢
 have T0:=Blk.new w 45 #[.int .i64 3,.int .i64 0,.int .i64 0,.int .i64 0,.int .i64 0,.int .i64 0,.bool false,.int .i64 0,.int .i64 0,.int .i64 0,.string { data:=#[] },.string { data:=#[] },.string { data:=#[] },.int .i64 0,.int .i64 i,.int .i64 t,.int .i64 now,.slice A na ca,.int .i64 next,.slice B nb cb]
 replace T0:=T0.alloc (.cells #[.int .i64 0,.int .i64 0,.bool false,.int .i64 0,.int .i64 0,.int .i64 0,.string { data:=#[] },.string { data:=#[] },.string { data:=#[] },.int .i64 0] 35)
 have I0:=Blk.new (w.alloc (.cells #[.int .i64 3,.int .i64 0,.int .i64 0,.int .i64 0,.int .i64 0,.int .i64 0,.bool false,.int .i64 0,.int .i64 0,.int .i64 0,.string { data:=#[] },.string { data:=#[] },.string { data:=#[] },.int .i64 0,.int .i64 i,.int .i64 t,.int .i64 now,.slice A na ca,.int .i64 next,.slice B nb cb] 45)) 35 #[.int .i64 0,.int .i64 0,.bool false,.int .i64 0,.int .i64 0,.int .i64 0,.string { data:=#[] },.string { data:=#[] },.string { data:=#[] },.int .i64 0]
 have q0:Below w.heap.size w ((w.alloc (.cells #[.int .i64 3,.int .i64 0,.int .i64 0,.int .i64 0,.int .i64 0,.int .i64 0,.bool false,.int .i64 0,.int .i64 0,.int .i64 0,.string { data:=#[] },.string { data:=#[] },.string { data:=#[] },.int .i64 0,.int .i64 i,.int .i64 t,.int .i64 now,.slice A na ca,.int .i64 next,.slice B nb cb] 45)).alloc (.cells #[.int .i64 0,.int .i64 0,.bool false,.int .i64 0,.int .i64 0,.int .i64 0,.string { data:=#[] },.string { data:=#[] },.string { data:=#[] },.int .i64 0] 35)):=below_by
 go_enter Tryz.func28,Tryz.ntmps28
 (try clear cT0 fT0);have cT0:=T0.cell;have fT0:=T0.frozen;(try clear cI0 fI0);have cI0:=I0.cell;have fI0:=I0.frozen
 go_wp2_with fail
 refine (KM.out _ q0).mono ?_
 rintro e w1 ⟨rfl,hb1⟩
 have q1:=bstep q0 hb1
 go_wp2_with fail
 go_ret
 exact ⟨rfl,q1⟩
theorem whole_snap {w2:World} {b:Nat} {x0 x1 x2 x3 x4 x5:Value} (u0 u1 u2 u3 u4 u5:Value) (R:Blk w2 b 43 #[x0,x1,x2,x3,x4,x5]) :
  Blk ((((((w2.setCell ⟨b,0,none⟩ (u0)).setCell ⟨b,1,none⟩ (u1)).setCell ⟨b,2,none⟩ (u2)).setCell ⟨b,3,none⟩ (u3)).setCell ⟨b,4,none⟩ (u4)).setCell ⟨b,5,none⟩ (u5)) b 43 #[u0,u1,u2,u3,u4,u5]∧w2.grownBy ((((((w2.setCell ⟨b,0,none⟩ (u0)).setCell ⟨b,1,none⟩ (u1)).setCell ⟨b,2,none⟩ (u2)).setCell ⟨b,3,none⟩ (u3)).setCell ⟨b,4,none⟩ (u4)).setCell ⟨b,5,none⟩ (u5)) (some b)∧((((((w2.setCell ⟨b,0,none⟩ (u0)).setCell ⟨b,1,none⟩ (u1)).setCell ⟨b,2,none⟩ (u2)).setCell ⟨b,3,none⟩ (u3)).setCell ⟨b,4,none⟩ (u4)).setCell ⟨b,5,none⟩ (u5)).heap.size=w2.heap.size:=by
 have R0:=R.set' (i:=0) (u:=u0) rfl
 have R1:=R0.set' (i:=1) (u:=u1) rfl
 have R2:=R1.set' (i:=2) (u:=u2) rfl
 have R3:=R2.set' (i:=3) (u:=u3) rfl
 have R4:=R3.set' (i:=4) (u:=u4) rfl
 have R5:=R4.set' (i:=5) (u:=u5) rfl
 exact ⟨R5,grown_trans (grown_trans (grown_trans (grown_trans (grown_trans (grown_setRow_cell w2 b 0 u0) (grown_setRow_cell _ b 1 u1)) (grown_setRow_cell _ b 2 u2)) (grown_setRow_cell _ b 3 u3)) (grown_setRow_cell _ b 4 u4)) (grown_setRow_cell _ b 5 u5),by simp⟩
def SnapPost (i t:Int) (m:Mach) (w:World) (e:Ending) (w':World):Prop:=
 ∃ A n c B k d,e = .returned (.agg #[.int .i64 i,.int .i64 t,.int .i64 m.now,.slice A n c,.int .i64 m.next,.slice B k d])∧St w' A n c m.ents∧Ci w' B k d m.clis∧Below w.heap.size w w'
set_option maxRecDepth 100000 in
theorem snap_any (A:Option Addr) (n c:Nat) (l:List DeedD) (x y:Int) (w:World) (hS:Sl w 8 A n c (deedRows l)) (hd:∀ d∈l,d.ok) (hN:Noth w) (hx:I64 x) (hy:I64 y) :
  Calls Tryz.prog 51 #[.slice A n c,.int .i64 x,.int .i64 y] w (SnapPost (1+picked x 40) (1+picked y 5) (machOf (l.take 8)) w):=by
 have hn:=deed_len hS
 have hnc:=hS.nc
 have hcm:=hS.cm
 unfold maxLen at hcm
 have hr:deedRows (l.take 8)=(deedRows l).take (min n 8):=by
  unfold deedRows
  rw [←List.map_take]
  congr 1
  rcases Nat.le_total n 8 with h|h
  ·rw [Nat.min_eq_left h,List.take_of_length_le (by omega),List.take_of_length_le (by omega)]
  ·rw [Nat.min_eq_right h]
 have hT:=hS.take (min n 8) (by omega) c (by omega) (Nat.le_refl _)
 rw [←hr] at hT
 have hF:=fun w' (h:Below w.heap.size w w')=>Machine_any A (min n 8) c (l.take 8) w' (hT.below h) (fun d hd'=>hd d (List.mem_of_mem_take hd')) (hN.bl h)
 have p0:=picked_lo x 40 (by omega)
 have p1:=picked_hi x 40 (by omega)
 have r0:=picked_lo y 5 (by omega)
 have r1:=picked_hi y 5 (by omega)
 have hpx:=fun w=>picked_any x 40 w hx.1 hx.2 (by omega) (by omega)
 have hpy:=fun w=>picked_any y 5 w hy.1 hy.2 (by omega) (by omega)
 generalize picked x 40=p at *
 generalize picked y 5=r at *
 have hmc:min n 8≤c:=by omega
 have hmin:min (n:Int) 8=((min n 8:Nat):Int):=by omega
 have wp1:IntKind.i64.wrap (1+p)=1+p:=IntWalk.i64_in _ (by omega)
 have wr1:IntKind.i64.wrap (1+r)=1+r:=IntWalk.i64_in _ (by omega)
 generalize machOf (l.take 8)=m at *
 obtain ⟨now,ents,next,clis⟩:=m
 have HF:=hide hF;have HPX:=hide hpx;have HPY:=hide hpy
 clear hF hpx hpy hd hT hr hx hy
 have Z0:=Blk.new w 43 #[.int .i64 0,.int .i64 0,.int .i64 0,.slice none 0 0,.int .i64 0,.slice none 0 0]
 have q0:Below w.heap.size w (w.alloc (.cells #[.int .i64 0,.int .i64 0,.int .i64 0,.slice none 0 0,.int .i64 0,.slice none 0 0] 43)):=below_by
 go_enter Tryz.func51,Tryz.ntmps51
 go_wp2_with fail
 obtain ⟨w0,hw0⟩:∃ w0,w0=w.alloc (.cells #[.int .i64 0,.int .i64 0,.int .i64 0,.slice none 0 0,.int .i64 0,.slice none 0 0] 43):=⟨_,rfl⟩
 rw [←hw0] at Z0 q0 ⊢
 clear hw0
 refine wp_region_x (l:=[13]) (S:=fun w'=>Below w0.heap.size w0 w') (by kernel_rfl) ((Below.refl _ w0).drew) (fun hS=>?_)
 refine wpAnyX_tq 0 ?_
 refine wpAnyX_tq 3 ?_
 refine wpAnyX_tq 6 ?_
 refine wpAnyX_tq 7 ?_
 refine wpAnyX_tq 8 ?_
 refine wpAnyX_tq 9 ?_
 refine wpAnyX_tq 10 ?_
 refine wpAnyX_oq 1 fun K hK=>?_
 go_wp2_with fail
 refine (HPX.out _).mono ?_
 rintro e w' ⟨rfl,rfl⟩
 go_wp2_with fail
 refine hK.out _ _ (Or.inr hS) (fun hS=>?_)
 replace hS:=hS.resolve_left (by decide)
 clear hK K
 refine wpAnyX_tq 2 ?_
 refine wpAnyX_oq 4 fun K hK=>?_
 go_wp2_with fail
 refine (HPY.out _).mono ?_
 rintro e w' ⟨rfl,rfl⟩
 go_wp2_with fail
 refine hK.out _ _ (Or.inr hS) (fun hS=>?_)
 replace hS:=hS.resolve_left (by decide)
 clear hK K
 refine wpAnyX_tq 5 ?_
 refine wpAnyX_oq 11 fun K hK=>?_
 go_wp2_with fail
 refine (HF.out _ (bstep q0 hS)).mono ?_
 rintro e w1 ⟨A1,n1,c1,B1,k1,d1,rfl,S1,C1,hb1⟩
 have q1:=bstep hS hb1
 go_wp2_with fail
 refine hK.out _ _ (Or.inr q1) (fun hS=>?_)
 replace hS:=hS.resolve_left (by decide)
 clear hK K hb1
 refine wpAnyX_tq 12 ?_
 refine wpAnyX_oq 13 fun K hK=>?_
 replace Z0:=Z0.below' q1
 have hq:=bstep q0 q1
 obtain ⟨Z9,gr9,sz9⟩:=whole_snap (.int .i64 (1+p)) (.int .i64 (1+r)) (.int .i64 now) (.slice A1 n1 c1) (.int .i64 next) (.slice B1 k1 d1) Z0
 have HP:=hide (show SnapPost (1+p) (1+r) ⟨now,ents,next,clis⟩ w (.returned (.agg #[.int .i64 (1+p),.int .i64 (1+r),.int .i64 now,.slice A1 n1 c1,.int .i64 next,.slice B1 k1 d1])) _ from ⟨_,_,_,_,_,_,rfl,S1.grown Z0 gr9,C1.grown Z0 gr9,below_grow hq gr9 hq.size (Nat.le_refl _)⟩)
 have cZ9:=hide Z9.cell
 clear Z9 gr9 sz9 S1 C1 hq q1 hS q0
 (try clear cZ0 fZ0);have cZ0:=Z0.cell;have fZ0:=Z0.frozen
 go_wp2_with fail
 refine hK.out _ _ (Or.inl (by decide)) (fun _=>?_)
 clear hK K
 refine wpAnyX_done (by kernel_rfl) ?_ _
 go_wp2_with fail
 have cZ9:=cZ9.out
 refine bodyPost_ret (v:=.agg #[.int .i64 (1+p),.int .i64 (1+r),.int .i64 now,.slice A1 n1 c1,.int .i64 next,.slice B1 k1 d1]) ?_ rfl HP.out
 simp [results,Tryz.results51,go_sem,cZ9]
end Go.Proofs.YtgmojjclobkpjaaGreatDoor

