import Derived.Test.YtgmojjclobkpjaaGreatDoorQCliO
import Derived.Test.YtgmojjclobkpjaaGreatDoorQStoK
import Derived.BigQuiet
namespace Go.Proofs.YtgmojjclobkpjaaGreatDoor
set_option linter.all false
set_option maxHeartbeats 32000000
open Go.RowKit
structure Mo (B g:Nat) (w w':World):Prop where
 q:Below B w w'
 size:w.heap.size≤w'.heap.size
 far:∀ k t cs,k≠g→t≠104→Blk w k t cs→Blk w' k t cs
section
variable {w w' w'':World} {B g:Nat} {t:TypeId} {cs:Array Value} {A:Option Addr} {n c:Nat}
theorem Mo.trans (h:Mo B g w w') (k:Mo B g w' w''):Mo B g w w'':=⟨h.q.trans k.q,Nat.le_trans h.size k.size,fun i t cs h1 h2 hb=>k.far i t cs h1 h2 (h.far i t cs h1 h2 hb)⟩
theorem Mo.of (h:Below w.heap.size w w') (hB:B≤w.heap.size):Mo B g w w':=⟨h.mono hB,h.size,fun _ _ _ _ _ hb=>hb.below' h⟩
theorem Mo.blk (hg:w.grownBy w' (some g)) (hB:B≤g) (hw:B≤w.heap.size):Mo B g w w':=
 ⟨below_grow (Below.refl _ w) hg hw hB,hg.size,fun _ _ _ h1 _ hb=>grown_blk hb hg h1⟩
theorem Mo.own {rows:List (List Value)} (h:Own w B 104 7 (.slice A n c) rows) (hg:w.grownBy w' (Value.slice A n c).ownBlock) (hw:B≤w.heap.size):Mo B g w w':=
 ⟨below_grown h hg hw,hg.size,fun _ _ _ _ h2 hb=>blk_other hb h hg h2⟩
theorem Mo.fresh {k:Nat} (h:Mo B g w w') (hg:w'.grownBy w'' (some k)) (hz:w.heap.size≤k) (hB:B≤w.heap.size):Mo B g w w'':=
 ⟨below_grow h.q hg (Nat.le_trans hB h.size) (Nat.le_trans hB hz),Nat.le_trans h.size hg.size,fun j t cs h1 h2 hb=>grown_blk (h.far j t cs h1 h2 hb) hg (by have:=hb.lt;omega)⟩
theorem Mo.fr (h:Mo B g w w') (G:Blk w g 41 cs):Fr w w':=⟨h.size,fun k cs hb=>h.far k _ cs (blk_ne hb G (by decide)) (by decide) hb,fun k cs hb=>h.far k _ cs (blk_ne hb G (by decide)) (by decide) hb,fun k cs hb=>h.far k _ cs (blk_ne hb G (by decide)) (by decide) hb⟩
theorem St.mo {l:List En} (h:St w A n c l) (k:Mo B g w w') (G:Blk w g 41 cs):St w' A n c l:=by
 obtain ⟨⟨rows,h1,h2⟩,T⟩:=h
 exact ⟨⟨rows,h1.kept k.size fun a ha _=>by obtain ⟨cs,hc⟩:=T a ha;exact (k.far _ _ _ (blk_ne hc G (by decide)) (by decide) hc).trans hc.symm,h2.fr (k.fr G)⟩,fun a ha=>by obtain ⟨cs,hc⟩:=T a ha;exact ⟨cs,k.far _ _ _ (blk_ne hc G (by decide)) (by decide) hc⟩⟩
end
def OpenPost (m:Mach) (g base:Nat) (A:Option Addr) (na ca:Nat) (w:World) (e:Ending) (w':World):Prop:=
 ∃ B' nb' cb',e = .returned (.agg #[.int .i64 (openM m).2.code,.string (openM m).2.text,.int .i64 (openM m).2.n,.slice none 0 0])∧Blk w' g 41 #[.int .i64 m.now,.slice A na ca,.int .i64 (openM m).1.next,.slice B' nb' cb']∧ClOwn w' base B' nb' cb' (openM m).1.clis∧Mo base g w w'
set_option maxRecDepth 100000 in
theorem open_any (m:Mach) (g base:Nat) (A B:Option Addr) (na ca nb cb:Nat) (w:World) (hG:Blk w g 41 #[.int .i64 m.now,.slice A na ca,.int .i64 m.next,.slice B nb cb]) (hC:ClOwn w base B nb cb m.clis) (hg:base≤g) (hb:base≤w.heap.size) (hf:m.clis.length≤4) (hn0:1≤m.next) (hn1:m.next≤1048577) :
  Calls Tryz.prog 66 #[.pointer (some ⟨g,0,none⟩)] w (OpenPost m g base A na ca w):=by
 obtain ⟨rows0,O0,E0⟩:=hC
 have hgw:=hG.lt
 have hln:=E0.len
 have hgl:=hG.alloc (.cells #[.int .i64 0,.string { data:=#[] },.int .i64 0,.slice none 0 0] 102)
 have hZ:=Blk.new w 102 #[.int .i64 0,.string { data:=#[] },.int .i64 0,.slice none 0 0]
 have q0:Below w.heap.size w (w.alloc (.cells #[.int .i64 0,.string { data:=#[] },.int .i64 0,.slice none 0 0] 102)):=below_by
 have hgz0:g≠w.heap.size:=by omega
 by_cases hfull:1048576<m.next
 ·have hop:openM m=(m,failR 6):=by unfold openM;rw [if_pos hfull]
  have Z2:=Blk.new w 102 #[.int .i64 6,.string { data:=#[] },.int .i64 0,.slice none 0 0]
  have q2:Below w.heap.size w (w.alloc (.cells #[.int .i64 6,.string { data:=#[] },.int .i64 0,.slice none 0 0] 102)):=below_by
  have HP:=hide (show OpenPost m g base A na ca w (.returned (.agg #[.int .i64 6,.string { data:=#[] },.int .i64 0,.slice none 0 0])) _ from ⟨B,nb,cb,by rw [hop];rfl,by rw [hop];exact hG.below' q2,by rw [hop];exact ClOwn.bl ⟨rows0,O0,E0⟩ q2,Mo.of q2 hb⟩)
  have cZ2:=hide Z2.cell
  clear Z2 q2 hop O0 E0
  obtain ⟨now,ents,next,clis⟩:=m
  simp only at hgl hfull
  (try clear chgl fhgl);have chgl:=hgl.cell;have fhgl:=hgl.frozen
  go_enter Tryz.func66,Tryz.ntmps66
  go_wp2_with fail
  have cZ2:=cZ2.out
  refine bodyPost_ret (v:=.agg #[.int .i64 6,.string { data:=#[] },.int .i64 0,.slice none 0 0]) ?_ rfl HP.out
  simp [results,Tryz.results66,go_sem,cZ2]
 ·have hop:openM m=(⟨m.now,m.ents,m.next+1,(if m.clis.length=4 then delRows m.clis (oldest m.clis m.clis.length) else m.clis) ++ [⟨m.next,0,m.now,zeroRe⟩]⟩,toldR m.next):=by unfold openM;rw [if_neg hfull]
  have hwn:IntKind.i64.wrap (m.next+1)=m.next+1:=IntWalk.i64_in _ (by omega)
  have hwm:IntKind.i64.wrap (m.next+1 - 1)=m.next:=by rw [IntWalk.i64_in _ (by omega)];omega
  by_cases h4:m.clis.length=4
  ·rw [if_pos h4] at hop
   obtain rfl:nb=4:=by have:=O0.n_eq;omega
   have HOP0:=hide hop
   clear hop
   obtain ⟨now,ents,next,clis⟩:=m
   simp only at hgl hfull h4 HOP0 E0 hwn hwm hf hln hn0 hn1
   clear hG
   (try clear chgl fhgl);have chgl:=hgl.cell;have fhgl:=hgl.frozen
   go_enter Tryz.func66,Tryz.ntmps66
   go_wp2_with fail
   obtain ⟨W0,hW0⟩:∃ W0,W0=w.alloc (.cells #[.int .i64 0,.string { data:=#[] },.int .i64 0,.slice none 0 0] 102):=⟨_,rfl⟩
   have O1:=O0.alloc (.cells #[.int .i64 0,.string { data:=#[] },.int .i64 0,.slice none 0 0] 102)
   have E1:=E0.fr (Fr.of q0)
   rw [←hW0] at hgl hZ q0 O1 E1 ⊢
   clear hW0 O0 E0 chgl fhgl
   have hC1:ClSl W0 B 4 cb clis:=⟨rows0,O1.sl',E1⟩
   go_loopw [3,23] (fun s3 s23 wr=>∃ k:Nat,k≤4∧s23 = .int .i64 (k:Int)∧s3 = .int .i64 ((oldest clis k:Nat):Int)∧Below W0.heap.size W0 wr) (fun _ s23 _=>4 - (intOf s23).toNat)
   case atStart=>exact ⟨0,by omega,rfl,rfl,Below.refl _ _⟩
   case round=>
    obtain ⟨k,hk,rfl,rfl,hbr⟩:=hrel
    have Gr:=hgl.below' hbr
    have hol:=oldest_lt (l:=clis) (k:=k) (by omega) (by omega)
    by_cases hlt:k<4
    ·have hkl:k<clis.length:=by omega
     obtain ⟨b,off,Y,mm,d,rfl,hbb,⟨i0,i1,i2,i3,i4,i5,i6⟩,-⟩:=(hC1.bl hbr).at_ hkl
     obtain ⟨b',off',_,_,_,e1,_,⟨_,_,u2,_,_,_,_⟩,-⟩:=(hC1.bl hbr).at_ hol
     injection e1 with e1
     injection e1 with e1 e2
     subst e1;subst e2
     have hnext:oldest clis (k+1)=if clis[k].time<(clis[oldest clis k]).time then k else oldest clis k:=by
      show (if _<_ then k else oldest clis k)=_
      rw [List.getElem?_eq_getElem hkl,List.getElem?_eq_getElem hol]
      rfl
     generalize oldest clis k=o at *
     generalize (clis[o]).time=yt at *
     generalize clis[k]=x at i0 i1 i2 i3 i4 i5 hnext
     obtain ⟨xi,xs,xt,⟨rc,rt,rn,rl⟩⟩:=x
     simp only at i0 i1 i2 i3 i4 i5 hnext
     have HN:=hide hnext
     clear hnext
     have bX:Below wr.heap.size wr (wr.alloc (.cells #[.int .i64 xi,.int .i64 xs,.int .i64 xt,.int .i64 rc,.string rt,.int .i64 rn,.slice Y mm d] 104)):=below_by
     have X:=Blk.new wr 104 #[.int .i64 xi,.int .i64 xs,.int .i64 xt,.int .i64 rc,.string rt,.int .i64 rn,.slice Y mm d]
     have G1:=Gr.alloc (.cells #[.int .i64 xi,.int .i64 xs,.int .i64 xt,.int .i64 rc,.string rt,.int .i64 rn,.slice Y mm d] 104)
     have u3:=(bX.cell (p:=⟨b,off+o*7+2,none⟩) hbb).trans u2
     have hz1:(0:Int)≤(o:Int):=by omega
     have hz2:(o:Int)<(4:Int):=by omega
     have hz3:(0:Int)≤(k:Int):=by omega
     have hz4:(k:Int)<(4:Int):=by omega
     have hw0:IntKind.i64.wrap (o:Int)=(o:Int):=IntWalk.i64_in _ (by omega)
     go_upto_region 8 with fail
     obtain ⟨wx,hwx⟩:∃ wx,wx=(wr.alloc (.cells #[.int .i64 xi,.int .i64 xs,.int .i64 xt,.int .i64 rc,.string rt,.int .i64 rn,.slice Y mm d] 104)):=⟨_,rfl⟩
     rw [←hwx] at bX X G1 u3 ⊢
     clear hwx i0 i1 i2 i3 i4 i5 i6 u2 Gr
     have hxl:=X.lt
     have hgl1:=G1.lt
     (try clear cX fX);have cX:=X.cell;have fX:=X.frozen;(try clear cG1 fG1);have cG1:=G1.cell;have fG1:=G1.frozen
     by_cases hc:xt<yt
     ·have hd:decide (xt<yt)=true:=by simpa using hc
      go_quiet (fail)
      go_wp2_with fail
      go_roundw
      case rel=>exact ⟨k+1,by omega,by go_num,by rw [HN.out,if_pos hc],below_by⟩
      case measure=>simp [intOf];omega
     ·have hd:decide (xt<yt)=false:=by simpa using hc
      go_quiet (fail)
      go_wp2_with fail
      go_roundw
      case rel=>exact ⟨k+1,by omega,by go_num,by rw [HN.out,if_neg hc],below_by⟩
      case measure=>simp [intOf];omega
    ·obtain rfl:k=4:=by omega
     have O2:=O1.below hbr
     have E2:=E1.fr (Fr.of hbr)
     have Zr:=hZ.below' hbr
     have mor:Mo base g w wr:=Mo.of (q0.trans (hbr.mono q0.size)) hb
     have hbase:base≤wr.heap.size:=by have:=mor.size;omega
     rw [h4] at HOP0
     generalize oldest clis 4=o at *
     have hwo:IntKind.i64.wrap ((o:Int)+1)=(o:Int)+1:=IntWalk.i64_in _ (by omega)
     have hgl1:=Gr.lt
     (try clear cGr fGr);have cGr:=Gr.cell;have fGr:=Gr.frozen
     go_wp2_with fail
     refine (Delete_cli B 4 cb base o rows0 _ O2 E2.one (by omega) (by omega)).mono ?_
     rintro e w3 ⟨B2,n2,c2,rfl,O3,gr3⟩
     have G3:=blk_other Gr O2 gr3
     have Z3:=blk_other Zr O2 gr3
     have E3:=(E2.del o).fr (Fr.own O2 gr3)
     have mo3:=mor.trans (Mo.own O2 gr3 hbase)
     clear cGr fGr Gr Zr mor O2 E2 gr3 O1 E1 hC1 hgl hZ q0 hbr
     have gr4:=grown_setRow_cell w3 g 3 (.slice B2 n2 c2)
     have G4:=G3.set' (i:=3) (u:=.slice B2 n2 c2) rfl
     have Z4:=grown_blk Z3 gr4 hgz0.symm
     have C4:=ClOwn.grown ⟨_,O3,E3⟩ G3 gr4
     have hs3:=mo3.size
     have mo:=mo3.trans (Mo.blk gr4 hg (by omega))
     have hgl1:=G3.lt
     (try clear cG3 fG3);have cG3:=G3.cell;have fG3:=G3.frozen
     go_wp2_with fail
     obtain ⟨W,hW⟩:∃ W,W=w3.setCell ⟨g,3,none⟩ (.slice B2 n2 c2):=⟨_,rfl⟩
     rw [←hW] at G4 Z4 C4 mo ⊢
     clear hW gr4 G3 Z3 O3 E3 mo3 hs3 cG3 fG3
     obtain ⟨rows,O,E⟩:=C4
     have G:=G4
     have Z:=Z4
     clear G4 Z4
     have hdl:=del_len' clis (i:=o) (by omega)
     have HOP:=HOP0
     clear HOP0
     generalize delRows clis o=l2 at *
     have hrl:=E.len
     have hgz:=blk_ne G Z (by decide)
     refine wp_region_x (l:=[19]) (S:=fun w'=>w'.cell? ⟨g,0,none⟩=some (.int .i64 now)∧w'.cell? ⟨g,2,none⟩=some (.int .i64 next)∧w'.cell? ⟨g,3,none⟩=some (.slice B2 n2 c2)) (by kernel_rfl) ⟨G.drew.cell 0,G.drew.cell 2,G.drew.cell 3⟩ (fun hS=>?_)
     refine wpAnyX_tq 0 ?_
     refine wpAnyX_tq 1 ?_
     refine wpAnyX_tq 2 ?_
     refine wpAnyX_tq 3 ?_
     refine wpAnyX_tq 4 ?_
     refine wpAnyX_tq 5 ?_
     refine wpAnyX_tq 6 ?_
     refine wpAnyX_tq 7 ?_
     refine wpAnyX_tq 8 ?_
     refine wpAnyX_tq 9 ?_
     refine wpAnyX_tq 10 ?_
     refine wpAnyX_tq 11 ?_
     refine wpAnyX_tq 12 ?_
     refine wpAnyX_tq 13 ?_
     refine wpAnyX_tq 14 ?_
     refine wpAnyX_oq 15 fun K hK=>?_
     go_wp2_with fail
     have G1:=G.drew.alloc (.cells #[.int .i64 next,.int .i64 0,.int .i64 now,.int .i64 0,.string { data:=#[] },.int .i64 0,.slice none 0 0] 104)
     have Z1:=Z.drew.alloc (.cells #[.int .i64 next,.int .i64 0,.int .i64 now,.int .i64 0,.string { data:=#[] },.int .i64 0,.slice none 0 0] 104)
     have O1:=(Own.drew O).alloc (.cells #[.int .i64 next,.int .i64 0,.int .i64 now,.int .i64 0,.string { data:=#[] },.int .i64 0,.slice none 0 0] 104)
     have q1:Below W.heap.size W (W.drew.alloc (.cells #[.int .i64 next,.int .i64 0,.int .i64 now,.int .i64 0,.string { data:=#[] },.int .i64 0,.slice none 0 0] 104)):=below_by
     have hbW:=mo.size
     refine hK.out _ _ (Or.inr ⟨G1.cell 0,G1.cell 2,G1.cell 3⟩) (fun hS=>?_)
     replace hS:=hS.resolve_left (by decide)
     clear hK K
     refine wpAnyX_oq 16 fun K hK=>?_
     refine wpList_push_g rfl _ _ _ rfl Tryz.underlying39 cli_info rfl (by omega) (by rfl) (Own.drew O) (H:=W.drew.heap.size) rfl (by rfl) (row:=#[.int .i64 next,.int .i64 0,.int .i64 now,.int .i64 0,.string { data:=#[] },.int .i64 0,.slice none 0 0]) rfl (all_one rfl) ?p1 ?p2 ?p3 ?p4
     case p1=>unfold maxLen;omega
     case p2=>omega
     case p3=>exact Nat.le_trans hb hbW
     case p4=>
     intro B9 n9 c9 w9 O9 gr9
     have G9:=blk_other G1 O1 gr9
     have Z9:=blk_other Z1 O1 gr9
     have f9:=(Fr.of q1).trans (Fr.own O1 gr9)
     have C9:ClOwn w9 base B9 n9 c9 (l2 ++ [⟨next,0,now,zeroRe⟩]):=⟨_,O9,(E.fr f9).app (Cls.one_ ⟨none,0,0,rfl,TxSl.nil _⟩)⟩
     have mo9:=(mo.trans (Mo.of q1 (by omega))).trans (Mo.own O1 gr9 (by simp;omega))
     refine hK.out _ _ (Or.inr ⟨G9.cell 0,G9.cell 2,G9.cell 3⟩) (fun hS=>?_)
     replace hS:=hS.resolve_left (by decide)
     clear hK K O9 gr9 O1 G1 Z1 q1 f9 O E G Z mo
     (try clear cG9 fG9);have cG9:=G9.cell;have fG9:=G9.frozen
     refine wpAnyX_ps 17 ?_
     refine wpAnyX_ps 18 ?_
     refine wpAnyX_oq 19 fun K hK=>?_
     go_wp2_with fail
     have gr10:=grown_setRow_cell w9 g 3 (.slice B9 n9 c9)
     have G10:=G9.set' (i:=3) (u:=.slice B9 n9 c9) rfl
     have Z10:=grown_blk Z9 gr10 hgz.symm
     have C10:=C9.grown G9 gr10
     have mo10:=mo9.trans (Mo.blk gr10 hg (by have:=mo9.size;omega))
     refine hK.out _ _ (Or.inl (by decide)) (fun hS=>?_)
     clear hK K hS cG9 fG9
     refine wpAnyX_done (by kernel_rfl) ?_ _
     obtain ⟨wa,hwa⟩:∃ wa,wa=w9.setCell ⟨g,3,none⟩ (.slice B9 n9 c9):=⟨_,rfl⟩
     rw [←hwa] at G10 Z10 C10 mo10 ⊢
     clear hwa gr10 G9 Z9 C9 mo9
     have gr11:=grown_setRow_cell wa g 2 (.int .i64 (next+1))
     have G11:=G10.set' (i:=2) (u:=.int .i64 (next+1)) rfl
     have Z11:=grown_blk Z10 gr11 hgz.symm
     obtain ⟨Z12,gr12,sz12⟩:=whole_reply (.int .i64 0) (.string { data:=#[] }) (.int .i64 next) (.slice none 0 0) Z11
     have G12:=grown_blk G11 gr12 hgz
     have C12:=(C10.grown G10 gr11).grown Z11 gr12
     have hs10:=mo10.size
     have mo12:=(mo10.trans (Mo.blk gr11 hg (by omega))).fresh gr12 (Nat.le_refl _) hb
     have HP:=hide (show OpenPost ⟨now,ents,next,clis⟩ g base A na ca w (.returned (.agg #[.int .i64 0,.string { data:=#[] },.int .i64 next,.slice none 0 0])) _ from ⟨B9,n9,c9,by rw [HOP.out];rfl,by rw [HOP.out];exact G12,by rw [HOP.out];exact C12,mo12⟩)
     have cZ12:=hide Z12.cell
     have hl1:=G10.lt
     have hl2:=Z10.lt
     clear Z12 gr11 gr12 sz12 G11 Z11 G12 C12 mo12 C10 mo10 HOP hs10
     (try clear cG10 fG10);have cG10:=G10.cell;have fG10:=G10.frozen;(try clear cZ10 fZ10);have cZ10:=Z10.cell;have fZ10:=Z10.frozen
     go_wp2_with fail
     have cZ12:=cZ12.out
     refine bodyPost_ret (v:=.agg #[.int .i64 0,.string { data:=#[] },.int .i64 next,.slice none 0 0]) ?_ rfl HP.out
     simp [results,Tryz.results66,go_sem,cZ12]
  ·rw [if_neg h4] at hop
   have h4':¬ ((nb:Int)=4):=by have:=O0.n_eq;omega
   have HOP:=hide hop
   clear hop
   obtain ⟨now,ents,next,l2⟩:=m
   simp only at hgl hfull h4 HOP E0 hwn hwm hf hln hn0 hn1
   clear hG
   have hgl1:=hgl.lt
   (try clear chgl fhgl);have chgl:=hgl.cell;have fhgl:=hgl.frozen
   go_enter Tryz.func66,Tryz.ntmps66
   go_wp2_with fail
   have mo:Mo base g w (w.alloc (.cells #[.int .i64 0,.string { data:=#[] },.int .i64 0,.slice none 0 0] 102)):=Mo.of q0 hb
   have O:=O0.alloc (.cells #[.int .i64 0,.string { data:=#[] },.int .i64 0,.slice none 0 0] 102)
   have E:=E0.fr (Fr.of q0)
   obtain ⟨W,hW⟩:∃ W,W=w.alloc (.cells #[.int .i64 0,.string { data:=#[] },.int .i64 0,.slice none 0 0] 102):=⟨_,rfl⟩
   rw [←hW] at hgl hZ mo O E ⊢
   clear hW chgl fhgl O0 E0 q0
   have G:=hgl
   have Z:=hZ
   clear hgl hZ
   have hrl:=E.len
   have hgz:=blk_ne G Z (by decide)
   refine wp_region_x (l:=[19]) (S:=fun w'=>w'.cell? ⟨g,0,none⟩=some (.int .i64 now)∧w'.cell? ⟨g,2,none⟩=some (.int .i64 next)∧w'.cell? ⟨g,3,none⟩=some (.slice B nb cb)) (by kernel_rfl) ⟨G.drew.cell 0,G.drew.cell 2,G.drew.cell 3⟩ (fun hS=>?_)
   refine wpAnyX_tq 0 ?_
   refine wpAnyX_tq 1 ?_
   refine wpAnyX_tq 2 ?_
   refine wpAnyX_tq 3 ?_
   refine wpAnyX_tq 4 ?_
   refine wpAnyX_tq 5 ?_
   refine wpAnyX_tq 6 ?_
   refine wpAnyX_tq 7 ?_
   refine wpAnyX_tq 8 ?_
   refine wpAnyX_tq 9 ?_
   refine wpAnyX_tq 10 ?_
   refine wpAnyX_tq 11 ?_
   refine wpAnyX_tq 12 ?_
   refine wpAnyX_tq 13 ?_
   refine wpAnyX_tq 14 ?_
   refine wpAnyX_oq 15 fun K hK=>?_
   go_wp2_with fail
   have G1:=G.drew.alloc (.cells #[.int .i64 next,.int .i64 0,.int .i64 now,.int .i64 0,.string { data:=#[] },.int .i64 0,.slice none 0 0] 104)
   have Z1:=Z.drew.alloc (.cells #[.int .i64 next,.int .i64 0,.int .i64 now,.int .i64 0,.string { data:=#[] },.int .i64 0,.slice none 0 0] 104)
   have O1:=(Own.drew O).alloc (.cells #[.int .i64 next,.int .i64 0,.int .i64 now,.int .i64 0,.string { data:=#[] },.int .i64 0,.slice none 0 0] 104)
   have q1:Below W.heap.size W (W.drew.alloc (.cells #[.int .i64 next,.int .i64 0,.int .i64 now,.int .i64 0,.string { data:=#[] },.int .i64 0,.slice none 0 0] 104)):=below_by
   have hbW:=mo.size
   refine hK.out _ _ (Or.inr ⟨G1.cell 0,G1.cell 2,G1.cell 3⟩) (fun hS=>?_)
   replace hS:=hS.resolve_left (by decide)
   clear hK K
   refine wpAnyX_oq 16 fun K hK=>?_
   refine wpList_push_g rfl _ _ _ rfl Tryz.underlying39 cli_info rfl (by omega) (by rfl) (Own.drew O) (H:=W.drew.heap.size) rfl (by rfl) (row:=#[.int .i64 next,.int .i64 0,.int .i64 now,.int .i64 0,.string { data:=#[] },.int .i64 0,.slice none 0 0]) rfl (all_one rfl) ?p1b ?p2b ?p3b ?p4b
   case p1b=>unfold maxLen;omega
   case p2b=>omega
   case p3b=>exact Nat.le_trans hb hbW
   case p4b=>
   intro B9 n9 c9 w9 O9 gr9
   have G9:=blk_other G1 O1 gr9
   have Z9:=blk_other Z1 O1 gr9
   have f9:=(Fr.of q1).trans (Fr.own O1 gr9)
   have C9:ClOwn w9 base B9 n9 c9 (l2 ++ [⟨next,0,now,zeroRe⟩]):=⟨_,O9,(E.fr f9).app (Cls.one_ ⟨none,0,0,rfl,TxSl.nil _⟩)⟩
   have mo9:=(mo.trans (Mo.of q1 (by omega))).trans (Mo.own O1 gr9 (by simp;omega))
   refine hK.out _ _ (Or.inr ⟨G9.cell 0,G9.cell 2,G9.cell 3⟩) (fun hS=>?_)
   replace hS:=hS.resolve_left (by decide)
   clear hK K O9 gr9 O1 G1 Z1 q1 f9 O E G Z mo
   (try clear cG9 fG9);have cG9:=G9.cell;have fG9:=G9.frozen
   refine wpAnyX_ps 17 ?_
   refine wpAnyX_ps 18 ?_
   refine wpAnyX_oq 19 fun K hK=>?_
   go_wp2_with fail
   have gr10:=grown_setRow_cell w9 g 3 (.slice B9 n9 c9)
   have G10:=G9.set' (i:=3) (u:=.slice B9 n9 c9) rfl
   have Z10:=grown_blk Z9 gr10 hgz.symm
   have C10:=C9.grown G9 gr10
   have mo10:=mo9.trans (Mo.blk gr10 hg (by have:=mo9.size;omega))
   refine hK.out _ _ (Or.inl (by decide)) (fun hS=>?_)
   clear hK K hS cG9 fG9
   refine wpAnyX_done (by kernel_rfl) ?_ _
   obtain ⟨wa,hwa⟩:∃ wa,wa=w9.setCell ⟨g,3,none⟩ (.slice B9 n9 c9):=⟨_,rfl⟩
   rw [←hwa] at G10 Z10 C10 mo10 ⊢
   clear hwa gr10 G9 Z9 C9 mo9
   have gr11:=grown_setRow_cell wa g 2 (.int .i64 (next+1))
   have G11:=G10.set' (i:=2) (u:=.int .i64 (next+1)) rfl
   have Z11:=grown_blk Z10 gr11 hgz.symm
   obtain ⟨Z12,gr12,sz12⟩:=whole_reply (.int .i64 0) (.string { data:=#[] }) (.int .i64 next) (.slice none 0 0) Z11
   have G12:=grown_blk G11 gr12 hgz
   have C12:=(C10.grown G10 gr11).grown Z11 gr12
   have hs10:=mo10.size
   have mo12:=(mo10.trans (Mo.blk gr11 hg (by omega))).fresh gr12 (Nat.le_refl _) hb
   have HP:=hide (show OpenPost ⟨now,ents,next,l2⟩ g base A na ca w (.returned (.agg #[.int .i64 0,.string { data:=#[] },.int .i64 next,.slice none 0 0])) _ from ⟨B9,n9,c9,by rw [HOP.out];rfl,by rw [HOP.out];exact G12,by rw [HOP.out];exact C12,mo12⟩)
   have cZ12:=hide Z12.cell
   have hl1:=G10.lt
   have hl2:=Z10.lt
   clear Z12 gr11 gr12 sz12 G11 Z11 G12 C12 mo12 C10 mo10 HOP hs10
   (try clear cG10 fG10);have cG10:=G10.cell;have fG10:=G10.frozen;(try clear cZ10 fZ10);have cZ10:=Z10.cell;have fZ10:=Z10.frozen
   go_wp2_with fail
   have cZ12:=cZ12.out
   refine bodyPost_ret (v:=.agg #[.int .i64 0,.string { data:=#[] },.int .i64 next,.slice none 0 0]) ?_ rfl HP.out
   simp [results,Tryz.results66,go_sem,cZ12]
end Go.Proofs.YtgmojjclobkpjaaGreatDoor

