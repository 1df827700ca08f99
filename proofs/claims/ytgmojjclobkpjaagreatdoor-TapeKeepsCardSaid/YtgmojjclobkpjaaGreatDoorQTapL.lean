import Derived.Test.YtgmojjclobkpjaaGreatDoorQTapG
import Derived.Test.YtgmojjclobkpjaaGreatDoorQSame
namespace Go.Proofs.YtgmojjclobkpjaaGreatDoor
set_option linter.all false
set_option maxHeartbeats 32000000
open Go.RowKit
set_option maxRecDepth 100000 in
theorem same_mark (t f:Int) (w:World) :
  Calls Tryz.prog 27 #[.agg #[.int .i64 1,.int .i64 t,.int .i64 f,.int .i64 0,.int .i64 0,.int .i64 0,.bool false,.int .i64 0,.int .i64 0,.int .i64 0,.string { data:=#[] },.string { data:=#[] },.string { data:=#[] },.int .i64 0,.int .i64 0,.int .i64 0,.int .i64 0,.slice none 0 0,.int .i64 0,.slice none 0 0],.agg #[.int .i64 1,.int .i64 t,.int .i64 f,.int .i64 0,.int .i64 0,.int .i64 0,.bool false,.int .i64 0,.int .i64 0,.int .i64 0,.string { data:=#[] },.string { data:=#[] },.string { data:=#[] },.int .i64 0,.int .i64 0,.int .i64 0,.int .i64 0,.slice none 0 0,.int .i64 0,.slice none 0 0]] w fun e w'=>e = .returned (.bool true)∧Below w.heap.size w w':=by
 have hit:∀ w,(binOp .eql 35 (.agg #[.int .i64 0,.int .i64 0,.bool false,.int .i64 0,.int .i64 0,.int .i64 0,.string { data:=#[] },.string { data:=#[] },.string { data:=#[] },.int .i64 0]) (.agg #[.int .i64 0,.int .i64 0,.bool false,.int .i64 0,.int .i64 0,.int .i64 0,.string { data:=#[] },.string { data:=#[] },.string { data:=#[] },.int .i64 0])).run Tryz.prog w = .ok (.bool true) w:=fun w=>by simp [go_sem]
 have T0:=(Blk.new w 45 #[.int .i64 1,.int .i64 t,.int .i64 f,.int .i64 0,.int .i64 0,.int .i64 0,.bool false,.int .i64 0,.int .i64 0,.int .i64 0,.string { data:=#[] },.string { data:=#[] },.string { data:=#[] },.int .i64 0,.int .i64 0,.int .i64 0,.int .i64 0,.slice none 0 0,.int .i64 0,.slice none 0 0]).alloc (.cells #[.int .i64 1,.int .i64 t,.int .i64 f,.int .i64 0,.int .i64 0,.int .i64 0,.bool false,.int .i64 0,.int .i64 0,.int .i64 0,.string { data:=#[] },.string { data:=#[] },.string { data:=#[] },.int .i64 0,.int .i64 0,.int .i64 0,.int .i64 0,.slice none 0 0,.int .i64 0,.slice none 0 0] 45)
 have T1:Blk ((w.alloc (.cells #[.int .i64 1,.int .i64 t,.int .i64 f,.int .i64 0,.int .i64 0,.int .i64 0,.bool false,.int .i64 0,.int .i64 0,.int .i64 0,.string { data:=#[] },.string { data:=#[] },.string { data:=#[] },.int .i64 0,.int .i64 0,.int .i64 0,.int .i64 0,.slice none 0 0,.int .i64 0,.slice none 0 0] 45)).alloc (.cells #[.int .i64 1,.int .i64 t,.int .i64 f,.int .i64 0,.int .i64 0,.int .i64 0,.bool false,.int .i64 0,.int .i64 0,.int .i64 0,.string { data:=#[] },.string { data:=#[] },.string { data:=#[] },.int .i64 0,.int .i64 0,.int .i64 0,.int .i64 0,.slice none 0 0,.int .i64 0,.slice none 0 0] 45)) (w.heap.size+1) 45 #[.int .i64 1,.int .i64 t,.int .i64 f,.int .i64 0,.int .i64 0,.int .i64 0,.bool false,.int .i64 0,.int .i64 0,.int .i64 0,.string { data:=#[] },.string { data:=#[] },.string { data:=#[] },.int .i64 0,.int .i64 0,.int .i64 0,.int .i64 0,.slice none 0 0,.int .i64 0,.slice none 0 0]:=Blk.new' _ _ _ (by simp)
 have qq:Below w.heap.size w ((w.alloc (.cells #[.int .i64 1,.int .i64 t,.int .i64 f,.int .i64 0,.int .i64 0,.int .i64 0,.bool false,.int .i64 0,.int .i64 0,.int .i64 0,.string { data:=#[] },.string { data:=#[] },.string { data:=#[] },.int .i64 0,.int .i64 0,.int .i64 0,.int .i64 0,.slice none 0 0,.int .i64 0,.slice none 0 0] 45)).alloc (.cells #[.int .i64 1,.int .i64 t,.int .i64 f,.int .i64 0,.int .i64 0,.int .i64 0,.bool false,.int .i64 0,.int .i64 0,.int .i64 0,.string { data:=#[] },.string { data:=#[] },.string { data:=#[] },.int .i64 0,.int .i64 0,.int .i64 0,.int .i64 0,.slice none 0 0,.int .i64 0,.slice none 0 0] 45)):=below_by
 go_enter Tryz.func27,Tryz.ntmps27
 (try clear cT0 fT0);have cT0:=T0.cell;have fT0:=T0.frozen;(try clear cT1 fT1);have cT1:=T1.cell;have fT1:=T1.frozen
 go_wp2_with fail
 refine (sameMachine_eq ⟨0,[],0,[]⟩ none none none none 0 0 0 0 0 0 0 0 _ (St.nil _) (St.nil _) (Ci.nil _) (Ci.nil _) (by simp) (by simp)).mono ?_
 rintro e w1 ⟨rfl,b1⟩
 have q1:=bstep qq b1
 go_wp2_with fail
 go_ret
 exact ⟨rfl,q1⟩
set_option maxRecDepth 100000 in
theorem same_line (i:Int) (x:Itm) (w:World) :
  Calls Tryz.prog 27 #[.agg #[.int .i64 2,.int .i64 0,.int .i64 0,.int .i64 i,.int .i64 x.term,.int .i64 x.time,.bool x.nop,.int .i64 x.client,.int .i64 x.seq,.int .i64 x.cmd.kind,.string x.cmd.key,.string x.cmd.field,.string x.cmd.text,.int .i64 x.cmd.n,.int .i64 0,.int .i64 0,.int .i64 0,.slice none 0 0,.int .i64 0,.slice none 0 0],.agg #[.int .i64 2,.int .i64 0,.int .i64 0,.int .i64 i,.int .i64 x.term,.int .i64 x.time,.bool x.nop,.int .i64 x.client,.int .i64 x.seq,.int .i64 x.cmd.kind,.string x.cmd.key,.string x.cmd.field,.string x.cmd.text,.int .i64 x.cmd.n,.int .i64 0,.int .i64 0,.int .i64 0,.slice none 0 0,.int .i64 0,.slice none 0 0]] w fun e w'=>e = .returned (.bool true)∧Below w.heap.size w w':=by
 have hit:∀ w,(binOp .eql 35 (.agg #[.int .i64 x.term,.int .i64 x.time,.bool x.nop,.int .i64 x.client,.int .i64 x.seq,.int .i64 x.cmd.kind,.string x.cmd.key,.string x.cmd.field,.string x.cmd.text,.int .i64 x.cmd.n]) (.agg #[.int .i64 x.term,.int .i64 x.time,.bool x.nop,.int .i64 x.client,.int .i64 x.seq,.int .i64 x.cmd.kind,.string x.cmd.key,.string x.cmd.field,.string x.cmd.text,.int .i64 x.cmd.n])).run Tryz.prog w = .ok (.bool true) w:=fun w=>by simp [go_sem]
 have T0:=(Blk.new w 45 #[.int .i64 2,.int .i64 0,.int .i64 0,.int .i64 i,.int .i64 x.term,.int .i64 x.time,.bool x.nop,.int .i64 x.client,.int .i64 x.seq,.int .i64 x.cmd.kind,.string x.cmd.key,.string x.cmd.field,.string x.cmd.text,.int .i64 x.cmd.n,.int .i64 0,.int .i64 0,.int .i64 0,.slice none 0 0,.int .i64 0,.slice none 0 0]).alloc (.cells #[.int .i64 2,.int .i64 0,.int .i64 0,.int .i64 i,.int .i64 x.term,.int .i64 x.time,.bool x.nop,.int .i64 x.client,.int .i64 x.seq,.int .i64 x.cmd.kind,.string x.cmd.key,.string x.cmd.field,.string x.cmd.text,.int .i64 x.cmd.n,.int .i64 0,.int .i64 0,.int .i64 0,.slice none 0 0,.int .i64 0,.slice none 0 0] 45)
 have T1:Blk ((w.alloc (.cells #[.int .i64 2,.int .i64 0,.int .i64 0,.int .i64 i,.int .i64 x.term,.int .i64 x.time,.bool x.nop,.int .i64 x.client,.int .i64 x.seq,.int .i64 x.cmd.kind,.string x.cmd.key,.string x.cmd.field,.string x.cmd.text,.int .i64 x.cmd.n,.int .i64 0,.int .i64 0,.int .i64 0,.slice none 0 0,.int .i64 0,.slice none 0 0] 45)).alloc (.cells #[.int .i64 2,.int .i64 0,.int .i64 0,.int .i64 i,.int .i64 x.term,.int .i64 x.time,.bool x.nop,.int .i64 x.client,.int .i64 x.seq,.int .i64 x.cmd.kind,.string x.cmd.key,.string x.cmd.field,.string x.cmd.text,.int .i64 x.cmd.n,.int .i64 0,.int .i64 0,.int .i64 0,.slice none 0 0,.int .i64 0,.slice none 0 0] 45)) (w.heap.size+1) 45 #[.int .i64 2,.int .i64 0,.int .i64 0,.int .i64 i,.int .i64 x.term,.int .i64 x.time,.bool x.nop,.int .i64 x.client,.int .i64 x.seq,.int .i64 x.cmd.kind,.string x.cmd.key,.string x.cmd.field,.string x.cmd.text,.int .i64 x.cmd.n,.int .i64 0,.int .i64 0,.int .i64 0,.slice none 0 0,.int .i64 0,.slice none 0 0]:=Blk.new' _ _ _ (by simp)
 have qq:Below w.heap.size w ((w.alloc (.cells #[.int .i64 2,.int .i64 0,.int .i64 0,.int .i64 i,.int .i64 x.term,.int .i64 x.time,.bool x.nop,.int .i64 x.client,.int .i64 x.seq,.int .i64 x.cmd.kind,.string x.cmd.key,.string x.cmd.field,.string x.cmd.text,.int .i64 x.cmd.n,.int .i64 0,.int .i64 0,.int .i64 0,.slice none 0 0,.int .i64 0,.slice none 0 0] 45)).alloc (.cells #[.int .i64 2,.int .i64 0,.int .i64 0,.int .i64 i,.int .i64 x.term,.int .i64 x.time,.bool x.nop,.int .i64 x.client,.int .i64 x.seq,.int .i64 x.cmd.kind,.string x.cmd.key,.string x.cmd.field,.string x.cmd.text,.int .i64 x.cmd.n,.int .i64 0,.int .i64 0,.int .i64 0,.slice none 0 0,.int .i64 0,.slice none 0 0] 45)):=below_by
 go_enter Tryz.func27,Tryz.ntmps27
 (try clear cT0 fT0);have cT0:=T0.cell;have fT0:=T0.frozen;(try clear cT1 fT1);have cT1:=T1.cell;have fT1:=T1.frozen
 go_wp2_with fail
 refine (sameMachine_eq ⟨0,[],0,[]⟩ none none none none 0 0 0 0 0 0 0 0 _ (St.nil _) (St.nil _) (Ci.nil _) (Ci.nil _) (by simp) (by simp)).mono ?_
 rintro e w1 ⟨rfl,b1⟩
 have q1:=bstep qq b1
 go_wp2_with fail
 go_ret
 exact ⟨rfl,q1⟩
set_option maxRecDepth 100000 in
theorem same_load (i t:Int) (m:Mach) (hok:MachOk m) (A1:Option Addr) (n1 c1:Nat) (B1:Option Addr) (k1 d1:Nat) (A2:Option Addr) (n2 c2:Nat) (B2:Option Addr) (k2 d2:Nat) (w:World) (hE1:St w A1 n1 c1 m.ents) (hC1:Ci w B1 k1 d1 m.clis) (hE2:St w A2 n2 c2 m.ents) (hC2:Ci w B2 k2 d2 m.clis) :
  Calls Tryz.prog 27 #[.agg #[.int .i64 3,.int .i64 0,.int .i64 0,.int .i64 0,.int .i64 0,.int .i64 0,.bool false,.int .i64 0,.int .i64 0,.int .i64 0,.string { data:=#[] },.string { data:=#[] },.string { data:=#[] },.int .i64 0,.int .i64 i,.int .i64 t,.int .i64 m.now,.slice A1 n1 c1,.int .i64 m.next,.slice B1 k1 d1],.agg #[.int .i64 3,.int .i64 0,.int .i64 0,.int .i64 0,.int .i64 0,.int .i64 0,.bool false,.int .i64 0,.int .i64 0,.int .i64 0,.string { data:=#[] },.string { data:=#[] },.string { data:=#[] },.int .i64 0,.int .i64 i,.int .i64 t,.int .i64 m.now,.slice A2 n2 c2,.int .i64 m.next,.slice B2 k2 d2]] w fun e w'=>e = .returned (.bool true)∧Below w.heap.size w w':=by
 have hit:∀ w,(binOp .eql 35 (.agg #[.int .i64 0,.int .i64 0,.bool false,.int .i64 0,.int .i64 0,.int .i64 0,.string { data:=#[] },.string { data:=#[] },.string { data:=#[] },.int .i64 0]) (.agg #[.int .i64 0,.int .i64 0,.bool false,.int .i64 0,.int .i64 0,.int .i64 0,.string { data:=#[] },.string { data:=#[] },.string { data:=#[] },.int .i64 0])).run Tryz.prog w = .ok (.bool true) w:=fun w=>by simp [go_sem]
 have HSM:=hide (fun w' (q:Below w.heap.size w w')=>sameMachine_eq m A1 A2 B1 B2 n1 c1 n2 c2 k1 d1 k2 d2 w' (hE1.bl q) (hE2.bl q) (hC1.bl q) (hC2.bl q) (by have:=hok.sto.few;omega) (by have:=hok.few;omega))
 clear hE1 hE2 hC1 hC2 hok
 have T0:=(Blk.new w 45 #[.int .i64 3,.int .i64 0,.int .i64 0,.int .i64 0,.int .i64 0,.int .i64 0,.bool false,.int .i64 0,.int .i64 0,.int .i64 0,.string { data:=#[] },.string { data:=#[] },.string { data:=#[] },.int .i64 0,.int .i64 i,.int .i64 t,.int .i64 m.now,.slice A1 n1 c1,.int .i64 m.next,.slice B1 k1 d1]).alloc (.cells #[.int .i64 3,.int .i64 0,.int .i64 0,.int .i64 0,.int .i64 0,.int .i64 0,.bool false,.int .i64 0,.int .i64 0,.int .i64 0,.string { data:=#[] },.string { data:=#[] },.string { data:=#[] },.int .i64 0,.int .i64 i,.int .i64 t,.int .i64 m.now,.slice A2 n2 c2,.int .i64 m.next,.slice B2 k2 d2] 45)
 have T1:Blk ((w.alloc (.cells #[.int .i64 3,.int .i64 0,.int .i64 0,.int .i64 0,.int .i64 0,.int .i64 0,.bool false,.int .i64 0,.int .i64 0,.int .i64 0,.string { data:=#[] },.string { data:=#[] },.string { data:=#[] },.int .i64 0,.int .i64 i,.int .i64 t,.int .i64 m.now,.slice A1 n1 c1,.int .i64 m.next,.slice B1 k1 d1] 45)).alloc (.cells #[.int .i64 3,.int .i64 0,.int .i64 0,.int .i64 0,.int .i64 0,.int .i64 0,.bool false,.int .i64 0,.int .i64 0,.int .i64 0,.string { data:=#[] },.string { data:=#[] },.string { data:=#[] },.int .i64 0,.int .i64 i,.int .i64 t,.int .i64 m.now,.slice A2 n2 c2,.int .i64 m.next,.slice B2 k2 d2] 45)) (w.heap.size+1) 45 #[.int .i64 3,.int .i64 0,.int .i64 0,.int .i64 0,.int .i64 0,.int .i64 0,.bool false,.int .i64 0,.int .i64 0,.int .i64 0,.string { data:=#[] },.string { data:=#[] },.string { data:=#[] },.int .i64 0,.int .i64 i,.int .i64 t,.int .i64 m.now,.slice A2 n2 c2,.int .i64 m.next,.slice B2 k2 d2]:=Blk.new' _ _ _ (by simp)
 have qq:Below w.heap.size w ((w.alloc (.cells #[.int .i64 3,.int .i64 0,.int .i64 0,.int .i64 0,.int .i64 0,.int .i64 0,.bool false,.int .i64 0,.int .i64 0,.int .i64 0,.string { data:=#[] },.string { data:=#[] },.string { data:=#[] },.int .i64 0,.int .i64 i,.int .i64 t,.int .i64 m.now,.slice A1 n1 c1,.int .i64 m.next,.slice B1 k1 d1] 45)).alloc (.cells #[.int .i64 3,.int .i64 0,.int .i64 0,.int .i64 0,.int .i64 0,.int .i64 0,.bool false,.int .i64 0,.int .i64 0,.int .i64 0,.string { data:=#[] },.string { data:=#[] },.string { data:=#[] },.int .i64 0,.int .i64 i,.int .i64 t,.int .i64 m.now,.slice A2 n2 c2,.int .i64 m.next,.slice B2 k2 d2] 45)):=below_by
 go_enter Tryz.func27,Tryz.ntmps27
 (try clear cT0 fT0);have cT0:=T0.cell;have fT0:=T0.frozen;(try clear cT1 fT1);have cT1:=T1.cell;have fT1:=T1.frozen
 go_wp2_with fail
 refine (HSM.out _ qq).mono ?_
 rintro e w1 ⟨rfl,b1⟩
 have q1:=bstep qq b1
 go_wp2_with fail
 go_ret
 exact ⟨rfl,q1⟩
theorem sameRecord_any {r:RK} (hr:r.Ok) {row1 row2:List Value} (w:World) (h1:RecAt w r row1) (h2:RecAt w r row2) :
  Calls Tryz.prog 27 #[.agg row1.toArray,.agg row2.toArray] w fun e w'=>e = .returned (.bool true)∧Below w.heap.size w w':=by
 cases r with
 | mark t f=>rw [show row1=markCells t f from h1,show row2=markCells t f from h2];exact same_mark t f w
 | line i x=>rw [show row1=lineCells i x from h1,show row2=lineCells i x from h2];exact same_line i x w
 | load i t m=>
  obtain ⟨A,n,c,B,k,d,rfl,e1,e2⟩:=h1
  obtain ⟨A',n',c',B',k',d',rfl,e3,e4⟩:=h2
  exact same_load i t m hr.2.2 A n c B k d A' n' c' B' k' d' w e1 e2 e3 e4
set_option maxRecDepth 100000 in
theorem begins_any (A B:Option Addr) (n c m d:Nat) (r1 r2:List RK) (rows1 rows2:List (List Value)) (w:World) (h1:Recs w A n c r1 rows1) (h2:Recs w B m d r2 rows2) (hp:∃ rest,r2=r1 ++ rest) (hok:∀ r∈r1,r.Ok) :
  Calls Tryz.prog 24 #[.slice A n c,.slice B m d] w fun e w'=>e = .returned (.bool true)∧Below w.heap.size w w':=by
 obtain rfl:=h1.n_
 obtain rfl:=h2.n_
 have hn1:=h1.sl.nc
 have hm1:=h1.sl.cm
 have hn2:=h2.sl.nc
 have hm2:=h2.sl.cm
 unfold maxLen at hm1 hm2
 have hle:r1.length≤r2.length:=by obtain ⟨x,rfl⟩:=hp;simp
 have HAT:=hide (fun k (h:k<r1.length) (h':k<r2.length)=>(show r2[k]=r1[k] by obtain ⟨x,rfl⟩:=hp;exact List.getElem_append_left h))
 have HOK:=hide hok
 clear hok hp
 have g1:¬ ((r2.length:Int)<(r1.length:Int)):=by omega
 go_enter Tryz.func24,Tryz.ntmps24
 go_wp2_with fail
 go_loopw [5] (fun s5 wr=>∃ k:Nat,k≤r1.length∧s5 = .int .i64 (k:Int)∧Below w.heap.size w wr) (fun s5 _=>r1.length - (intOf s5).toNat)
 case atStart=>exact ⟨0,by omega,rfl,Below.refl _ _⟩
 case round=>
  obtain ⟨k,hk,rfl,q⟩:=hrel
  by_cases hlt:k<r1.length
  ·have hlt2:k<r2.length:=by omega
   obtain ⟨b1,o1,row1,rfl,hb1,hg1,hr1⟩:=(h1.bl q).range hlt
   obtain ⟨b2,o2,row2,rfl,hb2,hg2,hr2⟩:=(h2.bl q).range hlt2
   rw [HAT.out k hlt hlt2] at hr2
   have hr:=HOK.out r1[k] (List.getElem_mem hlt)
   have HL1:=hide (show (Tryz.prog.info? 45).map (·.size)=some row1.length by rw [hr1.len];exact rec_size)
   have HL2:=hide (show (Tryz.prog.info? 45).map (·.size)=some row2.length by rw [hr2.len];exact rec_size)
   have HSR:=hide (fun w' (b':Below wr.heap.size wr w')=>sameRecord_any hr w' (hr1.bl b') (hr2.bl b'))
   have HG:=hide (fun w' (b':Below wr.heap.size wr w')=>And.intro (show w'.rangeAt b1 (o1+k*20) row1 from fun j v hv=>by rw [←hg1 j v hv];exact b'.cell (p:=⟨b1,o1+k*20+j,none⟩) hb1) (show w'.rangeAt b2 (o2+k*20) row2 from fun j v hv=>by rw [←hg2 j v hv];exact b'.cell (p:=⟨b2,o2+k*20+j,none⟩) hb2))
   clear hr hr1 hr2 hg1 hg2
   have i1:(k:Int)<(r1.length:Int):=by omega
   have i2:(k:Int)<(r2.length:Int):=by omega
   go_upto_region 6 with fail
   refine wp_region_x (l:=[]) (S:=fun w'=>w'.rangeAt b1 (o1+k*20) row1∧w'.rangeAt b2 (o2+k*20) row2) (by kernel_rfl) (HG.out _ (Below.refl _ wr).drew) (fun hS=>?_)
   have bd:Below wr.heap.size wr wr.drew:=(Below.refl _ wr).drew
   obtain ⟨wd,hwd⟩:∃ wd,wd=wr.drew:=⟨_,rfl⟩
   rw [←hwd] at hS bd ⊢
   clear hwd
   refine wpAnyX_tq 0 ?_
   refine wpAnyX_tq 1 ?_
   refine wpAnyX_tq 2 ?_
   refine wpAnyX_tq 3 ?_ (hy:=yieldsIf_load_mid (by rfl) 45 _ rfl b1 (o1+k*20) rfl row1 _ (fun w' h=>h.1) Tryz.underlying45 rfl HL1.out)
   refine wpAnyX_tq 4 ?_
   refine wpAnyX_tq 5 ?_
   refine wpAnyX_tq 6 ?_
   refine wpAnyX_tq 7 ?_ (hy:=yieldsIf_load_mid (by rfl) 45 _ rfl b2 (o2+k*20) rfl row2 _ (fun w' h=>h.2) Tryz.underlying45 rfl HL2.out)
   refine wpAnyX_oq 8 fun K hK=>?_
   go_wp2_with fail
   refine (HSR.out _ bd).mono ?_
   rintro e_ w2 ⟨rfl,b2_⟩
   go_wp2_with fail
   refine hK.out _ _ (Or.inr (HG.out _ (bstep bd b2_))) (fun hS=>?_)
   replace hS:=hS.resolve_left (by decide)
   clear hK K
   refine wpAnyX_tq 9 ?_
   refine wpAnyX_done (by kernel_rfl) ?_ _
   have q2:=bstep q (bstep bd b2_)
   clear HSR HG hS
   go_wp2_with fail
   go_roundw
   case rel=>exact ⟨k+1,by omega,by go_num,q2⟩
   case measure=>simp [intOf];omega
  ·obtain rfl:k=r1.length:=by omega
   go_wp2_with fail
   go_ret
   exact ⟨rfl,q⟩
end Go.Proofs.YtgmojjclobkpjaaGreatDoor

