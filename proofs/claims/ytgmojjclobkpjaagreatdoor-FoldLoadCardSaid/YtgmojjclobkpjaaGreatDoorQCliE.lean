import Derived.Test.YtgmojjclobkpjaaGreatDoorQCliO
import Derived.Test.YtgmojjclobkpjaaGreatDoorQCliD
import Derived.Test.YtgmojjclobkpjaaGreatDoorQHeldX
import Derived.Test.YtgmojjclobkpjaaGreatDoorQCli
namespace Go.Proofs.YtgmojjclobkpjaaGreatDoor
set_option linter.all false
set_option maxHeartbeats 32000000
open Go.RowKit
def DoMPost (R:Mach×Re×Int) (w:World) (e:Ending) (w':World):Prop:=
 ∃ A n c B n' c' Y m d,e = .returned (.tuple #[.agg #[.int .i64 R.1.now,.slice A n c,.int .i64 R.1.next,.slice B n' c'],.agg #[.int .i64 R.2.1.code,.string R.2.1.text,.int .i64 R.2.1.n,.slice Y m d],.int .i64 R.2.2])∧St w' A n c R.1.ents∧Ci w' B n' c' R.1.clis∧TxSl w' Y m d R.2.1.list∧Below w.heap.size w w'
theorem mach_done {w w2:World} {M:Mach} {r:Re} {k:Int} {b1 b2:Nat} {A B Y:Option Addr} {n c n' c' m d:Nat} {x0 x1 x2 x3 y0 y1 y2 y3:Value} {a0 a1 k0 m0:Int} {t0:ByteArray}
  (P:Blk w2 b1 41 #[x0,x1,x2,x3]) (R:Blk w2 b2 102 #[y0,y1,y2,y3]) (O:St w2 A n c M.ents) (C:Ci w2 B n' c' M.clis) (L:TxSl w2 Y m d r.list) (q:Below w.heap.size w w2) (h1:w.heap.size≤b1) (h2:w.heap.size≤b2)
  (ha:a0=M.now) (hb:a1=M.next) (hk:k0=r.code) (ht:t0=r.text) (hm:m0=r.n) :
  DoMPost (M,r,k) w (.returned (.tuple #[.agg #[.int .i64 a0,.slice A n c,.int .i64 a1,.slice B n' c'],.agg #[.int .i64 k0,.string t0,.int .i64 m0,.slice Y m d],.int .i64 k])) ((((((((w2.setCell ⟨b1,0,none⟩ (.int .i64 a0)).setCell ⟨b1,1,none⟩ (.slice A n c)).setCell ⟨b1,2,none⟩ (.int .i64 a1)).setCell ⟨b1,3,none⟩ (.slice B n' c')).setCell ⟨b2,0,none⟩ (.int .i64 k0)).setCell ⟨b2,1,none⟩ (.string t0)).setCell ⟨b2,2,none⟩ (.int .i64 m0)).setCell ⟨b2,3,none⟩ (.slice Y m d)) ∧
  Blk ((((((((w2.setCell ⟨b1,0,none⟩ (.int .i64 a0)).setCell ⟨b1,1,none⟩ (.slice A n c)).setCell ⟨b1,2,none⟩ (.int .i64 a1)).setCell ⟨b1,3,none⟩ (.slice B n' c')).setCell ⟨b2,0,none⟩ (.int .i64 k0)).setCell ⟨b2,1,none⟩ (.string t0)).setCell ⟨b2,2,none⟩ (.int .i64 m0)).setCell ⟨b2,3,none⟩ (.slice Y m d)) b1 41 #[.int .i64 a0,.slice A n c,.int .i64 a1,.slice B n' c'] ∧
  Blk ((((((((w2.setCell ⟨b1,0,none⟩ (.int .i64 a0)).setCell ⟨b1,1,none⟩ (.slice A n c)).setCell ⟨b1,2,none⟩ (.int .i64 a1)).setCell ⟨b1,3,none⟩ (.slice B n' c')).setCell ⟨b2,0,none⟩ (.int .i64 k0)).setCell ⟨b2,1,none⟩ (.string t0)).setCell ⟨b2,2,none⟩ (.int .i64 m0)).setCell ⟨b2,3,none⟩ (.slice Y m d)) b2 102 #[.int .i64 k0,.string t0,.int .i64 m0,.slice Y m d]:=by
 subst ha;subst hb;subst hk;subst ht;subst hm
 obtain ⟨P2,gr,sz⟩:=whole_mach (.int .i64 M.now) (.slice A n c) (.int .i64 M.next) (.slice B n' c') P
 have hne:b1≠b2:=blk_ne P R (by decide)
 have R2:=grown_blk R gr hne.symm
 have O2:=O.grown P gr
 have C2:=C.grown P gr
 have L2:=L.grown P gr
 have q2:=below_grow q gr q.size h1
 obtain ⟨X9,gr9,-⟩:=whole_reply (.int .i64 r.code) (.string r.text) (.int .i64 r.n) (.slice Y m d) R2
 exact ⟨⟨A,n,c,B,n',c',Y,m,d,rfl,O2.grown R2 gr9,C2.grown R2 gr9,L2.grown R2 gr9,below_grow q2 gr9 q2.size h2⟩,grown_blk P2 gr9 hne,X9⟩
theorem CheckM_ok {m:Mach} (hok:MachOk m) (A B:Option Addr) (na ca nb cb:Nat) (w:World) (hE:St w A na ca m.ents) (hC:Ci w B nb cb m.clis) :
  Calls Tryz.prog 31 #[.agg #[.int .i64 m.now,.slice A na ca,.int .i64 m.next,.slice B nb cb]] w fun e w'=>e = .returned (.int .i64 0)∧Below w.heap.size w w':=by
 refine (CheckM_any m A B na ca nb cb w hE.sl hC.sl (by have:=hE.sl.len;have:=hok.sto.few;omega) (by have:=hC.sl.len;have:=hok.few;omega) (fun x hx=>by obtain ⟨a,b,d⟩:=hok.sto.small x hx;exact ⟨by omega,by omega,by omega⟩) (fun x hx=>by have:=rep_to (hok.cli x hx).rep;exact ⟨by have:=this.text;omega,by have:=this.few;omega⟩)).mono ?_
 rintro e w' ⟨rfl,hb⟩
 exact ⟨by rw [ok_mach hok],hb⟩
theorem own_clis {m:Mach} (hok:MachOk m) (B:Option Addr) (nb cb:Nat) (w:World) (hC:Ci w B nb cb m.clis) :
  Calls Tryz.prog 64 #[.slice B nb cb] w fun e w'=>∃ A' n' c',e = .returned (.slice A' n' c')∧ClOwn w' w.heap.size A' n' c' m.clis∧Below w.heap.size w w':=
 ownClients_any B nb cb m.clis w hC.sl (by have:=hC.sl.len;have:=hok.few;omega) (fun x hx=>by have:=(rep_to (hok.cli x hx).rep).few;omega)
theorem apply_nothing {m:Mach} (hok:MachOk m) {time T:Int} (h0:0≤time) (h1:time≤1073741824) (hT:T=max m.now time):applyS m.now m.ents time ⟨22,{ data:=#[] },{ data:=#[] },{ data:=#[] },0⟩=((T,alive T m.ents),⟨0,emp,0,(alive T m.ents).map En.key⟩,0):=by
 have hn:=hok.sto.now0
 unfold applyS
 rw [if_neg (by rw [ok_store hok.sto];simp),if_neg (by omega),if_neg (by rw [cc_keys];simp),←hT,do_keys rfl]
theorem open_keeps (m:Mach):(openM m).1.now=m.now∧(openM m).1.ents=m.ents∧(openM m).2.list=[]:=by
 unfold openM
 split <;> exact ⟨rfl,rfl,rfl⟩
theorem doM_open (m:Mach) (s:Int) (cm:Cmd):doM m ⟨0,s,cm⟩=openM m:=by unfold doM;rw [if_pos rfl]
theorem doM_none (m:Mach) (c s:Int) (cm:Cmd) (h0:c≠0) (h:m.clis.findIdx? (fun x=>x.id == c)=none):doM m ⟨c,s,cm⟩=(m,failR 11):=by
 have e:m.clis.findIdx? (fun x=>decide (x.id=c))=none:=h
 unfold doM
 simp only
 rw [if_neg h0,e]
theorem doM_at (m:Mach) {i:Nat} (hi:i<m.clis.length) (c s:Int) (cm:Cmd) (h0:c≠0) (h:m.clis.findIdx? (fun x=>x.id == c)=some i) :
  doM m ⟨c,s,cm⟩=if s=m.clis[i].seq then (m,m.clis[i].rep) else if s≠m.clis[i].seq+1 then (m,failR 10) else (⟨m.now,(doS m.now m.ents cm).1,m.next,m.clis.set i ⟨m.clis[i].id,s,m.now,(doS m.now m.ents cm).2⟩⟩,(doS m.now m.ents cm).2):=by
 have e:m.clis.findIdx? (fun x=>decide (x.id=c))=some i:=h
 unfold doM
 simp only
 rw [if_neg h0,e]
 simp only [List.getElem?_eq_getElem hi]
theorem apply_self {now t:Int} {l:List En} {c:Cmd} (hs:StOk now l) (h0:0≤t) (h1:t≤now) (hc:ccOf c=0):applyS now l t c=((now,(doS now l c).1),(doS now l c).2,0):=by
 have hn:=hs.now1
 have e:max now t=now:=by omega
 unfold applyS
 rw [if_neg (by rw [ok_store hs];simp),if_neg (by omega),if_neg (by rw [hc];simp),e]
 have:alive now l=l:=alive_self hs
 simp only [this]
theorem cli_put {w:World} {B g n c i:Nat} {l:List Cl} (h:ClOwn w B (some ⟨g,0,none⟩) n c l) (hi:i<l.length) (s t code k:Int) (tx:ByteArray) {Y:Option Addr} {m d:Nat} {list:List ByteArray} (hT:TxSl w Y m d list) :
  ClOwn ((((((w.setCell ⟨g,i*7+1,none⟩ (.int .i64 s)).setCell ⟨g,i*7+2,none⟩ (.int .i64 t)).setCell ⟨g,i*7+3,none⟩ (.int .i64 code)).setCell ⟨g,i*7+4,none⟩ (.string tx)).setCell ⟨g,i*7+5,none⟩ (.int .i64 k)).setCell ⟨g,i*7+6,none⟩ (.slice Y m d)) B (some ⟨g,0,none⟩) n c (l.set i ⟨l[i].id,s,t,⟨code,tx,k,list⟩⟩) ∧
  w.grownBy ((((((w.setCell ⟨g,i*7+1,none⟩ (.int .i64 s)).setCell ⟨g,i*7+2,none⟩ (.int .i64 t)).setCell ⟨g,i*7+3,none⟩ (.int .i64 code)).setCell ⟨g,i*7+4,none⟩ (.string tx)).setCell ⟨g,i*7+5,none⟩ (.int .i64 k)).setCell ⟨g,i*7+6,none⟩ (.slice Y m d)) (some g):=by
 obtain ⟨rows,O,E⟩:=h
 have hr:i<rows.length:=by have:=E.len;omega
 obtain ⟨r,hr1,Y0,m0,d0,hr2,-⟩:=E.at_ hi
 have hrr:rows[i]=r:=by rw [List.getElem?_eq_getElem hr] at hr1;injection hr1
 have gr:=grown_trans (grown_trans (grown_trans (grown_trans (grown_trans (grown_setRow_cell w g (i*7+1) (.int .i64 s)) (grown_setRow_cell _ g (i*7+2) (.int .i64 t))) (grown_setRow_cell _ g (i*7+3) (.int .i64 code))) (grown_setRow_cell _ g (i*7+4) (.string tx))) (grown_setRow_cell _ g (i*7+5) (.int .i64 k))) (grown_setRow_cell _ g (i*7+6) (.slice Y m d))
 have f:=Fr.own O gr
 have s1:=O.store (i:=i) (j:=1) (u:=.int .i64 s) hr (by omega)
 have s2:=s1.store (i:=i) (j:=2) (u:=.int .i64 t) (by simpa using hr) (by omega)
 have s3:=s2.store (i:=i) (j:=3) (u:=.int .i64 code) (by simpa using hr) (by omega)
 have s4:=s3.store (i:=i) (j:=4) (u:=.string tx) (by simpa using hr) (by omega)
 have s5:=s4.store (i:=i) (j:=5) (u:=.int .i64 k) (by simpa using hr) (by omega)
 have s6:=s5.store (i:=i) (j:=6) (u:=.slice Y m d) (by simpa using hr) (by omega)
 simp only [List.getElem_set_self,List.set_set] at s6
 rw [hrr,hr2] at s6
 exact ⟨⟨_,s6,(E.fr f).set i ⟨Y,m,d,rfl,hT.fr f⟩⟩,gr⟩
set_option maxRecDepth 100000 in
theorem DoM_any {m:Mach} (hok:MachOk m) (c:CallM) (time:Int) (R:Mach×Re×Int) (hR:applyM m time c=R) (ht1 : -9223372036854775808≤time) (ht2:time≤9223372036854775807) (A B:Option Addr) (na ca nb cb:Nat) (w:World) (hE:St w A na ca m.ents) (hC:Ci w B nb cb m.clis) (hN:Noth w) :
  Calls Tryz.prog 40 #[.agg #[.int .i64 m.now,.slice A na ca,.int .i64 m.next,.slice B nb cb],.int .i64 time,.agg #[.int .i64 c.client,.int .i64 c.seq,.int .i64 c.cmd.kind,.string c.cmd.key,.string c.cmd.field,.string c.cmd.text,.int .i64 c.cmd.n]] w (DoMPost R w):=by
 unfold applyM at hR
 rw [if_neg (by rw [ok_mach hok];simp)] at hR
 have hchk:=fun wz (hz:Below w.heap.size w wz)=>CheckM_ok hok A B na ca nb cb wz (hE.bl hz) (hC.bl hz)
 have hown:=fun wz (hz:Below w.heap.size w wz)=>own_clis hok B nb cb wz (hC.bl hz)
 have hcc:=fun wz=>CheckCall_any c.client c.seq c.cmd.kind c.cmd.key c.cmd.field c.cmd.text c.cmd.n wz
 have hcd:checkCall c.client c.seq c.cmd.kind c.cmd.key c.cmd.field c.cmd.text c.cmd.n=ccM c:=rfl
 simp only [hcd] at hcc
 have hn0:=hok.sto.now0
 have hn1:=hok.sto.now1
 obtain ⟨T,hT⟩:∃ T,T=max m.now time:=⟨_,rfl⟩
 rw [←hT] at hR
 have hap:=fun (h0:0≤time) (h1:time≤1073741824) wz (hz:Below w.heap.size w wz)=>Apply_may hok.sto time ⟨22,{ data:=#[] },{ data:=#[] },{ data:=#[] },0⟩ _ (apply_nothing hok h0 h1 hT) h0 (by omega) A na ca wz (hE.bl hz)
 have hlater:=fun (h1:time≤1073741824)=>later_ok hok (t:=T) (by omega) (by omega)
 have hM1:laterM m T=⟨T,alive T m.ents,m.next,m.clis⟩:=rfl
 rw [hM1] at hlater hR
 clear hM1
 have hparts:=fun h=>cc_parts (c:=c) h
 generalize hccz:ccM c=cz at *
 have hnx:=hok.nextm
 have hnx1:=hok.next1
 have hfw:=hok.few
 have hbl:=hC.sl.len
 obtain ⟨now,ents,next,clis⟩:=m
 simp only at hR hap hlater hown hchk hn0 hn1 hT hnx hnx1 hfw hbl ⊢
 generalize alive T ents=es at *
 obtain ⟨cc,cs,⟨ck,cy,cf,ct,cn⟩⟩:=c
 simp only at hR hcc hparts ⊢
 have hTm:time≤T∧now≤T∧(0≤time→time≤1073741824→0≤T∧T≤1073741824):=⟨by omega,by omega,fun _ _=>by omega⟩
 have HTM:=hide hTm
 have HCHK:=hide hchk;have HOWN:=hide hown;have HCC:=hide hcc;have HAP:=hide hap;have HLATER:=hide hlater;have HPARTS:=hide hparts;have HR:=hide hR
 clear hchk hown hcc hcd hap hlater hccz hR hE hC hok hT hn0 hn1 hTm hparts
 have q0:Below w.heap.size w ((((w.alloc (.cells #[.int .i64 now,.slice A na ca,.int .i64 next,.slice B nb cb] 41)).alloc (.cells #[.int .i64 cc,.int .i64 cs,.int .i64 ck,.string cy,.string cf,.string ct,.int .i64 cn] 33)).alloc (.cells #[.int .i64 0,.slice none 0 0,.int .i64 0,.slice none 0 0] 41)).alloc (.cells #[.int .i64 0,.string { data:=#[] },.int .i64 0,.slice none 0 0] 102)):=below_by
 have M0:Blk ((((w.alloc (.cells #[.int .i64 now,.slice A na ca,.int .i64 next,.slice B nb cb] 41)).alloc (.cells #[.int .i64 cc,.int .i64 cs,.int .i64 ck,.string cy,.string cf,.string ct,.int .i64 cn] 33)).alloc (.cells #[.int .i64 0,.slice none 0 0,.int .i64 0,.slice none 0 0] 41)).alloc (.cells #[.int .i64 0,.string { data:=#[] },.int .i64 0,.slice none 0 0] 102)) w.heap.size 41 #[.int .i64 now,.slice A na ca,.int .i64 next,.slice B nb cb]:=(((Blk.new _ _ _).alloc _).alloc _).alloc _
 have C0:Blk ((((w.alloc (.cells #[.int .i64 now,.slice A na ca,.int .i64 next,.slice B nb cb] 41)).alloc (.cells #[.int .i64 cc,.int .i64 cs,.int .i64 ck,.string cy,.string cf,.string ct,.int .i64 cn] 33)).alloc (.cells #[.int .i64 0,.slice none 0 0,.int .i64 0,.slice none 0 0] 41)).alloc (.cells #[.int .i64 0,.string { data:=#[] },.int .i64 0,.slice none 0 0] 102)) (w.heap.size+1) 33 #[.int .i64 cc,.int .i64 cs,.int .i64 ck,.string cy,.string cf,.string ct,.int .i64 cn]:=((Blk.new' _ _ _ (by simp)).alloc _).alloc _
 have P0:Blk ((((w.alloc (.cells #[.int .i64 now,.slice A na ca,.int .i64 next,.slice B nb cb] 41)).alloc (.cells #[.int .i64 cc,.int .i64 cs,.int .i64 ck,.string cy,.string cf,.string ct,.int .i64 cn] 33)).alloc (.cells #[.int .i64 0,.slice none 0 0,.int .i64 0,.slice none 0 0] 41)).alloc (.cells #[.int .i64 0,.string { data:=#[] },.int .i64 0,.slice none 0 0] 102)) (w.heap.size+2) 41 #[.int .i64 0,.slice none 0 0,.int .i64 0,.slice none 0 0]:=(Blk.new' _ _ _ (by simp)).alloc _
 have R0:Blk ((((w.alloc (.cells #[.int .i64 now,.slice A na ca,.int .i64 next,.slice B nb cb] 41)).alloc (.cells #[.int .i64 cc,.int .i64 cs,.int .i64 ck,.string cy,.string cf,.string ct,.int .i64 cn] 33)).alloc (.cells #[.int .i64 0,.slice none 0 0,.int .i64 0,.slice none 0 0] 41)).alloc (.cells #[.int .i64 0,.string { data:=#[] },.int .i64 0,.slice none 0 0] 102)) (w.heap.size+3) 102 #[.int .i64 0,.string { data:=#[] },.int .i64 0,.slice none 0 0]:=Blk.new' _ _ _ (by simp)
 have N0:=hN.bl q0
 go_enter Tryz.func40,Tryz.ntmps40
 go_wp2_with fail
 refine (HCHK.out _ q0).mono ?_
 rintro e w1 ⟨rfl,hb1⟩
 replace M0:=M0.bl hb1;replace C0:=C0.bl hb1;replace P0:=P0.bl hb1;replace R0:=R0.bl hb1;replace N0:=N0.bl hb1
 have q:=bstep q0 hb1
 clear q0 hb1 HCHK hN
 have hrl:=R0.lt
 have hs1:w.heap.size<w1.heap.size:=by omega
 have hs2:w.heap.size+1<w1.heap.size:=by omega
 have hs3:w.heap.size+2<w1.heap.size:=by omega
 by_cases htb:time<0∨1073741824<time
 ·have hr:=HR.out
  rw [if_pos htb] at hr
  subst hr
  by_cases ht0:time<0
  ·have HPX:=hide (mach_done (M:=zeroMach) (r:=zeroRe) (k:=2) (a0:=0) (A:=none) (n:=0) (c:=0) (a1:=0) (B:=none) (n':=0) (c':=0) (k0:=0) (t0:={ data:=#[] }) (m0:=0) (Y:=none) (m:=0) (d:=0) P0 R0 (St.nil _) (Ci.nil _) (TxSl.nil _) q (by omega) (by omega) rfl rfl rfl rfl rfl)
   (try clear cP0 fP0);have cP0:=P0.cell;have fP0:=P0.frozen;(try clear cR0 fR0);have cR0:=R0.cell;have fR0:=R0.frozen
   go_wp2_with fail
   obtain ⟨PX,X9,Y9⟩:=HPX.out
   have cX9:=X9.cell;have cY9:=Y9.cell
   refine bodyPost_ret (v:=.tuple #[.agg #[.int .i64 0,.slice none 0 0,.int .i64 0,.slice none 0 0],.agg #[.int .i64 0,.string { data:=#[] },.int .i64 0,.slice none 0 0],.int .i64 2]) ?_ rfl PX
   simp [results,Tryz.results40,go_sem,cX9,cY9]
  ·have ht9:1073741824<time:=by omega
   have HPX:=hide (mach_done (M:=zeroMach) (r:=zeroRe) (k:=2) (a0:=0) (A:=none) (n:=0) (c:=0) (a1:=0) (B:=none) (n':=0) (c':=0) (k0:=0) (t0:={ data:=#[] }) (m0:=0) (Y:=none) (m:=0) (d:=0) P0 R0 (St.nil _) (Ci.nil _) (TxSl.nil _) q (by omega) (by omega) rfl rfl rfl rfl rfl)
   (try clear cP0 fP0);have cP0:=P0.cell;have fP0:=P0.frozen;(try clear cR0 fR0);have cR0:=R0.cell;have fR0:=R0.frozen
   go_wp2_with fail
   obtain ⟨PX,X9,Y9⟩:=HPX.out
   have cX9:=X9.cell;have cY9:=Y9.cell
   refine bodyPost_ret (v:=.tuple #[.agg #[.int .i64 0,.slice none 0 0,.int .i64 0,.slice none 0 0],.agg #[.int .i64 0,.string { data:=#[] },.int .i64 0,.slice none 0 0],.int .i64 2]) ?_ rfl PX
   simp [results,Tryz.results40,go_sem,cX9,cY9]
 ·have ht0:¬ time<0:=by omega
  have ht9:¬ 1073741824<time:=by omega
  have hr0:=HR.out
  rw [if_neg htb] at hr0
  have HR2:=hide hr0
  clear hr0 HR htb
  (try clear cC0 fC0);have cC0:=C0.cell;have fC0:=C0.frozen
  go_wp2_with fail
  refine (HCC.out _).mono ?_
  rintro e w2 ⟨rfl,hb2⟩
  replace M0:=M0.bl hb2;replace C0:=C0.bl hb2;replace P0:=P0.bl hb2;replace R0:=R0.bl hb2;replace N0:=N0.bl hb2
  replace q:=bstep q hb2
  clear hb2 HCC cC0 fC0
  have hrl:=R0.lt
  have hs1:w.heap.size<w2.heap.size:=by omega
  have hs2:w.heap.size+1<w2.heap.size:=by omega
  have hs3:w.heap.size+2<w2.heap.size:=by omega
  by_cases hcz:cz=0
  ·have hr:=HR2.out
   rw [if_neg (by simpa using hcz)] at hr
   have HR3:=hide hr
   have hparts:=HPARTS.out hcz
   have HP3:=hide hparts
   clear hr HR2 hparts HPARTS
   subst hcz
   have hlater:=HLATER.out (by omega)
   have HOK:=hide hlater
   clear hlater HLATER
   obtain ⟨hT1,hT2,hT3⟩:=HTM.out
   obtain ⟨hT3,hT4⟩:=hT3 (by omega) (by omega)
   clear HTM
   replace HAP:=hide (HAP.out (by omega) (by omega))
   go_wp2_with fail
   have hsG:∀ w',Below w2.heap.size w2 w'→(w'.cell? ⟨w.heap.size,2,none⟩=some (.int .i64 next)∧w'.cell? ⟨w.heap.size,3,none⟩=some (.slice B nb cb)):=fun w' q=>⟨(M0.below' q).cell 2,(M0.below' q).cell 3⟩
   refine wp_region_x (l:=[]) (S:=fun w'=>w'.cell? ⟨w.heap.size,2,none⟩=some (.int .i64 next)∧w'.cell? ⟨w.heap.size,3,none⟩=some (.slice B nb cb)) (by kernel_rfl) (hsG _ (Below.refl _ w2).drew) (fun hS=>?_)
   refine wpAnyX_tq 0 ?_
   refine wpAnyX_tq 1 ?_
   refine wpAnyX_tq 2 ?_
   refine wpAnyX_tq 3 ?_
   have HSG:=hide hsG
   clear hsG hS
   refine wpX_startA (n:=3+left1 false) (listed:=(fun b_=>#[true,true,true,true,false,false,b_,false]) false) (j:=6) (d:=11) (t:=41) (z:=#[.int .i64 0,.slice none 0 0,.int .i64 0,.slice none 0 0]) ?al1a ?alna ?alla (fun al1=>?alra);(case al1a=>exact ⟨⟨_,rfl,rfl,rfl,fun a w=>by simp [go_sem,execOp]⟩⟩);(case alna=>kernel_rfl);(case alla=>kernel_rfl)
   refine' wpX_phaseA' (f:=2) (i:=4) (L:=(fun b_=>#[true,true,true,true,false,false,b_,false])) (L':=(fun b_=>#[true,true,true,true,true,false,b_,false])) (base:=w2.heap.size) (G:=(fun w'=>Below w2.heap.size w2 w')) (x:=undef) al1 ?an4a ?al4a ?aa4a ?ar4a ?ai4a ?ag4a ?ae14a ?ae34a ?ap14a HSG.out (fun w' o q=>q.alloc q.size o) (fun w' q=>q.size) ?aw4a ?am4a;(case an4a=>rfl);(case al4a=>rfl);(case aa4a=>rfl);(case ar4a=>kernel_rfl);(case ai4a=>rfl);(case ag4a=>rfl);(case ae14a=>rfl);(case ae34a=>(intros;rfl));(case ap14a=>(intros;rfl))
   (case aw4a=>exact (Below.refl _ w2).drew)
   intro b_ x_ w5 hG_ hx_ K_ hK_;(try simp only [Act.put,List.setIfInBounds_toArray,List.set_cons_zero,List.set_cons_succ,List.getElem_toArray,List.getElem_cons_zero,List.getElem_cons_succ])
   go_wp2_with fail
   refine (HOWN.out _ (bstep q hG_)).mono ?_
   rintro e w6 ⟨B1,n1,c1,rfl,O6,hb6⟩
   go_wp2_with fail
   have q6:Below w2.heap.size w2 w6:=bstep hG_ hb6
   have hS6:=HSG.out _ q6
   replace O6:=O6.mono (B':=w.heap.size) (by have:=q.size;have:=hG_.size;omega)
   refine hK_.out _ _ (Or.inr hS6) ?_
   clear hK_ K_ hG_
   refine' wpX_takeA' (f:=1) (i:=5) (v:=?xv5a) (L:=(fun b_=>#[true,true,true,true,true,false,b_,false])) (L':=(fun b_=>#[true,true,true,true,true,true,b_,false])) ?tan5a ?tal5a rfl (by kernel_rfl) ?tar5a (by kernel_rfl) ?tae35a (fun _ _ _ h=>h) (Or.inl ⟨by rfl,?xh5a⟩) ?taw5a ?xr5a;(case tan5a=>rfl);(case tal5a=>rfl);(case tar5a=>kernel_rfl);(case tae35a=>(intros;rfl));(case taw5a=>assumption);(case xh5a=>(intro w hSw;(try dsimp only at hSw);go_simp;(try with_reducible rfl)));(try simp only [Act.put,List.setIfInBounds_toArray,List.set_cons_zero,List.set_cons_succ,List.getElem_toArray,List.getElem_cons_zero,List.getElem_cons_succ])
   refine' wpX_layA' (f:=1) (L:=(fun b_=>#[true,true,true,true,true,true,b_,false])) (base:=w2.heap.size) (G:=(fun w'=>Below w6.heap.size w6 w')) (b:=b_) (x:=x_) al1 ?anLa ?alLa ?aaLa ?arLa ?ae1La ?ap1La (fun w' q=>HSG.out w' (bstep q6 q)) (fun w' o q=>q.alloc q.size o) (fun w' q=>Nat.le_trans q6.size q.size) ?awLa (hx_.bl hb6) ?amLa;(case anLa=>rfl);(case alLa=>rfl);(case aaLa=>rfl);(case arLa=>kernel_rfl);(case ae1La=>rfl);(case ap1La=>(intros;rfl))
   (case awLa=>exact Below.refl _ w6)
   clear hx_ x_ b_ hS6
   intro g w7 hb7 hg7 G7
   have q7:Below w2.heap.size w2 w7:=bstep q6 hb7
   clear al1
   (try clear cG7 fG7);have cG7:=G7.cell;have fG7:=G7.frozen
   refine wpAnyX_oq 7 fun K hK=>?_
   go_wp2_with fail
   refine hK.out _ _ (Or.inr (HSG.out _ (below_set (below_set (below_set (below_set q7 hg7 0 _) hg7 1 _) hg7 2 _) hg7 3 _))) (fun hS=>?_)
   clear hK K hS cG7 fG7
   refine wpAnyX_done (by kernel_rfl) ?_ _
   obtain ⟨G8,gr8,sz8⟩:=whole_mach (.int .i64 0) (.slice none 0 0) (.int .i64 next) (.slice B1 n1 c1) G7
   have O8:=(O6.bl hb7).grown G7 gr8
   have M8:=grown_blk (M0.below' q7) gr8 (by omega)
   have C8:=grown_blk (C0.below' q7) gr8 (by omega)
   have P8:=grown_blk (P0.below' q7) gr8 (by omega)
   have R8:=grown_blk (R0.below' q7) gr8 (by omega)
   have hN8:=N0.bl q7
   have q8:=below_grow (bstep q q7) gr8 (by have:=q.size;have:=q7.size;omega) (by have:=q.size;omega)
   have N8:=hN8.far gr8 (by have:=q.size;omega)
   obtain ⟨w8,hw8⟩:∃ w8,w8=((((w7.setCell ⟨g,0,none⟩ (.int .i64 0)).setCell ⟨g,1,none⟩ (.slice none 0 0)).setCell ⟨g,2,none⟩ (.int .i64 next)).setCell ⟨g,3,none⟩ (.slice B1 n1 c1)):=⟨_,rfl⟩
   rw [←hw8] at G8 sz8 O8 M8 C8 P8 R8 N8 q8 ⊢
   clear hw8 gr8 sz8 hN8 G7 O6 hb6 q6 q7 hb7 M0 C0 P0 R0 N0 HSG HOWN
   have hgw:w.heap.size+3<g:=by omega
   have hg0:w.heap.size+2<g:=by omega
   clear hrl hs1 hs2 hs3 hg7
   have hg8:=G8.lt
   have hs1:w.heap.size<w8.heap.size:=by omega
   (try clear cM8 fM8);have cM8:=M8.cell;have fM8:=M8.frozen
   have n0:=N8.c0;have n1':=N8.c1;have n2:=N8.c2;have n3:=N8.c3;have n4:=N8.c4
   go_wp2_with fail
   refine (HAP.out _ q8).mono ?_
   rintro e w9 ⟨A1,na1,ca1,Y1,m1,d1,rfl,S9,-,-,hb9⟩
   replace C8:=C8.bl hb9;replace P8:=P8.bl hb9;replace R8:=R8.bl hb9;replace O8:=O8.bl hb9;replace G8:=G8.bl hb9
   replace q8:=bstep q8 hb9
   clear hb9 HAP cM8 fM8 M8 n0 n1' n2 n3 n4 N8
   have gr9:=grown_trans (grown_setRow_cell w9 g 0 (.int .i64 T)) (grown_setRow_cell _ g 1 (.slice A1 na1 ca1))
   have G9:=(G8.set' (i:=0) (u:=.int .i64 T) rfl).set' (i:=1) (u:=.slice A1 na1 ca1) rfl
   have S9:=S9.grown G8 gr9
   have O9:=O8.grown G8 gr9
   have C9:=grown_blk C8 gr9 (by omega)
   have P9:=grown_blk P8 gr9 (by omega)
   have R9:=grown_blk R8 gr9 (by omega)
   have q9:=below_grow q8 gr9 q8.size (by omega)
   have hg8:=G8.lt
   have hc8:=C8.lt
   by_cases hc0:cc=0
   ·subst hc0
    (try clear cG8 fG8);have cG8:=G8.cell;have fG8:=G8.frozen;(try clear cC8 fC8);have cC8:=C8.cell;have fC8:=C8.frozen
    go_upto_region 12 with fail
    obtain ⟨wa,hwa⟩:∃ wa,wa=((w9.setCell ⟨g,0,none⟩ (.int .i64 T)).setCell ⟨g,1,none⟩ (.slice A1 na1 ca1)):=⟨_,rfl⟩
    rw [←hwa] at G9 C9 P9 R9 S9 O9 q9 ⊢
    clear hwa gr9 G8 C8 P8 R8 O8 q8 cG8 fG8 cC8 fC8 hg8 hc8
    have ha1:=G9.lt
    have ha2:=C9.lt
    have hr:=HR3.out
    rw [doM_open] at hr
    have hkp:=open_keeps ⟨T,es,next,clis⟩
    clear HR3 HP3
    go_wp2_with fail
    refine (open_any ⟨T,es,next,clis⟩ g w.heap.size A1 B1 na1 ca1 n1 c1 wa G9 O9 (by omega) (by omega) hfw hnx1 hnx).mono ?_
    rintro e wb ⟨B2,n2,c2,rfl,Gb,Ob,mo⟩
    generalize openM ⟨T,es,next,clis⟩=OM at *
    obtain ⟨⟨now2,ents2,next2,clis2⟩,⟨rc,rt,rn,rl⟩⟩:=OM
    simp only at hkp Gb Ob hr
    obtain ⟨rfl,rfl,rfl⟩:=hkp
    subst hr
    have P9:=mo.far _ _ _ (by omega) (by decide) P9
    have R9:=mo.far _ _ _ (by omega) (by decide) R9
    have S9:=S9.mo mo G9
    have q9:=q9.trans mo.q
    clear mo O9 C9
    have C9:=Ci.of Ob
    have T9:=TxSl.nil wb
    clear Ob G9
    have hbs:=Gb.lt
    replace P9:=P9.al (.cells #[.int .i64 rc,.string rt,.int .i64 rn,.slice none 0 0] 102);replace R9:=R9.al (.cells #[.int .i64 rc,.string rt,.int .i64 rn,.slice none 0 0] 102);replace S9:=S9.al (.cells #[.int .i64 rc,.string rt,.int .i64 rn,.slice none 0 0] 102);replace C9:=C9.al (.cells #[.int .i64 rc,.string rt,.int .i64 rn,.slice none 0 0] 102);replace T9:=T9.al (.cells #[.int .i64 rc,.string rt,.int .i64 rn,.slice none 0 0] 102);replace Gb:=Gb.al (.cells #[.int .i64 rc,.string rt,.int .i64 rn,.slice none 0 0] 102)
    have X:=Blk.new wb 102 #[.int .i64 rc,.string rt,.int .i64 rn,.slice none 0 0]
    replace q9:Below w.heap.size w (wb.alloc (.cells #[.int .i64 rc,.string rt,.int .i64 rn,.slice none 0 0] 102)):=below_by
    go_wp2_with fail
    obtain ⟨wc,hwc⟩:∃ wc,wc=wb.alloc (.cells #[.int .i64 rc,.string rt,.int .i64 rn,.slice none 0 0] 102):=⟨_,rfl⟩
    rw [←hwc] at P9 R9 S9 C9 T9 Gb X q9 ⊢
    clear hwc
    refine wp_region_x (l:=[]) (S:=fun w'=>w'.cell? ⟨g,0,none⟩=some (.int .i64 now2)∧w'.cell? ⟨g,1,none⟩=some (.slice A1 na1 ca1)∧w'.cell? ⟨g,2,none⟩=some (.int .i64 next2)∧w'.cell? ⟨g,3,none⟩=some (.slice B2 n2 c2)∧w'.cell? ⟨wb.heap.size,0,none⟩=some (.int .i64 rc)∧w'.cell? ⟨wb.heap.size,1,none⟩=some (.string rt)∧w'.cell? ⟨wb.heap.size,2,none⟩=some (.int .i64 rn)∧w'.cell? ⟨wb.heap.size,3,none⟩=some (.slice none 0 0)) (by kernel_rfl) ⟨Gb.drew.cell 0,Gb.drew.cell 1,Gb.drew.cell 2,Gb.drew.cell 3,X.drew.cell 0,X.drew.cell 1,X.drew.cell 2,X.drew.cell 3⟩ (fun hS=>?_)
    obtain ⟨wdc,hwd⟩:∃ wdc,wdc=wc.drew:=⟨_,rfl⟩
    replace P9:=P9.drew
    replace R9:=R9.drew
    replace S9:=S9.dr
    replace C9:=C9.dr
    replace T9:=T9.dr
    replace Gb:=Gb.drew
    replace X:=X.drew
    replace q9:=q9.drew
    rw [←hwd] at P9 R9 S9 C9 T9 Gb X q9 hS ⊢
    clear hwd
    refine wpAnyX_tq 0 ?_
    refine wpAnyX_tq 1 ?_
    have HPX:=hide (mach_done (M:=⟨now2,ents2,next2,clis2⟩) (r:=⟨rc,rt,rn,[]⟩) (k:=0) P9 R9 S9 C9 T9 q9 (by omega) (by omega) rfl rfl rfl rfl rfl)
    obtain ⟨PB,grB,-⟩:=whole_mach (.int .i64 now2) (.slice A1 na1 ca1) (.int .i64 next2) (.slice B2 n2 c2) P9
    have RB:=grown_blk R9 grB (by omega)
    have GB:=grown_blk Gb grB (by omega)
    have XB:=grown_blk X grB (by omega)
    obtain ⟨RC,grC,-⟩:=whole_reply (.int .i64 rc) (.string rt) (.int .i64 rn) (.slice none 0 0) RB
    have GC:=grown_blk GB grC (by omega)
    have XC:=grown_blk XB grC (by omega)
    clear S9 C9 T9 q9 
    (try clear cP9 fP9);have cP9:=P9.cell;have fP9:=P9.frozen
    refine wpAnyX_oq 2 fun K hK=>?_
    go_wp2_with fail
    refine hK.out _ _ (Or.inr ⟨GB.cell 0,GB.cell 1,GB.cell 2,GB.cell 3,XB.cell 0,XB.cell 1,XB.cell 2,XB.cell 3⟩) (fun hS=>?_)
    replace hS:=hS.resolve_left (by decide)
    clear hK K cP9 fP9
    (try clear cRB fRB);have cRB:=RB.cell;have fRB:=RB.frozen
    refine wpAnyX_oq 3 fun K hK=>?_
    go_wp2_with fail
    refine hK.out _ _ (Or.inr ⟨GC.cell 0,GC.cell 1,GC.cell 2,GC.cell 3,XC.cell 0,XC.cell 1,XC.cell 2,XC.cell 3⟩) (fun hS=>?_)
    replace hS:=hS.resolve_left (by decide)
    clear hK K cRB fRB
    refine wpAnyX_oq 4 fun K hK=>?_
    go_wp2_with fail
    refine hK.out _ _ (Or.inr ⟨GC.cell 0,GC.cell 1,GC.cell 2,GC.cell 3,XC.cell 0,XC.cell 1,XC.cell 2,XC.cell 3⟩) (fun hS=>?_)
    clear hK K hS
    refine wpAnyX_done (by kernel_rfl) ?_ _
    go_wp2_with fail
    obtain ⟨PX,X9,Y9⟩:=HPX.out
    have cX9:=X9.cell;have cY9:=Y9.cell
    refine bodyPost_ret (v:=.tuple #[.agg #[.int .i64 now2,.slice A1 na1 ca1,.int .i64 next2,.slice B2 n2 c2],.agg #[.int .i64 rc,.string rt,.int .i64 rn,.slice none 0 0],.int .i64 0]) ?_ rfl PX
    simp [results,Tryz.results40,go_sem,cX9,cY9]
   ·have hc0':(cc == 0)=false:=by simpa using hc0
    (try clear cG8 fG8);have cG8:=G8.cell;have fG8:=G8.frozen;(try clear cC8 fC8);have cC8:=C8.cell;have fC8:=C8.frozen
    go_upto_region 14 with fail
    obtain ⟨wa,hwa⟩:∃ wa,wa=((w9.setCell ⟨g,0,none⟩ (.int .i64 T)).setCell ⟨g,1,none⟩ (.slice A1 na1 ca1)):=⟨_,rfl⟩
    rw [←hwa] at G9 C9 P9 R9 S9 O9 q9 ⊢
    clear hwa gr9 G8 C8 P8 R8 O8 q8 cG8 fG8 cC8 fC8 hg8 hc8
    have ha1:=G9.lt
    have ha2:=C9.lt
    have hpr:=HP3.out hc0
    have HR4:=hide HR3.out
    have HFI:=hide (FindCli 68 (run_enter Tryz.func68 (by kernel_rfl) (by kernel_rfl)) (fun x=>x.id == cc) wa (w.heap.size+1) (fun x s w' hb=>byId_ x s (w.heap.size+1) cc w' ((C9.below' hb).lt) ((C9.below' hb).cell 0)) B1 n1 c1 clis (by omega) O9.sl)
    have HPR:=hide hpr
    clear HR3 HP3 hpr
    (try clear cG9 fG9);have cG9:=G9.cell;have fG9:=G9.frozen
    go_wp2_with fail
    refine HFI.out.mono ?_
    rintro e wb ⟨rfl,hbb⟩
    replace G9:=G9.bl hbb;replace C9:=C9.bl hbb;replace P9:=P9.bl hbb;replace R9:=R9.bl hbb;replace S9:=S9.bl hbb;replace O9:=O9.bl hbb
    replace q9:=bstep q9 hbb
    clear hbb HFI cG9 fG9
    have ha1:=G9.lt
    have ha2:=C9.lt
    have hs1:w.heap.size<wb.heap.size:=by omega
    cases hfi:clis.findIdx? (fun x=>x.id == cc) with
    | none=>
     have hr:=HR4.out
     rw [doM_none _ _ _ _ hc0 hfi] at hr
     subst hr
     have hidx:idxFn (none:Option Nat) = -1:=rfl
     have T9:=TxSl.nil wb
     have C9':=Ci.of O9
     have HPX:=hide (mach_done (M:=⟨T,es,next,clis⟩) (r:=failR 11) (k:=0) (a0:=T) (A:=A1) (n:=na1) (c:=ca1) (a1:=next) (B:=B1) (n':=n1) (c':=c1) (k0:=11) (t0:={ data:=#[] }) (m0:=0) (Y:=none) (m:=0) (d:=0) P9 R9 S9 C9' T9 q9 (by omega) (by omega) rfl rfl rfl rfl rfl)
     clear S9 T9 C9' q9 O9 C9 HR4 HPR hfi
     (try clear cG9 fG9);have cG9:=G9.cell;have fG9:=G9.frozen;(try clear cP9 fP9);have cP9:=P9.cell;have fP9:=P9.frozen;(try clear cR9 fR9);have cR9:=R9.cell;have fR9:=R9.frozen
     go_wp2_with fail
     obtain ⟨PX,X9,Y9⟩:=HPX.out
     have cX9:=X9.cell;have cY9:=Y9.cell
     refine bodyPost_ret (v:=.tuple #[.agg #[.int .i64 T,.slice A1 na1 ca1,.int .i64 next,.slice B1 n1 c1],.agg #[.int .i64 11,.string { data:=#[] },.int .i64 0,.slice none 0 0],.int .i64 0]) ?_ rfl PX
     simp [results,Tryz.results40,go_sem,cX9,cY9]
    | some i=>
     have hil:i<clis.length:=by rw [List.findIdx?_eq_some_iff_getElem] at hfi;exact hfi.1
     have hidx:idxFn (some i)=(i:Int):=rfl
     have hr0:=HR4.out
     rw [doM_at _ hil _ _ _ hc0 hfi] at hr0
     have HR5:=hide hr0
     have hid:clis[i].id=cc:=by rw [List.findIdx?_eq_some_iff_getElem] at hfi;simpa using hfi.2.1
     clear HR4 hr0 hfi
     obtain ⟨gc,rfl⟩:∃ gc,B1=some ⟨gc,0,none⟩:=by
      obtain ⟨rows,O,E⟩:=O9
      rcases O.form with ⟨hv,hr⟩|⟨gq,cap,hv,_⟩
      ·exfalso;have:=E.len;rw [hr,List.length_nil] at this;omega
      ·injection hv with h1;exact ⟨gq,h1⟩
     obtain ⟨rows,O,E⟩:=O9
     obtain ⟨hgcB,-,-,-,cur,hcur,-,-⟩:=O.parts
     obtain ⟨b,off,Y,mY,dY,e1,hbb,⟨i0,i1,i2,i3,i4,i5,i6⟩,TY⟩:=cli_at O.sl'.seg E hil
     injection e1 with e1
     injection e1 with e1 e2
     subst e1;subst e2
     simp only [Nat.zero_add] at i0 i1 i2 i3 i4 i5 i6
     have hn1:clis.length=n1:=ClSl.len ⟨rows,O.sl',E⟩
     have O9:ClOwn wb w.heap.size (some ⟨gc,0,none⟩) n1 c1 clis:=⟨rows,O,E⟩
     have KB:Blk wb gc 104 cur:=hcur
     clear O E hcur
     have u0:=(KB.cell (i*7)).symm.trans i0;have u1:=(KB.cell (i*7+1)).symm.trans i1;have u2:=(KB.cell (i*7+2)).symm.trans i2;have u3:=(KB.cell (i*7+3)).symm.trans i3;have u4:=(KB.cell (i*7+4)).symm.trans i4;have u5:=(KB.cell (i*7+5)).symm.trans i5;have u6:=(KB.cell (i*7+6)).symm.trans i6
     clear i2 i3 i4 i5 i6
     have hz1:(0:Int)≤(i:Int):=by omega
     have hz2:(i:Int)<(n1:Int):=by omega
     have hlt0:decide ((i:Int)<0)=false:=by simp
     have hlt1:¬ ((i:Int)<0):=by omega
     have hgc1:=KB.lt
     have hgne:gc≠g:=blk_ne KB G9 (by decide)
     have hgne1:gc≠w.heap.size+1:=blk_ne KB C9 (by decide)
     have hgne2:gc≠w.heap.size+2:=blk_ne KB P9 (by decide)
     have hgne3:gc≠w.heap.size+3:=blk_ne KB R9 (by decide)
     generalize hx:clis[i]=x at *
     obtain ⟨xi,xs,xt,⟨xc,xx,xn,xl⟩⟩:=x
     simp only at i0 i1 u0 u1 u2 u3 u4 u5 TY hid HR5
     subst hid
     (try clear cG9 fG9);have cG9:=G9.cell;have fG9:=G9.frozen;(try clear cC9 fC9);have cC9:=C9.cell;have fC9:=C9.frozen
     go_wp2_with fail
     by_cases hsq:cs=xs
     ·subst hsq
      go_quiet (fail)
      obtain ⟨wq,hwq⟩:∃ wq,wq=wb.drewN nq:=⟨_,rfl⟩
      replace G9:=G9.drewN nq
      replace C9:=C9.drewN nq
      replace P9:=P9.drewN nq
      replace R9:=R9.drewN nq
      replace KB:=KB.drewN nq
      have bq:Below wb.heap.size wb (wb.drewN nq):=bdrewN (Below.refl _ _) nq
      replace q9:=bdrewN q9 nq
      replace S9:=S9.bl bq;replace O9:=O9.bl bq;replace TY:=TY.bl bq
      rw [←hwq] at G9 C9 P9 R9 KB q9 S9 O9 TY ⊢
      clear hwq bq cG9 fG9 cC9 fC9 i0 i1 hgc1
      have hgc1:=KB.lt
      have ha1:=G9.lt
      have ha2:=C9.lt
      have hs1:w.heap.size<wq.heap.size:=by omega
      have hr:=HR5.out
      rw [if_pos rfl] at hr
      subst hr
      clear HR5 HPR
      have hrep:=(HOK.out.cli _ (List.getElem_mem hil)).rep
      rw [hx] at hrep
      have hmY:mY≤1048576:=by have h1:=(rep_to hrep).few;have h2:=TY.len;simp only at h1 h2;omega
      clear hrep
      go_wp2_with fail
      refine wp_region_x (l:=[]) (S:=fun w'=>w'.cell? ⟨g,0,none⟩=some (.int .i64 T)∧w'.cell? ⟨g,1,none⟩=some (.slice A1 na1 ca1)∧w'.cell? ⟨g,2,none⟩=some (.int .i64 next)∧w'.cell? ⟨g,3,none⟩=some (.slice (some ⟨gc,0,none⟩) n1 c1)∧w'.cell? ⟨gc,i*7+3,none⟩=some (.int .i64 xc)∧w'.cell? ⟨gc,i*7+4,none⟩=some (.string xx)∧w'.cell? ⟨gc,i*7+5,none⟩=some (.int .i64 xn)∧w'.cell? ⟨gc,i*7+6,none⟩=some (.slice Y mY dY)) (by kernel_rfl) ⟨G9.drew.cell 0,G9.drew.cell 1,G9.drew.cell 2,G9.drew.cell 3,(KB.drew.cell _).trans u3,(KB.drew.cell _).trans u4,(KB.drew.cell _).trans u5,(KB.drew.cell _).trans u6⟩ (fun hS=>?_)
      obtain ⟨wd,hwd⟩:∃ wd,wd=wq.drew:=⟨_,rfl⟩
      replace G9:=G9.drew
      replace P9:=P9.drew
      replace R9:=R9.drew
      replace KB:=KB.drew
      replace S9:=S9.dr
      replace O9:=O9.dr
      replace TY:=TY.dr
      replace q9:=q9.drew
      rw [←hwd] at G9 P9 R9 KB S9 O9 TY q9 hS ⊢
      clear hwd
      clear C9
      refine wpAnyX_tq 0 ?_
      refine wpAnyX_tq 1 ?_
      refine wpAnyX_tq 2 ?_
      refine wpAnyX_tq 3 ?_
      refine wpAnyX_tq 4 ?_
      have HOR:=hide (ownReply_any ⟨xc,xx,xn,xl⟩ Y mY dY wd TY hmY)
      refine wpAnyX_oq 5 fun K hK=>?_
      go_wp2_with fail
      ((with_reducible refine HOR.out.mono ?_);rintro e we ⟨Y2,m2,d2,rfl,T9,hbe⟩)
      go_wp2_with fail
      replace G9:=G9.bl hbe;replace P9:=P9.bl hbe;replace R9:=R9.bl hbe;replace S9:=S9.bl hbe;replace O9:=O9.bl hbe;replace KB:=KB.bl hbe
      replace q9:=bstep q9 hbe
      refine hK.out _ _ (Or.inr ⟨G9.cell 0,G9.cell 1,G9.cell 2,G9.cell 3,(KB.cell _).trans u3,(KB.cell _).trans u4,(KB.cell _).trans u5,(KB.cell _).trans u6⟩) (fun hS=>?_)
      replace hS:=hS.resolve_left (by decide)
      clear hK K HOR hbe TY
      have ha1:=G9.lt
      have hs1:w.heap.size<we.heap.size:=by omega
      have C9:=Ci.of O9
      have HPX:=hide (mach_done (M:=⟨T,es,next,clis⟩) (r:=⟨xc,xx,xn,xl⟩) (k:=0) P9 R9 S9 C9 T9 q9 (by omega) (by omega) rfl rfl rfl rfl rfl)
      obtain ⟨PB,grB,-⟩:=whole_mach (.int .i64 T) (.slice A1 na1 ca1) (.int .i64 next) (.slice (some ⟨gc,0,none⟩) n1 c1) P9
      have RB:=grown_blk R9 grB (by omega)
      have GB:=grown_blk G9 grB (by omega)
      have KB1:=grown_blk KB grB hgne2
      obtain ⟨RC,grC,-⟩:=whole_reply (.int .i64 xc) (.string xx) (.int .i64 xn) (.slice Y2 m2 d2) RB
      have GC:=grown_blk GB grC (by omega)
      have KB2:=grown_blk KB1 grC hgne3
      clear S9 C9 T9 q9 O9
      (try clear cP9 fP9);have cP9:=P9.cell;have fP9:=P9.frozen
      refine wpAnyX_oq 6 fun K hK=>?_
      go_wp2_with fail
      refine hK.out _ _ (Or.inr ⟨GB.cell 0,GB.cell 1,GB.cell 2,GB.cell 3,(KB1.cell _).trans u3,(KB1.cell _).trans u4,(KB1.cell _).trans u5,(KB1.cell _).trans u6⟩) (fun hS=>?_)
      replace hS:=hS.resolve_left (by decide)
      clear hK K cP9 fP9
      (try clear cRB fRB);have cRB:=RB.cell;have fRB:=RB.frozen
      refine wpAnyX_oq 7 fun K hK=>?_
      go_wp2_with fail
      refine hK.out _ _ (Or.inr ⟨GC.cell 0,GC.cell 1,GC.cell 2,GC.cell 3,(KB2.cell _).trans u3,(KB2.cell _).trans u4,(KB2.cell _).trans u5,(KB2.cell _).trans u6⟩) (fun hS=>?_)
      replace hS:=hS.resolve_left (by decide)
      clear hK K cRB fRB
      refine wpAnyX_oq 8 fun K hK=>?_
      go_wp2_with fail
      refine hK.out _ _ (Or.inr ⟨GC.cell 0,GC.cell 1,GC.cell 2,GC.cell 3,(KB2.cell _).trans u3,(KB2.cell _).trans u4,(KB2.cell _).trans u5,(KB2.cell _).trans u6⟩) (fun hS=>?_)
      clear hK K hS
      refine wpAnyX_done (by kernel_rfl) ?_ _
      go_wp2_with fail
      obtain ⟨PX,X9,Y9⟩:=HPX.out
      have cX9:=X9.cell;have cY9:=Y9.cell
      refine bodyPost_ret (v:=.tuple #[.agg #[.int .i64 T,.slice A1 na1 ca1,.int .i64 next,.slice (some ⟨gc,0,none⟩) n1 c1],.agg #[.int .i64 xc,.string xx,.int .i64 xn,.slice Y2 m2 d2],.int .i64 0]) ?_ rfl PX
      simp [results,Tryz.results40,go_sem,cX9,cY9]
     ·have hsq':(cs == xs)=false:=by simpa using hsq
      go_quiet (fail)
      obtain ⟨wq,hwq⟩:∃ wq,wq=wb.drewN nq:=⟨_,rfl⟩
      replace G9:=G9.drewN nq
      replace C9:=C9.drewN nq
      replace P9:=P9.drewN nq
      replace R9:=R9.drewN nq
      replace KB:=KB.drewN nq
      have bq:Below wb.heap.size wb (wb.drewN nq):=bdrewN (Below.refl _ _) nq
      replace q9:=bdrewN q9 nq
      replace S9:=S9.bl bq;replace O9:=O9.bl bq;replace TY:=TY.bl bq
      rw [←hwq] at G9 C9 P9 R9 KB q9 S9 O9 TY ⊢
      clear hwq bq cG9 fG9 cC9 fC9 i0 i1 hgc1
      have hgc1:=KB.lt
      have ha1:=G9.lt
      have ha2:=C9.lt
      have hs1:w.heap.size<wq.heap.size:=by omega
      have hr0:=HR5.out
      rw [if_neg hsq] at hr0
      have HR6:=hide hr0
      clear HR5 hr0
      have hxq:=(HOK.out.cli _ (List.getElem_mem hil)).seq1
      have hxq0:=(HOK.out.cli _ (List.getElem_mem hil)).seq0
      rw [hx] at hxq hxq0
      simp only at hxq hxq0
      have hw1:IntKind.i64.wrap (xs+1)=xs+1:=IntWalk.i64_in _ (by omega)
      (try clear cG9 fG9);have cG9:=G9.cell;have fG9:=G9.frozen;(try clear cC9 fC9);have cC9:=C9.cell;have fC9:=C9.frozen
      have i0:=(KB.cell (i*7)).trans u0;have i1:=(KB.cell (i*7+1)).trans u1
      by_cases hor:cs≠xs+1
      ·have hor':(cs == xs+1)=false:=by simpa using hor
       go_wp2_with fail
       go_quiet (fail)
       obtain ⟨wv,hwq⟩:∃ wv,wv=wq.drewN nq:=⟨_,rfl⟩
       replace G9:=G9.drewN nq
       replace C9:=C9.drewN nq
       replace P9:=P9.drewN nq
       replace R9:=R9.drewN nq
       replace KB:=KB.drewN nq
       have bq:Below wq.heap.size wq (wq.drewN nq):=bdrewN (Below.refl _ _) nq
       replace q9:=bdrewN q9 nq
       replace S9:=S9.bl bq;replace O9:=O9.bl bq;replace TY:=TY.bl bq
       rw [←hwq] at G9 C9 P9 R9 KB q9 S9 O9 TY ⊢
       clear hwq bq cG9 fG9 cC9 fC9 i0 i1 hgc1
       have hgc1:=KB.lt
       have ha1:=G9.lt
       have ha2:=C9.lt
       have hs1:w.heap.size<wv.heap.size:=by omega
       have hr:=HR6.out
       rw [if_pos hor] at hr
       subst hr
       have T9:=TxSl.nil wv
       have C9':=Ci.of O9
       have HPX:=hide (mach_done (M:=⟨T,es,next,clis⟩) (r:=failR 10) (k:=0) (a0:=T) (A:=A1) (n:=na1) (c:=ca1) (a1:=next) (B:=some ⟨gc,0,none⟩) (n':=n1) (c':=c1) (k0:=10) (t0:={ data:=#[] }) (m0:=0) (Y:=none) (m:=0) (d:=0) P9 R9 S9 C9' T9 q9 (by omega) (by omega) rfl rfl rfl rfl rfl)
       clear S9 T9 C9' q9 O9 C9 HR6 HPR KB TY
       (try clear cG9 fG9);have cG9:=G9.cell;have fG9:=G9.frozen;(try clear cP9 fP9);have cP9:=P9.cell;have fP9:=P9.frozen;(try clear cR9 fR9);have cR9:=R9.cell;have fR9:=R9.frozen
       go_wp2_with fail
       obtain ⟨PX,X9,Y9⟩:=HPX.out
       have cX9:=X9.cell;have cY9:=Y9.cell
       refine bodyPost_ret (v:=.tuple #[.agg #[.int .i64 T,.slice A1 na1 ca1,.int .i64 next,.slice (some ⟨gc,0,none⟩) n1 c1],.agg #[.int .i64 10,.string { data:=#[] },.int .i64 0,.slice none 0 0],.int .i64 0]) ?_ rfl PX
       simp [results,Tryz.results40,go_sem,cX9,cY9]
      ·have hor2:cs=xs+1:=by omega
       subst hor2
       have hor':(xs+1 == xs+1)=true:=by simp
       go_wp2_with fail
       go_quiet (fail)
       obtain ⟨wv,hwq⟩:∃ wv,wv=wq.drewN nq:=⟨_,rfl⟩
       replace G9:=G9.drewN nq
       replace C9:=C9.drewN nq
       replace P9:=P9.drewN nq
       replace R9:=R9.drewN nq
       replace KB:=KB.drewN nq
       have bq:Below wq.heap.size wq (wq.drewN nq):=bdrewN (Below.refl _ _) nq
       replace q9:=bdrewN q9 nq
       replace S9:=S9.bl bq;replace O9:=O9.bl bq;replace TY:=TY.bl bq
       rw [←hwq] at G9 C9 P9 R9 KB q9 S9 O9 TY ⊢
       clear hwq bq cG9 fG9 cC9 fC9 i0 i1 hgc1
       have hgc1:=KB.lt
       have ha1:=G9.lt
       have ha2:=C9.lt
       have hs1:w.heap.size<wv.heap.size:=by omega
       have hr0:=HR6.out
       rw [if_neg hor] at hr0
       have HR7:=hide hr0
       clear HR6 hr0
       have hcmd:=HPR.out.2.2
       have hap2:=apply_self (t:=time) HOK.out.sto (by omega) hT1 hcmd
       simp only at hap2
       have hre:=(doS_rep HOK.out.sto hcmd).few
       have HA2:=hide (Apply_may HOK.out.sto time _ _ hap2 (by omega) (by omega) A1 na1 ca1)
       clear hap2 hcmd HPR
       generalize doS T es ⟨ck,cy,cf,ct,cn⟩=DS at *
       obtain ⟨es2,⟨rc,rt,rn,rl⟩⟩:=DS
       simp only at HA2 HR7 hre
       have HREP:=hide hre
       clear hre
       (try clear cG9 fG9);have cG9:=G9.cell;have fG9:=G9.frozen;(try clear cC9 fC9);have cC9:=C9.cell;have fC9:=C9.frozen
       go_wp2_with fail
       refine (HA2.out wv S9).mono ?_
       rintro e wx ⟨A2,na2,ca2,Y2,m2,d2,rfl,S2,L2,T2,hbx⟩
       replace G9:=G9.bl hbx;replace C9:=C9.bl hbx;replace P9:=P9.bl hbx;replace R9:=R9.bl hbx;replace KB:=KB.bl hbx;replace O9:=O9.bl hbx
       replace q9:=bstep q9 hbx
       have HGX:=hide G9.lt
       have HKX:=hide KB.lt
       have TR:TxSl wx Y2 m2 d2 rl:=⟨L2,T2⟩
       clear hbx HA2 L2 T2 S9 TY cG9 fG9 cC9 fC9
       replace G9:=G9.al (.cells #[.int .i64 T,.slice A2 na2 ca2] 38);replace C9:=C9.al (.cells #[.int .i64 T,.slice A2 na2 ca2] 38);replace P9:=P9.al (.cells #[.int .i64 T,.slice A2 na2 ca2] 38);replace R9:=R9.al (.cells #[.int .i64 T,.slice A2 na2 ca2] 38);replace KB:=KB.al (.cells #[.int .i64 T,.slice A2 na2 ca2] 38);replace O9:=O9.al (.cells #[.int .i64 T,.slice A2 na2 ca2] 38);replace S2:=S2.al (.cells #[.int .i64 T,.slice A2 na2 ca2] 38);replace TR:=TR.al (.cells #[.int .i64 T,.slice A2 na2 ca2] 38)
       replace G9:=G9.al (.cells #[.int .i64 rc,.string rt,.int .i64 rn,.slice Y2 m2 d2] 102);replace C9:=C9.al (.cells #[.int .i64 rc,.string rt,.int .i64 rn,.slice Y2 m2 d2] 102);replace P9:=P9.al (.cells #[.int .i64 rc,.string rt,.int .i64 rn,.slice Y2 m2 d2] 102);replace R9:=R9.al (.cells #[.int .i64 rc,.string rt,.int .i64 rn,.slice Y2 m2 d2] 102);replace KB:=KB.al (.cells #[.int .i64 rc,.string rt,.int .i64 rn,.slice Y2 m2 d2] 102);replace O9:=O9.al (.cells #[.int .i64 rc,.string rt,.int .i64 rn,.slice Y2 m2 d2] 102);replace S2:=S2.al (.cells #[.int .i64 rc,.string rt,.int .i64 rn,.slice Y2 m2 d2] 102);replace TR:=TR.al (.cells #[.int .i64 rc,.string rt,.int .i64 rn,.slice Y2 m2 d2] 102)
       have D9:=(Blk.new wx 38 #[.int .i64 T,.slice A2 na2 ca2]).alloc (.cells #[.int .i64 rc,.string rt,.int .i64 rn,.slice Y2 m2 d2] 102)
       have X9:Blk ((wx.alloc (.cells #[.int .i64 T,.slice A2 na2 ca2] 38)).alloc (.cells #[.int .i64 rc,.string rt,.int .i64 rn,.slice Y2 m2 d2] 102)) (wx.heap.size+1) 102 #[.int .i64 rc,.string rt,.int .i64 rn,.slice Y2 m2 d2]:=Blk.new' _ _ _ (by simp)
       replace q9:Below w.heap.size w ((wx.alloc (.cells #[.int .i64 T,.slice A2 na2 ca2] 38)).alloc (.cells #[.int .i64 rc,.string rt,.int .i64 rn,.slice Y2 m2 d2] 102)):=below_by
       (try clear cG9 fG9);have cG9:=G9.cell;have fG9:=G9.frozen
       go_wp2_with fail
       obtain ⟨wy,hwy⟩:∃ wy,wy=((wx.alloc (.cells #[.int .i64 T,.slice A2 na2 ca2] 38)).alloc (.cells #[.int .i64 rc,.string rt,.int .i64 rn,.slice Y2 m2 d2] 102)):=⟨_,rfl⟩
       have hxy:wy.heap.size=wx.heap.size+2:=by rw [hwy];simp
       rw [←hwy] at G9 C9 P9 R9 KB O9 S2 TR D9 X9 q9 ⊢
       clear hwy cG9 fG9
       have hgx:=HGX.out
       have hkx:=HKX.out
       have hsx:w.heap.size+3<wx.heap.size:=by omega
       have gr:=grown_trans (grown_setRow_cell wy g 0 (.int .i64 T)) (grown_setRow_cell _ g 1 (.slice A2 na2 ca2))
       replace C9:=grown_blk C9 gr (by omega)
       replace P9:=grown_blk P9 gr (by omega)
       replace R9:=grown_blk R9 gr (by omega)
       replace KB:=grown_blk KB gr hgne
       replace D9:=grown_blk D9 gr (by omega)
       replace X9:=grown_blk X9 gr (by omega)
       replace O9:=O9.grown G9 gr
       replace S2:=S2.grown G9 gr
       replace TR:=TR.grown G9 gr
       replace q9:=below_grow q9 gr q9.size (by omega)
       replace G9:=(G9.set' (i:=0) (u:=.int .i64 T) rfl).set' (i:=1) (u:=.slice A2 na2 ca2) rfl
       obtain ⟨wz,hwz⟩:∃ wz,wz=((wy.setCell ⟨g,0,none⟩ (.int .i64 T)).setCell ⟨g,1,none⟩ (.slice A2 na2 ca2)):=⟨_,rfl⟩
       have hzy:wz.heap.size=wy.heap.size:=by rw [hwz];simp
       rw [←hwz] at G9 C9 P9 R9 KB O9 S2 TR D9 X9 q9 ⊢
       clear hwz gr
       refine wp_region_x (l:=[]) (S:=fun w'=>w'.cell? ⟨w.heap.size+1,1,none⟩=some (.int .i64 (xs+1))∧w'.cell? ⟨wx.heap.size,0,none⟩=some (.int .i64 T)∧w'.cell? ⟨wx.heap.size+1,0,none⟩=some (.int .i64 rc)∧w'.cell? ⟨wx.heap.size+1,1,none⟩=some (.string rt)∧w'.cell? ⟨wx.heap.size+1,2,none⟩=some (.int .i64 rn)∧w'.cell? ⟨wx.heap.size+1,3,none⟩=some (.slice Y2 m2 d2)) (by kernel_rfl) ⟨C9.drew.cell 1,D9.drew.cell 0,X9.drew.cell 0,X9.drew.cell 1,X9.drew.cell 2,X9.drew.cell 3⟩ (fun hS=>?_)
       obtain ⟨wd,hwd⟩:∃ wd,wd=wz.drew:=⟨_,rfl⟩
       replace G9:=G9.drew
       replace C9:=C9.drew
       replace P9:=P9.drew
       replace R9:=R9.drew
       replace KB:=KB.drew
       replace D9:=D9.drew
       replace X9:=X9.drew
       replace S2:=S2.dr
       replace O9:=O9.dr
       replace TR:=TR.dr
       replace q9:=q9.drew
       rw [←hwd] at G9 C9 P9 R9 KB D9 X9 S2 O9 TR q9 hS ⊢
       have hdz:wd.heap.size=wz.heap.size:=by rw [hwd];rfl
       clear hwd
       refine wpAnyX_tq 0 ?_
       refine wpAnyX_tq 1 ?_
       refine wpAnyX_tq 2 ?_
       refine wpAnyX_tq 3 ?_
       refine wpAnyX_tq 4 ?_
       refine wpAnyX_tq 5 ?_
       refine wpAnyX_tq 6 ?_
       refine wpAnyX_tq 7 ?_
       have hm2:m2≤1048576:=by have h1:=HREP.out;have h2:=TR.len;omega
       have HOR:=hide (ownReply_any ⟨rc,rt,rn,rl⟩ Y2 m2 d2 wd TR hm2)
       refine wpAnyX_oq 8 fun K hK=>?_
       go_wp2_with fail
       ((with_reducible refine HOR.out.mono ?_);rintro e we ⟨Y3,m3,d3,rfl,TN,hbe⟩)
       go_wp2_with fail
       have hde:=hbe.size
       replace G9:=G9.bl hbe;replace C9:=C9.bl hbe;replace P9:=P9.bl hbe;replace R9:=R9.bl hbe;replace KB:=KB.bl hbe;replace D9:=D9.bl hbe;replace X9:=X9.bl hbe;replace S2:=S2.bl hbe;replace O9:=O9.bl hbe;replace TR:=TR.bl hbe
       replace q9:=bstep q9 hbe
       refine hK.out _ _ (Or.inr ⟨C9.cell 1,D9.cell 0,X9.cell 0,X9.cell 1,X9.cell 2,X9.cell 3⟩) (fun hS=>?_)
       replace hS:=hS.resolve_left (by decide)
       clear hK K HOR hbe
       have hKC:gc≠w.heap.size+1:=blk_ne KB C9 (by decide)
       have hKD:gc≠wx.heap.size:=blk_ne KB D9 (by decide)
       have hKX:gc≠wx.heap.size+1:=blk_ne KB X9 (by decide)
       have hgc1:=KB.lt
       refine wpAnyX_ps 9 ?_
       refine wpAnyX_ps 10 ?_
       have i0:=(KB.cell (i*7)).trans u0;have i1:=(KB.cell (i*7+1)).trans u1;have i2:=(KB.cell (i*7+2)).trans u2;have i3:=(KB.cell (i*7+3)).trans u3;have i4:=(KB.cell (i*7+4)).trans u4;have i5:=(KB.cell (i*7+5)).trans u5;have i6:=(KB.cell (i*7+6)).trans u6
       have fKB:=KB.frozen
       refine wpAnyX_oq 11 fun K hK=>?_
       go_wp2_with fail
       have Ca:=C9.far (p:=⟨gc,i*7+1,none⟩) hKC.symm (.int .i64 (xs+1))
       have Da:=D9.far (p:=⟨gc,i*7+1,none⟩) hKD.symm (.int .i64 (xs+1))
       have Xa:=X9.far (p:=⟨gc,i*7+1,none⟩) hKX.symm (.int .i64 (xs+1))
       refine hK.out _ _ (Or.inr ⟨Ca.cell 1,Da.cell 0,Xa.cell 0,Xa.cell 1,Xa.cell 2,Xa.cell 3⟩) (fun hS=>?_)
       replace hS:=hS.resolve_left (by decide)
       clear hK K
       refine wpAnyX_ps 12 ?_
       refine wpAnyX_ps 13 ?_
       refine wpAnyX_oq 14 fun K hK=>?_
       go_wp2_with fail
       have Cb:=Ca.far (p:=⟨gc,i*7+2,none⟩) hKC.symm (.int .i64 T)
       have Db:=Da.far (p:=⟨gc,i*7+2,none⟩) hKD.symm (.int .i64 T)
       have Xb:=Xa.far (p:=⟨gc,i*7+2,none⟩) hKX.symm (.int .i64 T)
       refine hK.out _ _ (Or.inr ⟨Cb.cell 1,Db.cell 0,Xb.cell 0,Xb.cell 1,Xb.cell 2,Xb.cell 3⟩) (fun hS=>?_)
       replace hS:=hS.resolve_left (by decide)
       clear hK K
       refine wpAnyX_ps 15 ?_
       refine wpAnyX_ps 16 ?_
       refine wpAnyX_oq 17 fun K hK=>?_
       go_wp2_with fail
       have Cc:=Cb.far (p:=⟨gc,i*7+3,none⟩) hKC.symm (.int .i64 rc)
       have Dc:=Db.far (p:=⟨gc,i*7+3,none⟩) hKD.symm (.int .i64 rc)
       have Xc:=Xb.far (p:=⟨gc,i*7+3,none⟩) hKX.symm (.int .i64 rc)
       have Cd:=Cc.far (p:=⟨gc,i*7+4,none⟩) hKC.symm (.string rt)
       have Dd:=Dc.far (p:=⟨gc,i*7+4,none⟩) hKD.symm (.string rt)
       have Xd:=Xc.far (p:=⟨gc,i*7+4,none⟩) hKX.symm (.string rt)
       have Cf:=Cd.far (p:=⟨gc,i*7+5,none⟩) hKC.symm (.int .i64 rn)
       have Df:=Dd.far (p:=⟨gc,i*7+5,none⟩) hKD.symm (.int .i64 rn)
       have Xf:=Xd.far (p:=⟨gc,i*7+5,none⟩) hKX.symm (.int .i64 rn)
       have Cg:=Cf.far (p:=⟨gc,i*7+6,none⟩) hKC.symm (.slice Y3 m3 d3)
       have Dg:=Df.far (p:=⟨gc,i*7+6,none⟩) hKD.symm (.slice Y3 m3 d3)
       have Xg:=Xf.far (p:=⟨gc,i*7+6,none⟩) hKX.symm (.slice Y3 m3 d3)
       refine hK.out _ _ (Or.inr ⟨Cg.cell 1,Dg.cell 0,Xg.cell 0,Xg.cell 1,Xg.cell 2,Xg.cell 3⟩) (fun hS=>?_)
       clear hK K hS
       clear Ca Cb Cc Cd Cf Cg Da Db Dc Dd Df Dg Xa Xb Xc Xd Xf Xg
       clear i0 i1 i2 i3 i4 i5 i6 fKB u0 u1 u2 u3 u4 u5 u6
       refine wpAnyX_done (by kernel_rfl) ?_ _
       have hil':=hil
       obtain ⟨O10,gr10⟩:=cli_put O9 hil (xs+1) T rc rn rt TN
       rw [hx] at O10
       simp only at O10
       have Gb:=grown_blk G9 gr10 hgne.symm
       replace P9:=grown_blk P9 gr10 hgne2.symm
       replace R9:=grown_blk R9 gr10 hgne3.symm
       have X:=grown_blk X9 gr10 hKX.symm
       have S9:=S2.grown KB gr10
       have T9:=TR.grown KB gr10
       replace q9:=below_grow q9 gr10 q9.size hgcB
       have C9:=Ci.of O10
       obtain ⟨wc,hwc⟩:∃ wc,wc=((((((we.setCell ⟨gc,i*7+1,none⟩ (.int .i64 (xs+1))).setCell ⟨gc,i*7+2,none⟩ (.int .i64 T)).setCell ⟨gc,i*7+3,none⟩ (.int .i64 rc)).setCell ⟨gc,i*7+4,none⟩ (.string rt)).setCell ⟨gc,i*7+5,none⟩ (.int .i64 rn)).setCell ⟨gc,i*7+6,none⟩ (.slice Y3 m3 d3)):=⟨_,rfl⟩
       rw [←hwc] at P9 R9 S9 C9 T9 Gb X q9 ⊢
       clear hwc gr10 O10 O9 G9 X9 KB D9 S2 TR TN
       have hr:=HR7.out
       subst hr
       go_wp2_with fail
       refine wp_region_x (l:=[]) (S:=fun w'=>w'.cell? ⟨g,0,none⟩=some (.int .i64 T)∧w'.cell? ⟨g,1,none⟩=some (.slice A2 na2 ca2)∧w'.cell? ⟨g,2,none⟩=some (.int .i64 next)∧w'.cell? ⟨g,3,none⟩=some (.slice (some ⟨gc,0,none⟩) n1 c1)∧w'.cell? ⟨(wx.heap.size+1),0,none⟩=some (.int .i64 rc)∧w'.cell? ⟨(wx.heap.size+1),1,none⟩=some (.string rt)∧w'.cell? ⟨(wx.heap.size+1),2,none⟩=some (.int .i64 rn)∧w'.cell? ⟨(wx.heap.size+1),3,none⟩=some (.slice Y2 m2 d2)) (by kernel_rfl) ⟨Gb.drew.cell 0,Gb.drew.cell 1,Gb.drew.cell 2,Gb.drew.cell 3,X.drew.cell 0,X.drew.cell 1,X.drew.cell 2,X.drew.cell 3⟩ (fun hS=>?_)
       obtain ⟨wdf,hwd⟩:∃ wdf,wdf=wc.drew:=⟨_,rfl⟩
       replace P9:=P9.drew
       replace R9:=R9.drew
       replace S9:=S9.dr
       replace C9:=C9.dr
       replace T9:=T9.dr
       replace Gb:=Gb.drew
       replace X:=X.drew
       replace q9:=q9.drew
       rw [←hwd] at P9 R9 S9 C9 T9 Gb X q9 hS ⊢
       clear hwd
       refine wpAnyX_tq 0 ?_
       refine wpAnyX_tq 1 ?_
       have HPX:=hide (mach_done (M:=⟨T,es2,next,clis.set i ⟨xi,xs+1,T,⟨rc,rt,rn,rl⟩⟩⟩) (r:=⟨rc,rt,rn,rl⟩) (k:=0) P9 R9 S9 C9 T9 q9 (by omega) (by omega) rfl rfl rfl rfl rfl)
       obtain ⟨PB,grB,-⟩:=whole_mach (.int .i64 T) (.slice A2 na2 ca2) (.int .i64 next) (.slice (some ⟨gc,0,none⟩) n1 c1) P9
       have RB:=grown_blk R9 grB (by omega)
       have GB:=grown_blk Gb grB (by omega)
       have XB:=grown_blk X grB (by omega)
       obtain ⟨RC,grC,-⟩:=whole_reply (.int .i64 rc) (.string rt) (.int .i64 rn) (.slice Y2 m2 d2) RB
       have GC:=grown_blk GB grC (by omega)
       have XC:=grown_blk XB grC (by omega)
       clear S9 C9 T9 q9 
       (try clear cP9 fP9);have cP9:=P9.cell;have fP9:=P9.frozen
       refine wpAnyX_oq 2 fun K hK=>?_
       go_wp2_with fail
       refine hK.out _ _ (Or.inr ⟨GB.cell 0,GB.cell 1,GB.cell 2,GB.cell 3,XB.cell 0,XB.cell 1,XB.cell 2,XB.cell 3⟩) (fun hS=>?_)
       replace hS:=hS.resolve_left (by decide)
       clear hK K cP9 fP9
       (try clear cRB fRB);have cRB:=RB.cell;have fRB:=RB.frozen
       refine wpAnyX_oq 3 fun K hK=>?_
       go_wp2_with fail
       refine hK.out _ _ (Or.inr ⟨GC.cell 0,GC.cell 1,GC.cell 2,GC.cell 3,XC.cell 0,XC.cell 1,XC.cell 2,XC.cell 3⟩) (fun hS=>?_)
       replace hS:=hS.resolve_left (by decide)
       clear hK K cRB fRB
       refine wpAnyX_oq 4 fun K hK=>?_
       go_wp2_with fail
       refine hK.out _ _ (Or.inr ⟨GC.cell 0,GC.cell 1,GC.cell 2,GC.cell 3,XC.cell 0,XC.cell 1,XC.cell 2,XC.cell 3⟩) (fun hS=>?_)
       clear hK K hS
       refine wpAnyX_done (by kernel_rfl) ?_ _
       go_wp2_with fail
       obtain ⟨PX,X9,Y9⟩:=HPX.out
       have cX9:=X9.cell;have cY9:=Y9.cell
       refine bodyPost_ret (v:=.tuple #[.agg #[.int .i64 T,.slice A2 na2 ca2,.int .i64 next,.slice (some ⟨gc,0,none⟩) n1 c1],.agg #[.int .i64 rc,.string rt,.int .i64 rn,.slice Y2 m2 d2],.int .i64 0]) ?_ rfl PX
       simp [results,Tryz.results40,go_sem,cX9,cY9]
  ·have hr:=HR2.out
   rw [if_pos (by simpa using hcz)] at hr
   subst hr
   have hcz':(cz == 0)=false:=by rw [beq_eq_false_iff_ne];exact hcz
   have HPX:=hide (mach_done (M:=zeroMach) (r:=zeroRe) (k:=cz) (a0:=0) (A:=none) (n:=0) (c:=0) (a1:=0) (B:=none) (n':=0) (c':=0) (k0:=0) (t0:={ data:=#[] }) (m0:=0) (Y:=none) (m:=0) (d:=0) P0 R0 (St.nil _) (Ci.nil _) (TxSl.nil _) q (by omega) (by omega) rfl rfl rfl rfl rfl)
   (try clear cP0 fP0);have cP0:=P0.cell;have fP0:=P0.frozen;(try clear cR0 fR0);have cR0:=R0.cell;have fR0:=R0.frozen
   go_wp2_with fail
   obtain ⟨PX,X9,Y9⟩:=HPX.out
   have cX9:=X9.cell;have cY9:=Y9.cell
   refine bodyPost_ret (v:=.tuple #[.agg #[.int .i64 0,.slice none 0 0,.int .i64 0,.slice none 0 0],.agg #[.int .i64 0,.string { data:=#[] },.int .i64 0,.slice none 0 0],.int .i64 cz]) ?_ rfl PX
   simp [results,Tryz.results40,go_sem,cX9,cY9]
end Go.Proofs.YtgmojjclobkpjaaGreatDoor

