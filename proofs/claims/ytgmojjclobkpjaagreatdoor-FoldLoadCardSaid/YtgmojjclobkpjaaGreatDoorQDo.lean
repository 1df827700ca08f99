import Derived.Test.YtgmojjclobkpjaaGreatDoorQSet
import Derived.Test.YtgmojjclobkpjaaGreatDoorQList
import Derived.Test.YtgmojjclobkpjaaGreatDoorQHold
import Derived.Test.YtgmojjclobkpjaaGreatDoorQBase
namespace Go.Proofs.YtgmojjclobkpjaaGreatDoor
set_option linter.all false
set_option maxHeartbeats 32000000
open Go.RowKit
attribute [local go_sem ↓] Go.wp_at_zero Go.wp_at_succ
def doAdd (v:Va) (c:Cmd):Va×Re:=if countOk (v.count+c.n)=true then ({ v with count:=v.count+c.n },toldR (v.count+c.n)) else (v,failR 7)
def doVal (v:Va) (c:Cmd):Va×Re:=
 if c.kind=1 then (⟨1,c.text,0,[],[],[]⟩,toldR 0)
 else if c.kind=2 then (v,textR v.text)
 else if c.kind=3 then doAdd v c
 else if c.kind=17 then (v,toldR (v.size:Int))
 else if c.kind=18 then (v,⟨0,emp,0,allOf v⟩)
 else if v.kind=3 then doHash v c else if v.kind=4 then doList v c else if v.kind=5 then doSet v c else doRank v c
theorem re_done3 {w w2:World} {v:Va} {B g b:Nat} {A1 A2 A3 A4:Option Addr} {n1 c1 n2 c2 n3 c3 n4 c4:Nat} {k0 m0:Int} {t0:ByteArray} {l:List ByteArray} {x0 x1 x2 x3:Value}
  (G:Blk w2 g 96 #[.int .i64 v.kind,.string v.text,.int .i64 v.count,.slice A1 n1 c1,.slice A2 n2 c2,.slice A3 n3 c3]) (R:Blk w2 b 102 #[x0,x1,x2,x3]) (N:VSl w2 v A1 n1 c1 A2 n2 c2 A3 n3 c3) (L:Sl w2 1 A4 n4 c4 (strRows l))
  (T:Tp w2 A1 137∧Tp w2 A2 9∧Tp w2 A3 139∧Tp w2 A4 9) (q:Mov B w w2) (hb:B≤b) (hbw:w.heap.size≤b) :
  DoPost v ⟨k0,t0,m0,l⟩ B g w (.returned (.agg #[.int .i64 k0,.string t0,.int .i64 m0,.slice A4 n4 c4])) ((((w2.setCell ⟨b,0,none⟩ (.int .i64 k0)).setCell ⟨b,1,none⟩ (.string t0)).setCell ⟨b,2,none⟩ (.int .i64 m0)).setCell ⟨b,3,none⟩ (.slice A4 n4 c4)) ∧
  Blk ((((w2.setCell ⟨b,0,none⟩ (.int .i64 k0)).setCell ⟨b,1,none⟩ (.string t0)).setCell ⟨b,2,none⟩ (.int .i64 m0)).setCell ⟨b,3,none⟩ (.slice A4 n4 c4)) b 102 #[.int .i64 k0,.string t0,.int .i64 m0,.slice A4 n4 c4]:=by
 have hgb:g≠b:=blk_ne G R (by decide)
 have h1:=T.1.ne R;have h2:=T.2.1.ne R;have h3:=T.2.2.1.ne R;have h4:=T.2.2.2.ne R
 have R1:=R.set' (i:=0) (u:=.int .i64 k0) rfl
 have R2:=R1.set' (i:=1) (u:=.string t0) rfl
 have R3:=R2.set' (i:=2) (u:=.int .i64 m0) rfl
 have R4:=R3.set' (i:=3) (u:=.slice A4 n4 c4) rfl
 have N4:=(((N.far_ h1 h2 h3 0 (.int .i64 k0)).far_ h1 h2 h3 1 (.string t0)).far_ h1 h2 h3 2 (.int .i64 m0)).far_ h1 h2 h3 3 (.slice A4 n4 c4)
 have L4:=(((L.far (grown_setRow_cell w2 b 0 (.int .i64 k0)) h4).far (grown_setRow_cell _ b 1 (.string t0)) h4).far (grown_setRow_cell _ b 2 (.int .i64 m0)) h4).far (grown_setRow_cell _ b 3 (.slice A4 n4 c4)) h4
 refine ⟨⟨A1,n1,c1,A2,n2,c2,A3,n3,c3,A4,n4,c4,rfl,?_,N4,L4,⟨((((T.1.set b 0 _).set b 1 _).set b 2 _).set b 3 _),((((T.2.1.set b 0 _).set b 1 _).set b 2 _).set b 3 _),((((T.2.2.1.set b 0 _).set b 1 _).set b 2 _).set b 3 _),((((T.2.2.2.set b 0 _).set b 1 _).set b 2 _).set b 3 _)⟩,?_⟩,R4⟩
 ·exact (((G.far (by simpa using hgb) _).far (by simpa using hgb) _).far (by simpa using hgb) _).far (by simpa using hgb) _
 ·exact (((q.setN hb hbw 0 _).setN hb hbw 1 _).setN hb hbw 2 _).setN hb hbw 3 _
def fits (ck vk:Int):Prop:=ck=1∨(ck=2∧vk=1)∨(ck=3∧vk=2)∨((ck=4∨ck=5∨ck=6)∧vk=3)∨((ck=7∨ck=8∨ck=9∨ck=10)∧vk=4)∨((ck=11∨ck=12∨ck=13)∧vk=5)∨((ck=14∨ck=15∨ck=16)∧vk=6)∨ck=17∨ck=18
set_option maxRecDepth 100000 in
theorem do_any (v:Va) (c:Cmd) (B g:Nat) (A1 A2 A3:Option Addr) (n1 c1 n2 c2 n3 c3:Nat) (w:World) (hG:Blk w g 96 #[.int .i64 v.kind,.string v.text,.int .i64 v.count,.slice A1 n1 c1,.slice A2 n2 c2,.slice A3 n3 c3])
  (hN:VNew w B v (.slice A1 n1 c1) (.slice A2 n2 c2) (.slice A3 n3 c3)) (hg:B≤g) (hBw:B≤w.heap.size) (l1:n1≤20) (l2:n2≤20) (l3:n3≤20) (hf:fits c.kind v.kind)
  (hr1:v.kind=3→risesBy (fun a b:Pr=>cmpB a.field b.field) v.pairs=true) (hr2:v.kind=5→risesBy cmpB v.items=true) (hr3:v.kind=6→risesBy cmpS v.scores=true) (hp:v.kind=4→9≤c.kind→0<n2)
  (k1 : -1099511627776≤v.count) (k2:v.count≤1099511627776) (k3 : -1099511627776≤c.n) (k4:c.n≤1099511627776) :
  Calls Tryz.prog 148 #[.pointer (some ⟨g,0,none⟩),.agg #[.int .i64 c.kind,.string c.key,.string c.field,.string c.text,.int .i64 c.n]] w (DoPost (doVal v c).1 (doVal v c).2 B g w):=by
 obtain ⟨D,hD⟩:∃ D,D=doVal v c:=⟨_,rfl⟩
 rw [←hD]
 have HD:=hide hD
 clear hD
 have hgl:=hG.lt
 obtain ⟨kind,key,field,text,n⟩:=c
 obtain ⟨vk,vt,vc,ps,is_,ss⟩:=v
 simp only at hG hN hf hr1 hr2 hr3 hp k1 k2 k3 k4 ⊢
 have hG1:=hG.alloc (.cells #[.int .i64 kind,.string key,.string field,.string text,.int .i64 n] 31)
 have hC1:=Blk.new w 31 #[.int .i64 kind,.string key,.string field,.string text,.int .i64 n]
 have C:=hC1.alloc (.cells #[.int .i64 0,.string { data:=#[] },.int .i64 0,.slice none 0 0] 102)
 have G:=hG1.alloc (.cells #[.int .i64 0,.string { data:=#[] },.int .i64 0,.slice none 0 0] 102)
 have N:=(hN.al (.cells #[.int .i64 kind,.string key,.string field,.string text,.int .i64 n] 31)).al (.cells #[.int .i64 0,.string { data:=#[] },.int .i64 0,.slice none 0 0] 102)
 have q:Below w.heap.size w ((w.alloc (.cells #[.int .i64 kind,.string key,.string field,.string text,.int .i64 n] 31)).alloc (.cells #[.int .i64 0,.string { data:=#[] },.int .i64 0,.slice none 0 0] 102)):=below_by
 have R:Blk ((w.alloc (.cells #[.int .i64 kind,.string key,.string field,.string text,.int .i64 n] 31)).alloc (.cells #[.int .i64 0,.string { data:=#[] },.int .i64 0,.slice none 0 0] 102)) (w.heap.size+1) 102 #[.int .i64 0,.string { data:=#[] },.int .i64 0,.slice none 0 0]:=Blk.new' _ _ _ (by simp)
 obtain ⟨wc,hwc⟩:∃ wc,wc=(w.alloc (.cells #[.int .i64 kind,.string key,.string field,.string text,.int .i64 n] 31)).alloc (.cells #[.int .i64 0,.string { data:=#[] },.int .i64 0,.slice none 0 0] 102):=⟨_,rfl⟩
 rw [←hwc] at C G N q R
 have hBc:B≤wc.heap.size:=by have:=q.size;omega
 have hgw:g<wc.heap.size:=G.lt
 have hww:w.heap.size<wc.heap.size:=C.lt
 have hrw:w.heap.size+1<wc.heap.size:=R.lt
 have Q:=Mov.of q hBw
 clear hG1 hC1 hG hN
 have HWC:=hide hwc
 clear hwc
 rcases hf with rfl|⟨rfl,rfl⟩|⟨rfl,rfl⟩|⟨hk,rfl⟩|⟨hk,rfl⟩|⟨hk,rfl⟩|⟨hk,rfl⟩|rfl|rfl
 ·have hv:D=(⟨1,text,0,[],[],[]⟩,toldR 0):=by rw [HD.out];simp [doVal]
  have HV:=hide hv
  clear HD hv
  clear hr1 hr2 hr3 hp
  (try clear cG fG);have cG:=G.cell;have fG:=G.frozen;(try clear cC fC);have cC:=C.cell;have fC:=C.frozen
  go_enter Tryz.func148,Tryz.ntmps148
  go_upto_region 1 with fail
  rw [←HWC.out]
  go_wp2_with fail
  have G1:=G.set' (i:=0) (u:=.int .i64 1) rfl
  have Q1:=Q.setV G hg 0 (.int .i64 1)
  have R1:=R.far (p:=⟨g,0,none⟩) (by simp;omega) (.int .i64 1)
  have G2:=G1.set' (i:=1) (u:=.string text) rfl
  have Q2:=Q1.setV G1 hg 1 (.string text)
  have R2:=R1.far (p:=⟨g,1,none⟩) (by simp;omega) (.string text)
  have G3:=G2.set' (i:=2) (u:=.int .i64 0) rfl
  have Q3:=Q2.setV G2 hg 2 (.int .i64 0)
  have R3:=R2.far (p:=⟨g,2,none⟩) (by simp;omega) (.int .i64 0)
  have G4:=G3.set' (i:=3) (u:=.slice none 0 0) rfl
  have Q4:=Q3.setV G3 hg 3 (.slice none 0 0)
  have R4:=R3.far (p:=⟨g,3,none⟩) (by simp;omega) (.slice none 0 0)
  have G5:=G4.set' (i:=4) (u:=.slice none 0 0) rfl
  have Q5:=Q4.setV G4 hg 4 (.slice none 0 0)
  have R5:=R4.far (p:=⟨g,4,none⟩) (by simp;omega) (.slice none 0 0)
  have G6:=G5.set' (i:=5) (u:=.slice none 0 0) rfl
  have Q6:=Q5.setV G5 hg 5 (.slice none 0 0)
  have R6:=R5.far (p:=⟨g,5,none⟩) (by simp;omega) (.slice none 0 0)
  clear cG fG cC fC
  refine (told_any 0 _).mono ?_
  rintro e w9 ⟨rfl,hb9⟩
  have G9:=G6.below' hb9;have R9:=R6.below' hb9;have Q9:=mov_post Q6 (by have:=Q6.size;omega) hb9
  have N9:VNew w9 B ⟨1,text,0,[],[],[]⟩ (.slice none 0 0) (.slice none 0 0) (.slice none 0 0):=⟨Own.nil,Own.nil,Own.nil⟩
  clear R6
  obtain ⟨P,R6⟩:=re_done3 (k0:=0) (t0:=emp) (m0:=0) G9 R9 N9.sl (show Sl _ 1 none 0 0 (strRows []) from Sl.nil_ _ _) ⟨Tp.none_,Tp.none_,Tp.none_,Tp.none_⟩ Q9 (by omega) (by omega)
  (try clear cR9 fR9);have cR9:=R9.cell;have fR9:=R9.frozen
  go_wp2_with fail
  have cR6:=R6.cell
  refine bodyPost_ret (v:=.agg #[.int .i64 0,.string emp,.int .i64 0,.slice none 0 0]) ?_ rfl (by rw [HV.out];exact P)
  simp [results,Tryz.results148,go_sem,cR6]
 ·have hv:D=(⟨1,vt,vc,ps,is_,ss⟩,textR vt):=by rw [HD.out];simp [doVal]
  have HV:=hide hv
  clear HD hv
  clear hr1 hr2 hr3 hp
  (try clear cG fG);have cG:=G.cell;have fG:=G.frozen;(try clear cC fC);have cC:=C.cell;have fC:=C.frozen
  go_enter Tryz.func148,Tryz.ntmps148
  go_upto_region 1 with fail
  rw [←HWC.out]
  obtain ⟨P,R6⟩:=re_done3 (k0:=0) (t0:=vt) (m0:=0) G R N.sl (show Sl _ 1 none 0 0 (strRows []) from Sl.nil_ _ _) ⟨own_tp N.1,own_tp N.2.1,own_tp N.2.2,Tp.none_⟩ Q (by omega) (by omega)
  (try clear cR fR);have cR:=R.cell;have fR:=R.frozen
  go_wp2_with fail
  have cR6:=R6.cell
  refine bodyPost_ret (v:=.agg #[.int .i64 0,.string vt,.int .i64 0,.slice none 0 0]) ?_ rfl (by rw [HV.out];exact P)
  simp [results,Tryz.results148,go_sem,cR6]
 ·have hw:IntKind.i64.wrap (vc+n)=vc+n:=IntWalk.i64_in _ (by omega)
  have hcn:=fun w=>countOk_any (vc+n) w
  have HCN:=hide hcn
  have HW:=hide hw
  clear hcn hw
  clear hr1 hr2 hr3 hp
  (try clear cG fG);have cG:=G.cell;have fG:=G.frozen;(try clear cC fC);have cC:=C.cell;have fC:=C.frozen
  go_enter Tryz.func148,Tryz.ntmps148
  go_upto_region 1 with fail
  rw [←HWC.out]
  go_upto_region 8 with fail
  go_cut [32] (fun s wx=>s = .bool (!countOk (vc+n))∧Blk wx g 96 #[.int .i64 2,.string vt,.int .i64 vc,.slice A1 n1 c1,.slice A2 n2 c2,.slice A3 n3 c3]∧Blk wx w.heap.size 31 #[.int .i64 3,.string key,.string field,.string text,.int .i64 n] ∧
   Blk wx (w.heap.size+1) 102 #[.int .i64 0,.string { data:=#[] },.int .i64 0,.slice none 0 0]∧VNew wx B ⟨2,vt,vc,ps,is_,ss⟩ (.slice A1 n1 c1) (.slice A2 n2 c2) (.slice A3 n3 c3)∧Below w.heap.size w wx)
  case first=>
   have hw:=HW.out
   go_quiet ((go_at_call 110;exact quiet_same (HCN.out _)))
   go_wp2_with fail
   go_meet
   exact ⟨rfl,G.drewN _,C.drewN _,R.drewN _,⟨N.1.drewN _,N.2.1.drewN _,N.2.2.drewN _⟩,below_by⟩
  case rest=>
   obtain ⟨rfl,G1,C1,R1,N1,q1⟩:=hcut
   clear cG fG cC fC G C R N q Q
   have hwz:=q1.size
   have hgc:g<wc.heap.size:=G1.lt
   have hgz:w.heap.size<wc.heap.size:=C1.lt
   have hrz:w.heap.size+1<wc.heap.size:=R1.lt
   have Q1:=Mov.of q1 hBw
   cases hok:countOk (vc+n) with
   | false=>
    have hv:D=(⟨2,vt,vc,ps,is_,ss⟩,failR 7):=by rw [HD.out];simp [doVal,doAdd,hok]
    have HV:=hide hv
    clear HD hv
    (try clear cG1 fG1);have cG1:=G1.cell;have fG1:=G1.frozen;(try clear cC1 fC1);have cC1:=C1.cell;have fC1:=C1.frozen
    go_wp2_with fail
    refine (failed_any 7 _).mono ?_
    rintro e w9 ⟨rfl,hb9⟩
    have G9:=G1.below' hb9;have R9:=R1.below' hb9;have N9:=N1.bl hb9;have Q9:=mov_post Q1 (by omega) hb9
    clear cG1 fG1 cC1 fC1
    obtain ⟨P,R6⟩:=re_done3 (k0:=7) (t0:=emp) (m0:=0) G9 R9 N9.sl (show Sl _ 1 none 0 0 (strRows []) from Sl.nil_ _ _) ⟨own_tp N9.1,own_tp N9.2.1,own_tp N9.2.2,Tp.none_⟩ Q9 (by omega) (by omega)
    (try clear cR9 fR9);have cR9:=R9.cell;have fR9:=R9.frozen
    go_wp2_with fail
    have cR6:=R6.cell
    refine bodyPost_ret (v:=.agg #[.int .i64 7,.string emp,.int .i64 0,.slice none 0 0]) ?_ rfl (by rw [HV.out];exact P)
    simp [results,Tryz.results148,go_sem,cR6]
   | true=>
    have hv:D=(⟨2,vt,vc+n,ps,is_,ss⟩,toldR (vc+n)):=by rw [HD.out];simp [doVal,doAdd,hok]
    have HV:=hide hv
    clear HD hv
    have hw:=HW.out
    (try clear cG1 fG1);have cG1:=G1.cell;have fG1:=G1.frozen;(try clear cC1 fC1);have cC1:=C1.cell;have fC1:=C1.frozen
    go_wp2_with fail
    refine wp_region_x (l:=[9]) (S:=fun w'=>w'.cell? ⟨g,2,none⟩=some (.int .i64 vc)∧w'.cell? ⟨w.heap.size,4,none⟩=some (.int .i64 n)) (by kernel_rfl) ⟨G1.drew.cell 2,C1.drew.cell 4⟩ (fun hS=>?_)
    refine wpAnyX_tq 0 ?_
    refine wpAnyX_tq 1 ?_
    refine wpAnyX_tq 2 ?_
    refine wpAnyX_tq 3 ?_
    refine wpAnyX_tq 4 ?_
    refine wpAnyX_tq 5 ?_
    refine wpAnyX_tq 6 ?_
    refine wpAnyX_ps 7 ?_
    refine wpAnyX_ps 8 ?_
    refine wpAnyX_oq 9 fun K hK=>?_
    go_wp2_with fail
    have G4:=(G1.set' (i:=2) (u:=.int .i64 (vc+n)) rfl).drew
    have R4:=Blk.drew (R1.far (p:=⟨g,2,none⟩) (by simp;omega) (.int .i64 (vc+n)))
    have N4:=(N1.st' G1 2 (.int .i64 (vc+n))).dr
    have Q4:=(Q1.setV G1 hg 2 (.int .i64 (vc+n))).drew
    refine hK.out _ _ (Or.inl (by decide)) (fun hS=>?_)
    clear hK K hS cG1 fG1 cC1 fC1
    refine wpAnyX_done (by kernel_rfl) ?_ _
    generalize (wc.setCell ⟨g,2,none⟩ (Value.int .i64 (vc+n))).drew=w5 at G4 R4 N4 Q4 ⊢
    (try clear cG4 fG4);have cG4:=G4.cell;have fG4:=G4.frozen
    clear hw
    go_wp2_with fail
    refine (told_any (vc+n) _).mono ?_
    rintro e w9 ⟨rfl,hb9⟩
    have G9:=G4.below' hb9;have R9:=R4.below' hb9;have N9:VNew w9 B ⟨2,vt,vc+n,ps,is_,ss⟩ (.slice A1 n1 c1) (.slice A2 n2 c2) (.slice A3 n3 c3):=N4.bl hb9;have Q9:=mov_post Q4 (by have:=Q4.size;omega) hb9
    clear cG4 fG4
    obtain ⟨P,R6⟩:=re_done3 (k0:=0) (t0:=emp) (m0:=(vc+n)) G9 R9 N9.sl (show Sl _ 1 none 0 0 (strRows []) from Sl.nil_ _ _) ⟨own_tp N9.1,own_tp N9.2.1,own_tp N9.2.2,Tp.none_⟩ Q9 (by omega) (by omega)
    (try clear cR9 fR9);have cR9:=R9.cell;have fR9:=R9.frozen
    go_wp2_with fail
    have cR6:=R6.cell
    refine bodyPost_ret (v:=.agg #[.int .i64 0,.string emp,.int .i64 (vc+n),.slice none 0 0]) ?_ rfl (by rw [HV.out];exact P)
    simp [results,Tryz.results148,go_sem,cR6]
 ·have hv:D=doHash ⟨3,vt,vc,ps,is_,ss⟩ ⟨kind,key,field,text,n⟩:=by rw [HD.out];unfold doVal;simp only;rcases hk with rfl|rfl|rfl <;> rfl
  have HV:=hide hv
  clear HD hv
  have hd:=fun wz G N hB=>hash_any ⟨3,vt,vc,ps,is_,ss⟩ ⟨kind,key,field,text,n⟩ B g A1 A2 A3 n1 c1 n2 c2 n3 c3 wz G N hg hB l1 (hr1 rfl) hk
  generalize doHash ⟨3,vt,vc,ps,is_,ss⟩ ⟨kind,key,field,text,n⟩=E at *
  obtain ⟨⟨ek,et,ec,eps,eis,ess⟩,⟨rc,rt,rn,rl⟩⟩:=E
  have HDD:=hide hd
  clear hd
  have b1:(kind == 1)=false:=by rw [beq_eq_false_iff_ne];omega
  have b2:(kind == 2)=false:=by rw [beq_eq_false_iff_ne];omega
  have b3:(kind == 3)=false:=by rw [beq_eq_false_iff_ne];omega
  have b4:(kind == 17)=false:=by rw [beq_eq_false_iff_ne];omega
  have b5:(kind == 18)=false:=by rw [beq_eq_false_iff_ne];omega
  clear hr1 hr2 hr3 hp hk
  (try clear cG fG);have cG:=G.cell;have fG:=G.frozen;(try clear cC fC);have cC:=C.cell;have fC:=C.frozen
  go_enter Tryz.func148,Tryz.ntmps148
  go_upto_region 1 with fail
  rw [←HWC.out]
  go_wp2_with fail
  refine (HDD.out _ G N hBc).mono ?_
  rintro e w9 ⟨D1,m1,d1,D2,m2,d2,D3,m3,d3,D4,m4,d4,rfl,G9,N9,L9,T9,M9⟩
  have R9:=M9.frm _ _ _ R (by decide) (by decide) (by decide) (by decide)
  have Q9:=Q.trans M9
  clear cG fG cC fC
  obtain ⟨P,R6⟩:=re_done3 (k0:=rc) (t0:=rt) (m0:=rn) G9 R9 N9 L9 T9 Q9 (by omega) (by omega)
  (try clear cR9 fR9);have cR9:=R9.cell;have fR9:=R9.frozen
  go_wp2_with fail
  have cR6:=R6.cell
  refine bodyPost_ret (v:=.agg #[.int .i64 rc,.string rt,.int .i64 rn,.slice D4 m4 d4]) ?_ rfl (by rw [HV.out];exact P)
  simp [results,Tryz.results148,go_sem,cR6]
 ·have hv:D=doList ⟨4,vt,vc,ps,is_,ss⟩ ⟨kind,key,field,text,n⟩:=by rw [HD.out];unfold doVal;simp only;rcases hk with rfl|rfl|rfl|rfl <;> rfl
  have HV:=hide hv
  clear HD hv
  have hd:=fun wz G N hB=>list_any ⟨4,vt,vc,ps,is_,ss⟩ ⟨kind,key,field,text,n⟩ B g A1 A2 A3 n1 c1 n2 c2 n3 c3 wz G N hg hB l2 hk (hp rfl)
  generalize doList ⟨4,vt,vc,ps,is_,ss⟩ ⟨kind,key,field,text,n⟩=E at *
  obtain ⟨⟨ek,et,ec,eps,eis,ess⟩,⟨rc,rt,rn,rl⟩⟩:=E
  have HDD:=hide hd
  clear hd
  have b1:(kind == 1)=false:=by rw [beq_eq_false_iff_ne];omega
  have b2:(kind == 2)=false:=by rw [beq_eq_false_iff_ne];omega
  have b3:(kind == 3)=false:=by rw [beq_eq_false_iff_ne];omega
  have b4:(kind == 17)=false:=by rw [beq_eq_false_iff_ne];omega
  have b5:(kind == 18)=false:=by rw [beq_eq_false_iff_ne];omega
  clear hr1 hr2 hr3 hp hk
  (try clear cG fG);have cG:=G.cell;have fG:=G.frozen;(try clear cC fC);have cC:=C.cell;have fC:=C.frozen
  go_enter Tryz.func148,Tryz.ntmps148
  go_upto_region 1 with fail
  rw [←HWC.out]
  go_wp2_with fail
  refine (HDD.out _ G N hBc).mono ?_
  rintro e w9 ⟨D1,m1,d1,D2,m2,d2,D3,m3,d3,D4,m4,d4,rfl,G9,N9,L9,T9,M9⟩
  have R9:=M9.frm _ _ _ R (by decide) (by decide) (by decide) (by decide)
  have Q9:=Q.trans M9
  clear cG fG cC fC
  obtain ⟨P,R6⟩:=re_done3 (k0:=rc) (t0:=rt) (m0:=rn) G9 R9 N9 L9 T9 Q9 (by omega) (by omega)
  (try clear cR9 fR9);have cR9:=R9.cell;have fR9:=R9.frozen
  go_wp2_with fail
  have cR6:=R6.cell
  refine bodyPost_ret (v:=.agg #[.int .i64 rc,.string rt,.int .i64 rn,.slice D4 m4 d4]) ?_ rfl (by rw [HV.out];exact P)
  simp [results,Tryz.results148,go_sem,cR6]
 ·have hv:D=doSet ⟨5,vt,vc,ps,is_,ss⟩ ⟨kind,key,field,text,n⟩:=by rw [HD.out];unfold doVal;simp only;rcases hk with rfl|rfl|rfl <;> rfl
  have HV:=hide hv
  clear HD hv
  have hd:=fun wz G N hB=>set_any ⟨5,vt,vc,ps,is_,ss⟩ ⟨kind,key,field,text,n⟩ B g A1 A2 A3 n1 c1 n2 c2 n3 c3 wz G N hg hB l2 (hr2 rfl) hk
  generalize doSet ⟨5,vt,vc,ps,is_,ss⟩ ⟨kind,key,field,text,n⟩=E at *
  obtain ⟨⟨ek,et,ec,eps,eis,ess⟩,⟨rc,rt,rn,rl⟩⟩:=E
  have HDD:=hide hd
  clear hd
  have b1:(kind == 1)=false:=by rw [beq_eq_false_iff_ne];omega
  have b2:(kind == 2)=false:=by rw [beq_eq_false_iff_ne];omega
  have b3:(kind == 3)=false:=by rw [beq_eq_false_iff_ne];omega
  have b4:(kind == 17)=false:=by rw [beq_eq_false_iff_ne];omega
  have b5:(kind == 18)=false:=by rw [beq_eq_false_iff_ne];omega
  clear hr1 hr2 hr3 hp hk
  (try clear cG fG);have cG:=G.cell;have fG:=G.frozen;(try clear cC fC);have cC:=C.cell;have fC:=C.frozen
  go_enter Tryz.func148,Tryz.ntmps148
  go_upto_region 1 with fail
  rw [←HWC.out]
  go_wp2_with fail
  refine (HDD.out _ G N hBc).mono ?_
  rintro e w9 ⟨D1,m1,d1,D2,m2,d2,D3,m3,d3,D4,m4,d4,rfl,G9,N9,L9,T9,M9⟩
  have R9:=M9.frm _ _ _ R (by decide) (by decide) (by decide) (by decide)
  have Q9:=Q.trans M9
  clear cG fG cC fC
  obtain ⟨P,R6⟩:=re_done3 (k0:=rc) (t0:=rt) (m0:=rn) G9 R9 N9 L9 T9 Q9 (by omega) (by omega)
  (try clear cR9 fR9);have cR9:=R9.cell;have fR9:=R9.frozen
  go_wp2_with fail
  have cR6:=R6.cell
  refine bodyPost_ret (v:=.agg #[.int .i64 rc,.string rt,.int .i64 rn,.slice D4 m4 d4]) ?_ rfl (by rw [HV.out];exact P)
  simp [results,Tryz.results148,go_sem,cR6]
 ·have hv:D=doRank ⟨6,vt,vc,ps,is_,ss⟩ ⟨kind,key,field,text,n⟩:=by rw [HD.out];unfold doVal;simp only;rcases hk with rfl|rfl|rfl <;> rfl
  have HV:=hide hv
  clear HD hv
  have hd:=fun wz G N hB=>ranks_any ⟨6,vt,vc,ps,is_,ss⟩ ⟨kind,key,field,text,n⟩ B g A1 A2 A3 n1 c1 n2 c2 n3 c3 wz G N hg hB l3 (hr3 rfl) hk
  generalize doRank ⟨6,vt,vc,ps,is_,ss⟩ ⟨kind,key,field,text,n⟩=E at *
  obtain ⟨⟨ek,et,ec,eps,eis,ess⟩,⟨rc,rt,rn,rl⟩⟩:=E
  have HDD:=hide hd
  clear hd
  have b1:(kind == 1)=false:=by rw [beq_eq_false_iff_ne];omega
  have b2:(kind == 2)=false:=by rw [beq_eq_false_iff_ne];omega
  have b3:(kind == 3)=false:=by rw [beq_eq_false_iff_ne];omega
  have b4:(kind == 17)=false:=by rw [beq_eq_false_iff_ne];omega
  have b5:(kind == 18)=false:=by rw [beq_eq_false_iff_ne];omega
  clear hr1 hr2 hr3 hp hk
  (try clear cG fG);have cG:=G.cell;have fG:=G.frozen;(try clear cC fC);have cC:=C.cell;have fC:=C.frozen
  go_enter Tryz.func148,Tryz.ntmps148
  go_upto_region 1 with fail
  rw [←HWC.out]
  go_wp2_with fail
  refine (HDD.out _ G N hBc).mono ?_
  rintro e w9 ⟨D1,m1,d1,D2,m2,d2,D3,m3,d3,D4,m4,d4,rfl,G9,N9,L9,T9,M9⟩
  have R9:=M9.frm _ _ _ R (by decide) (by decide) (by decide) (by decide)
  have Q9:=Q.trans M9
  clear cG fG cC fC
  obtain ⟨P,R6⟩:=re_done3 (k0:=rc) (t0:=rt) (m0:=rn) G9 R9 N9 L9 T9 Q9 (by omega) (by omega)
  (try clear cR9 fR9);have cR9:=R9.cell;have fR9:=R9.frozen
  go_wp2_with fail
  have cR6:=R6.cell
  refine bodyPost_ret (v:=.agg #[.int .i64 rc,.string rt,.int .i64 rn,.slice D4 m4 d4]) ?_ rfl (by rw [HV.out];exact P)
  simp [results,Tryz.results148,go_sem,cR6]
 ·have hv:D=(⟨vk,vt,vc,ps,is_,ss⟩,toldR ((⟨vk,vt,vc,ps,is_,ss⟩:Va).size:Int)):=by rw [HD.out];simp [doVal]
  have HV:=hide hv
  clear HD hv
  clear hr1 hr2 hr3 hp
  have hsz:((⟨vk,vt,vc,ps,is_,ss⟩:Va).size:Int)=(n1:Int)+n2+n3:=by have e1:=N.sl.n1_;have e2:=N.sl.n2_;have e3:=N.sl.n3_;simp only at e1 e2 e3;simp only [Va.size,e1,e2,e3];omega
  rw [hsz] at HV
  clear hsz
  (try clear cG fG);have cG:=G.cell;have fG:=G.frozen;(try clear cC fC);have cC:=C.cell;have fC:=C.frozen
  go_enter Tryz.func148,Tryz.ntmps148
  go_upto_region 1 with fail
  rw [←HWC.out]
  go_wp2_with fail
  refine (elements_any _ _ _ _ _ _ _ _ _ _ _ _ _ (by omega) (by omega) (by omega)).mono ?_
  rintro e w8 ⟨rfl,hb8⟩
  go_wp2_with fail
  refine (told_any _ _).mono ?_
  rintro e w9 ⟨rfl,hb9⟩
  have hb:=bstep hb8 hb9
  have G9:=G.below' hb;have R9:=R.below' hb;have N9:=N.bl hb;have Q9:=mov_post Q hBc hb
  clear cG fG cC fC
  obtain ⟨P,R6⟩:=re_done3 (k0:=0) (t0:=emp) (m0:=((n1:Int)+n2+n3)) G9 R9 N9.sl (show Sl _ 1 none 0 0 (strRows []) from Sl.nil_ _ _) ⟨own_tp N9.1,own_tp N9.2.1,own_tp N9.2.2,Tp.none_⟩ Q9 (by omega) (by omega)
  (try clear cR9 fR9);have cR9:=R9.cell;have fR9:=R9.frozen
  go_wp2_with fail
  have cR6:=R6.cell
  refine bodyPost_ret (v:=.agg #[.int .i64 0,.string emp,.int .i64 ((n1:Int)+n2+n3),.slice none 0 0]) ?_ rfl (by rw [HV.out];exact P)
  simp [results,Tryz.results148,go_sem,cR6]
 ·have hv:D=(⟨vk,vt,vc,ps,is_,ss⟩,⟨0,emp,0,allOf ⟨vk,vt,vc,ps,is_,ss⟩⟩):=by rw [HD.out];simp [doVal]
  have HV:=hide hv
  clear HD hv
  clear hr1 hr2 hr3 hp
  (try clear cG fG);have cG:=G.cell;have fG:=G.frozen;(try clear cC fC);have cC:=C.cell;have fC:=C.frozen
  go_enter Tryz.func148,Tryz.ntmps148
  go_upto_region 1 with fail
  rw [←HWC.out]
  go_wp2_with fail
  refine (all_any ⟨vk,vt,vc,ps,is_,ss⟩ A1 A2 A3 n1 c1 n2 c2 n3 c3 _ N.sl (by omega) (by omega) (by omega)).mono ?_
  rintro e w9 ⟨D4,m4,d4,rfl,o9,hb⟩
  have G9:=G.below' hb;have R9:=R.below' hb;have N9:=N.bl hb;have Q9:=mov_post Q hBc hb
  clear cG fG cC fC
  obtain ⟨P,R6⟩:=re_done3 (k0:=0) (t0:={ data:=#[] }) (m0:=0) G9 R9 N9.sl o9.sl' ⟨own_tp N9.1,own_tp N9.2.1,own_tp N9.2.2,own_tp o9⟩ Q9 (by omega) (by omega)
  (try clear cR9 fR9);have cR9:=R9.cell;have fR9:=R9.frozen
  go_wp2_with fail
  have cR6:=R6.cell
  refine bodyPost_ret (v:=.agg #[.int .i64 0,.string { data:=#[] },.int .i64 0,.slice D4 m4 d4]) ?_ rfl (by rw [HV.out];exact P)
  simp [results,Tryz.results148,go_sem,cR6]
end Go.Proofs.YtgmojjclobkpjaaGreatDoor

