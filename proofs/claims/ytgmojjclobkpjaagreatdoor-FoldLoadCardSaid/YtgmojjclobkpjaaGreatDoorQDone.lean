import Derived.Test.YtgmojjclobkpjaaGreatDoorQDonP
namespace Go.Proofs.YtgmojjclobkpjaaGreatDoor
set_option linter.all false
set_option maxHeartbeats 32000000
open Go.RowKit
def DonePost (R:Va×Re×Int) (w:World) (e:Ending) (w':World):Prop:=
 ∃ A1 n1 c1 A2 n2 c2 A3 n3 c3 A4 n4 c4,e = .returned (.tuple #[.agg #[.int .i64 R.1.kind,.string R.1.text,.int .i64 R.1.count,.slice A1 n1 c1,.slice A2 n2 c2,.slice A3 n3 c3],.agg #[.int .i64 R.2.1.code,.string R.2.1.text,.int .i64 R.2.1.n,.slice A4 n4 c4],.int .i64 R.2.2]) ∧
  VSl w' R.1 A1 n1 c1 A2 n2 c2 A3 n3 c3∧Sl w' 1 A4 n4 c4 (strRows R.2.1.list)∧(Tp w' A1 137∧Tp w' A2 9∧Tp w' A3 139∧Tp w' A4 9)∧Below w.heap.size w w'
def DonePostN (R:Va×Re×Int) (w:World) (e:Ending) (w':World):Prop:=
 ∃ A1 n1 c1 A2 n2 c2 A3 n3 c3 A4 n4 c4,e = .returned (.tuple #[.agg #[.int .i64 R.1.kind,.string R.1.text,.int .i64 R.1.count,.slice A1 n1 c1,.slice A2 n2 c2,.slice A3 n3 c3],.agg #[.int .i64 R.2.1.code,.string R.2.1.text,.int .i64 R.2.1.n,.slice A4 n4 c4],.int .i64 R.2.2]) ∧
  VSl w' R.1 A1 n1 c1 A2 n2 c2 A3 n3 c3∧Sl w' 1 A4 n4 c4 (strRows R.2.1.list)∧(Tp w' A1 137∧Tp w' A2 9∧Tp w' A3 139∧Tp w' A4 9)∧Below w.heap.size w w'∧∀ a,A2=some a→w.heap.size≤a.block
theorem DonePostN.done {R:Va×Re×Int} {w w':World} {e:Ending} (h:DonePostN R w e w'):DonePost R w e w':=by
 obtain ⟨A1,n1,c1,A2,n2,c2,A3,n3,c3,A4,n4,c4,h1,h2,h3,h4,h5,_⟩:=h
 exact ⟨A1,n1,c1,A2,n2,c2,A3,n3,c3,A4,n4,c4,h1,h2,h3,h4,h5⟩
theorem own_new {w:World} {B B':Nat} {e:TypeId} {sz:Nat} {A:Option Addr} {n c:Nat} {rows:List (List Value)} (h:Own w B e sz (.slice A n c) rows) (hB:B'≤B):∀ a,A=some a→B'≤a.block:=by
 rintro a rfl
 rcases h.form with ⟨hv,_⟩|⟨b,cap,hv,hb,_⟩
 ·cases hv
 ·injection hv with e1 _ _
  injection e1 with e1
  subst e1
  exact Nat.le_trans hB hb
theorem nil_new {B:Nat}:∀ a:Addr,(none:Option Addr)=some a→B≤a.block:=fun _ h=>by cases h
theorem nil_vsl {w:World} {k n:Int} {t:ByteArray}:VSl w ⟨k,t,n,[],[],[]⟩ none 0 0 none 0 0 none 0 0:=⟨Sl.nil_ _ _,Sl.nil_ _ _,Sl.nil_ _ _⟩
theorem nil_sl {w:World}:Sl w 1 none 0 0 (strRows []):=Sl.nil_ _ _
theorem nil_tp {w:World}:Tp w none 137∧Tp w none 9∧Tp w none 139∧Tp w none 9:=⟨Tp.none_,Tp.none_,Tp.none_,Tp.none_⟩
theorem tp_drew {w:World} {A:Option Addr} {t:TypeId} (h:Tp w A t):Tp w.drew A t:=fun a ha=>by
 obtain ⟨cs,h⟩:=h a ha
 exact ⟨cs,h.drew⟩
theorem below_set {B:Nat} {a w:World} (h:Below B a w) {b:Nat} (hb:B≤b) (i:Nat) (u:Value):Below B a (w.setCell ⟨b,i,none⟩ u):=h.setCell hb u
theorem fin_done {w w2:World} {v:Va} {r:Re} {k:Int} {b1 b2:Nat} {A1 A2 A3 A4:Option Addr} {n1 c1 n2 c2 n3 c3 n4 c4:Nat} {x0 x1 x2 x3 x4 x5 y0 y1 y2 y3:Value}
  (RV:Blk w2 b1 96 #[x0,x1,x2,x3,x4,x5]) (RR:Blk w2 b2 102 #[y0,y1,y2,y3]) (N:VSl w2 v A1 n1 c1 A2 n2 c2 A3 n3 c3) (L:Sl w2 1 A4 n4 c4 (strRows r.list))
  (T:Tp w2 A1 137∧Tp w2 A2 9∧Tp w2 A3 139∧Tp w2 A4 9) (q:Below w.heap.size w w2) (h1:w.heap.size≤b1) (h2:w.heap.size≤b2) (F:∀ a,A2=some a→w.heap.size≤a.block) :
  DonePostN (v,r,k) w (.returned (.tuple #[.agg #[.int .i64 v.kind,.string v.text,.int .i64 v.count,.slice A1 n1 c1,.slice A2 n2 c2,.slice A3 n3 c3],.agg #[.int .i64 r.code,.string r.text,.int .i64 r.n,.slice A4 n4 c4],.int .i64 k])) ((((((((((w2.setCell ⟨b1,0,none⟩ (.int .i64 v.kind)).setCell ⟨b1,1,none⟩ (.string v.text)).setCell ⟨b1,2,none⟩ (.int .i64 v.count)).setCell ⟨b1,3,none⟩ (.slice A1 n1 c1)).setCell ⟨b1,4,none⟩ (.slice A2 n2 c2)).setCell ⟨b1,5,none⟩ (.slice A3 n3 c3)).setCell ⟨b2,0,none⟩ (.int .i64 r.code)).setCell ⟨b2,1,none⟩ (.string r.text)).setCell ⟨b2,2,none⟩ (.int .i64 r.n)).setCell ⟨b2,3,none⟩ (.slice A4 n4 c4))∧Blk ((((((((((w2.setCell ⟨b1,0,none⟩ (.int .i64 v.kind)).setCell ⟨b1,1,none⟩ (.string v.text)).setCell ⟨b1,2,none⟩ (.int .i64 v.count)).setCell ⟨b1,3,none⟩ (.slice A1 n1 c1)).setCell ⟨b1,4,none⟩ (.slice A2 n2 c2)).setCell ⟨b1,5,none⟩ (.slice A3 n3 c3)).setCell ⟨b2,0,none⟩ (.int .i64 r.code)).setCell ⟨b2,1,none⟩ (.string r.text)).setCell ⟨b2,2,none⟩ (.int .i64 r.n)).setCell ⟨b2,3,none⟩ (.slice A4 n4 c4)) b1 96 #[.int .i64 v.kind,.string v.text,.int .i64 v.count,.slice A1 n1 c1,.slice A2 n2 c2,.slice A3 n3 c3]∧Blk ((((((((((w2.setCell ⟨b1,0,none⟩ (.int .i64 v.kind)).setCell ⟨b1,1,none⟩ (.string v.text)).setCell ⟨b1,2,none⟩ (.int .i64 v.count)).setCell ⟨b1,3,none⟩ (.slice A1 n1 c1)).setCell ⟨b1,4,none⟩ (.slice A2 n2 c2)).setCell ⟨b1,5,none⟩ (.slice A3 n3 c3)).setCell ⟨b2,0,none⟩ (.int .i64 r.code)).setCell ⟨b2,1,none⟩ (.string r.text)).setCell ⟨b2,2,none⟩ (.int .i64 r.n)).setCell ⟨b2,3,none⟩ (.slice A4 n4 c4)) b2 102 #[.int .i64 r.code,.string r.text,.int .i64 r.n,.slice A4 n4 c4]:=by
 have hne:b1≠b2:=blk_ne RV RR (by decide)
 have p1:=T.1.ne RV;have p2:=T.2.1.ne RV;have p3:=T.2.2.1.ne RV;have p4:=T.2.2.2.ne RV
 have r1:=T.1.ne RR;have r2:=T.2.1.ne RR;have r3:=T.2.2.1.ne RR;have r4:=T.2.2.2.ne RR
 have V1:=RV.set' (i:=0) (u:=.int .i64 v.kind) rfl
 have Y1:=RR.far (p:=⟨b1,0,none⟩) (by simpa using hne.symm) (.int .i64 v.kind)
 have N1:=N.far_ p1 p2 p3 0 (.int .i64 v.kind)
 have L1:=L.far (grown_setRow_cell _ b1 0 (.int .i64 v.kind)) p4
 have q1:=below_set q h1 0 (.int .i64 v.kind)
 have V2:=V1.set' (i:=1) (u:=.string v.text) rfl
 have Y2:=Y1.far (p:=⟨b1,1,none⟩) (by simpa using hne.symm) (.string v.text)
 have N2:=N1.far_ p1 p2 p3 1 (.string v.text)
 have L2:=L1.far (grown_setRow_cell _ b1 1 (.string v.text)) p4
 have q2:=below_set q1 h1 1 (.string v.text)
 have V3:=V2.set' (i:=2) (u:=.int .i64 v.count) rfl
 have Y3:=Y2.far (p:=⟨b1,2,none⟩) (by simpa using hne.symm) (.int .i64 v.count)
 have N3:=N2.far_ p1 p2 p3 2 (.int .i64 v.count)
 have L3:=L2.far (grown_setRow_cell _ b1 2 (.int .i64 v.count)) p4
 have q3:=below_set q2 h1 2 (.int .i64 v.count)
 have V4:=V3.set' (i:=3) (u:=.slice A1 n1 c1) rfl
 have Y4:=Y3.far (p:=⟨b1,3,none⟩) (by simpa using hne.symm) (.slice A1 n1 c1)
 have N4:=N3.far_ p1 p2 p3 3 (.slice A1 n1 c1)
 have L4:=L3.far (grown_setRow_cell _ b1 3 (.slice A1 n1 c1)) p4
 have q4:=below_set q3 h1 3 (.slice A1 n1 c1)
 have V5:=V4.set' (i:=4) (u:=.slice A2 n2 c2) rfl
 have Y5:=Y4.far (p:=⟨b1,4,none⟩) (by simpa using hne.symm) (.slice A2 n2 c2)
 have N5:=N4.far_ p1 p2 p3 4 (.slice A2 n2 c2)
 have L5:=L4.far (grown_setRow_cell _ b1 4 (.slice A2 n2 c2)) p4
 have q5:=below_set q4 h1 4 (.slice A2 n2 c2)
 have V6:=V5.set' (i:=5) (u:=.slice A3 n3 c3) rfl
 have Y6:=Y5.far (p:=⟨b1,5,none⟩) (by simpa using hne.symm) (.slice A3 n3 c3)
 have N6:=N5.far_ p1 p2 p3 5 (.slice A3 n3 c3)
 have L6:=L5.far (grown_setRow_cell _ b1 5 (.slice A3 n3 c3)) p4
 have q6:=below_set q5 h1 5 (.slice A3 n3 c3)
 have V7:=V6.far (p:=⟨b2,0,none⟩) (by simpa using hne) (.int .i64 r.code)
 have Y7:=Y6.set' (i:=0) (u:=.int .i64 r.code) rfl
 have N7:=N6.far_ r1 r2 r3 0 (.int .i64 r.code)
 have L7:=L6.far (grown_setRow_cell _ b2 0 (.int .i64 r.code)) r4
 have q7:=below_set q6 h2 0 (.int .i64 r.code)
 have V8:=V7.far (p:=⟨b2,1,none⟩) (by simpa using hne) (.string r.text)
 have Y8:=Y7.set' (i:=1) (u:=.string r.text) rfl
 have N8:=N7.far_ r1 r2 r3 1 (.string r.text)
 have L8:=L7.far (grown_setRow_cell _ b2 1 (.string r.text)) r4
 have q8:=below_set q7 h2 1 (.string r.text)
 have V9:=V8.far (p:=⟨b2,2,none⟩) (by simpa using hne) (.int .i64 r.n)
 have Y9:=Y8.set' (i:=2) (u:=.int .i64 r.n) rfl
 have N9:=N8.far_ r1 r2 r3 2 (.int .i64 r.n)
 have L9:=L8.far (grown_setRow_cell _ b2 2 (.int .i64 r.n)) r4
 have q9:=below_set q8 h2 2 (.int .i64 r.n)
 have V10:=V9.far (p:=⟨b2,3,none⟩) (by simpa using hne) (.slice A4 n4 c4)
 have Y10:=Y9.set' (i:=3) (u:=.slice A4 n4 c4) rfl
 have N10:=N9.far_ r1 r2 r3 3 (.slice A4 n4 c4)
 have L10:=L9.far (grown_setRow_cell _ b2 3 (.slice A4 n4 c4)) r4
 have q10:=below_set q9 h2 3 (.slice A4 n4 c4)
 exact ⟨⟨A1,n1,c1,A2,n2,c2,A3,n3,c3,A4,n4,c4,rfl,N10,L10,⟨((((((((((T.1.set b1 0 _).set b1 1 _).set b1 2 _).set b1 3 _).set b1 4 _).set b1 5 _).set b2 0 _).set b2 1 _).set b2 2 _).set b2 3 _),((((((((((T.2.1.set b1 0 _).set b1 1 _).set b1 2 _).set b1 3 _).set b1 4 _).set b1 5 _).set b2 0 _).set b2 1 _).set b2 2 _).set b2 3 _),((((((((((T.2.2.1.set b1 0 _).set b1 1 _).set b1 2 _).set b1 3 _).set b1 4 _).set b1 5 _).set b2 0 _).set b2 1 _).set b2 2 _).set b2 3 _),((((((((((T.2.2.2.set b1 0 _).set b1 1 _).set b1 2 _).set b1 3 _).set b1 4 _).set b1 5 _).set b2 0 _).set b2 1 _).set b2 2 _).set b2 3 _)⟩,q10,F⟩,V10,Y10⟩
set_option maxRecDepth 100000 in
theorem Do_new (v:Va) (c:Cmd) (A1 A2 A3:Option Addr) (n1 c1 n2 c2 n3 c3:Nat) (w:World) (h:VSl w v A1 n1 c1 A2 n2 c2 A3 n3 c3) (l1:n1≤1048576) (l2:n2≤1048576) (l3:n3≤1048576) :
  Calls Tryz.prog 132 #[.agg #[.int .i64 v.kind,.string v.text,.int .i64 v.count,.slice A1 n1 c1,.slice A2 n2 c2,.slice A3 n3 c3],.agg #[.int .i64 c.kind,.string c.key,.string c.field,.string c.text,.int .i64 c.n]] w (DonePostN (doneVal v c) w):=by
 obtain ⟨D,hD⟩:∃ D,D=doneVal v c:=⟨_,rfl⟩
 rw [←hD]
 unfold doneVal at hD
 have hfit:=@fit_of v c
 have hcc:=@cc_kind c
 have e1:=h.n1_;have e2:=h.n2_;have e3:=h.n3_
 have hnv:noneVal v=(v.kind == 0 && v.text.toList.isEmpty && v.count == 0 && (n1+n2+n3 == 0)):=by unfold noneVal Va.size;rw [e1,e2,e3]
 have hck:=fun wz (hz:VSl wz v A1 n1 c1 A2 n2 c2 A3 n3 c3)=>Check_val v A1 A2 A3 n1 c1 n2 c2 n3 c3 wz hz l1 l2 l3
 have hco:=fun wz=>CheckCommand_any c.kind c.key c.field c.text c.n wz
 have hcd:checkCommand c.kind c.key c.field c.text c.n=ccOf c:=rfl
 simp only [hcd] at hco
 have hma:=fun wz=>makes_any c.kind wz
 have hkc:=fun wz=>kindOf_any c.kind wz
 have how:=fun wz (hz:VSl wz v A1 n1 c1 A2 n2 c2 A3 n3 c3)=>own_any v A1 A2 A3 n1 c1 n2 c2 n3 c3 wz hz l1 l2 l3
 generalize checkValue v=cv at *
 generalize ccOf c=cc at *
 generalize hnb:noneVal v=nb at *
 generalize makesC c.kind=mk at *
 obtain ⟨kind,key,field,text,n⟩:=c
 obtain ⟨vk,vt,vc,ps,is_,ss⟩:=v
 simp only at hnv hck hco how hD hfit hcc h hma hkc hnb ⊢
 have HD:=hide hD;have HF:=hide hfit;have HCC:=hide hcc;have HNV:=hide hnv;have HCK:=hide hck;have HCO:=hide hco;have HOW:=hide how;have HMA:=hide hma;have HKC:=hide hkc;have HNB:=hide hnb
 clear hD hfit hcc hnv hck hco how hcd e1 e2 e3 hnb hma hkc
 have hG1:=((Blk.new w 96 #[.int .i64 vk,.string vt,.int .i64 vc,.slice A1 n1 c1,.slice A2 n2 c2,.slice A3 n3 c3]).alloc (.cells #[.int .i64 kind,.string key,.string field,.string text,.int .i64 n] 31)).alloc (.cells #[.int .i64 0,.string { data:=#[] },.int .i64 0,.slice none 0 0,.slice none 0 0,.slice none 0 0] 96)
 have V:=hG1.alloc (.cells #[.int .i64 0,.string { data:=#[] },.int .i64 0,.slice none 0 0] 102)
 have C:Blk ((((w.alloc (.cells #[.int .i64 vk,.string vt,.int .i64 vc,.slice A1 n1 c1,.slice A2 n2 c2,.slice A3 n3 c3] 96)).alloc (.cells #[.int .i64 kind,.string key,.string field,.string text,.int .i64 n] 31)).alloc (.cells #[.int .i64 0,.string { data:=#[] },.int .i64 0,.slice none 0 0,.slice none 0 0,.slice none 0 0] 96)).alloc (.cells #[.int .i64 0,.string { data:=#[] },.int .i64 0,.slice none 0 0] 102)) (w.heap.size+1) 31 #[.int .i64 kind,.string key,.string field,.string text,.int .i64 n]:=((Blk.new' _ _ _ (by simp)).alloc _).alloc _
 have RV:Blk ((((w.alloc (.cells #[.int .i64 vk,.string vt,.int .i64 vc,.slice A1 n1 c1,.slice A2 n2 c2,.slice A3 n3 c3] 96)).alloc (.cells #[.int .i64 kind,.string key,.string field,.string text,.int .i64 n] 31)).alloc (.cells #[.int .i64 0,.string { data:=#[] },.int .i64 0,.slice none 0 0,.slice none 0 0,.slice none 0 0] 96)).alloc (.cells #[.int .i64 0,.string { data:=#[] },.int .i64 0,.slice none 0 0] 102)) (w.heap.size+2) 96 #[.int .i64 0,.string { data:=#[] },.int .i64 0,.slice none 0 0,.slice none 0 0,.slice none 0 0]:=(Blk.new' _ _ _ (by simp)).alloc _
 have RR:Blk ((((w.alloc (.cells #[.int .i64 vk,.string vt,.int .i64 vc,.slice A1 n1 c1,.slice A2 n2 c2,.slice A3 n3 c3] 96)).alloc (.cells #[.int .i64 kind,.string key,.string field,.string text,.int .i64 n] 31)).alloc (.cells #[.int .i64 0,.string { data:=#[] },.int .i64 0,.slice none 0 0,.slice none 0 0,.slice none 0 0] 96)).alloc (.cells #[.int .i64 0,.string { data:=#[] },.int .i64 0,.slice none 0 0] 102)) (w.heap.size+3) 102 #[.int .i64 0,.string { data:=#[] },.int .i64 0,.slice none 0 0]:=Blk.new' _ _ _ (by simp)
 have N:=(((h.al (.cells #[.int .i64 vk,.string vt,.int .i64 vc,.slice A1 n1 c1,.slice A2 n2 c2,.slice A3 n3 c3] 96)).al (.cells #[.int .i64 kind,.string key,.string field,.string text,.int .i64 n] 31)).al (.cells #[.int .i64 0,.string { data:=#[] },.int .i64 0,.slice none 0 0,.slice none 0 0,.slice none 0 0] 96)).al (.cells #[.int .i64 0,.string { data:=#[] },.int .i64 0,.slice none 0 0] 102)
 have q:Below w.heap.size w ((((w.alloc (.cells #[.int .i64 vk,.string vt,.int .i64 vc,.slice A1 n1 c1,.slice A2 n2 c2,.slice A3 n3 c3] 96)).alloc (.cells #[.int .i64 kind,.string key,.string field,.string text,.int .i64 n] 31)).alloc (.cells #[.int .i64 0,.string { data:=#[] },.int .i64 0,.slice none 0 0,.slice none 0 0,.slice none 0 0] 96)).alloc (.cells #[.int .i64 0,.string { data:=#[] },.int .i64 0,.slice none 0 0] 102)):=below_by
 obtain ⟨wc,hwc⟩:∃ wc,wc=((((w.alloc (.cells #[.int .i64 vk,.string vt,.int .i64 vc,.slice A1 n1 c1,.slice A2 n2 c2,.slice A3 n3 c3] 96)).alloc (.cells #[.int .i64 kind,.string key,.string field,.string text,.int .i64 n] 31)).alloc (.cells #[.int .i64 0,.string { data:=#[] },.int .i64 0,.slice none 0 0,.slice none 0 0,.slice none 0 0] 96)).alloc (.cells #[.int .i64 0,.string { data:=#[] },.int .i64 0,.slice none 0 0] 102)):=⟨_,rfl⟩
 rw [←hwc] at V C RV RR N q
 clear hG1
 have HWC:=hide hwc
 clear hwc
 have z0:w.heap.size<wc.heap.size:=V.lt
 have z1:w.heap.size+1<wc.heap.size:=C.lt
 (try clear cV fV);have cV:=V.cell;have fV:=V.frozen;(try clear cC fC);have cC:=C.cell;have fC:=C.frozen
 go_enter Tryz.func132,Tryz.ntmps132
 go_upto_region 1 with fail
 rw [←HWC.out]
 go_cut [7] (fun s wx=>s = .bool nb∧Blk wx w.heap.size 96 #[.int .i64 vk,.string vt,.int .i64 vc,.slice A1 n1 c1,.slice A2 n2 c2,.slice A3 n3 c3]∧Blk wx (w.heap.size+1) 31 #[.int .i64 kind,.string key,.string field,.string text,.int .i64 n]∧Blk wx (w.heap.size+2) 96 #[.int .i64 0,.string { data:=#[] },.int .i64 0,.slice none 0 0,.slice none 0 0,.slice none 0 0]∧Blk wx (w.heap.size+3) 102 #[.int .i64 0,.string { data:=#[] },.int .i64 0,.slice none 0 0]∧VSl wx ⟨vk,vt,vc,ps,is_,ss⟩ A1 n1 c1 A2 n2 c2 A3 n3 c3∧Below w.heap.size w wx)
 case first=>
  cases hk0:(vk == 0) <;> cases ht0:vt.toList.isEmpty <;> cases hc0:(vc == 0)
  all_goals go_wp2_with ((go_at_call 111;with_reducible refine (elements_any _ _ _ _ _ _ _ _ _ _ _ _ _ l1 l2 l3).mono ?_);rintro e w1 ⟨rfl,hb1⟩)
  all_goals go_meet
  all_goals first|refine ⟨?_,V.below' hb1,C.below' hb1,RV.below' hb1,RR.below' hb1,N.bl hb1,bstep q hb1⟩|refine ⟨?_,V,C,RV,RR,N,q⟩
  all_goals (with_reducible refine congrArg Value.bool ?_)
  all_goals (rw [HNV.out,hk0,ht0,hc0];first|rfl|(simp;done)|(rw [Bool.eq_iff_iff];simp;omega))
 case rest=>
  clear cV fV cC fC V C RV RR N q z0 z1
  obtain ⟨rfl,V,C,RV,RR,N,q⟩:=hcut
  have z3:w.heap.size+3<wc.heap.size:=RR.lt
  (try clear cV fV);have cV:=V.cell;have fV:=V.frozen;(try clear cC fC);have cC:=C.cell;have fC:=C.frozen
  go_wp2_with fail
  refine (HCK.out _ N).mono ?_
  rintro e w1 ⟨rfl,hb1⟩
  have V0:=V;have C0:=C;have RV0:=RV;have RR0:=RR;have N0:=N;have q0:=q
  have V1:=V0.below' hb1;have C1:=C0.below' hb1;have RV1:=RV0.below' hb1;have RR1:=RR0.below' hb1;have N1:=N0.bl hb1;have q1:=bstep q0 hb1
  have z1:w.heap.size+3<w1.heap.size:=RR1.lt
  have y1:w.heap.size+1<w1.heap.size:=by omega
  have x1:w.heap.size<w1.heap.size:=by omega
  clear cV fV cC fC V C RV RR N q V0 C0 RV0 RR0 N0 q0 z3 HCK HNV
  go_upto_region 3 with fail
  go_cut [38] (fun s wx=>s = .bool (cv != 0 && !nb)∧w1=wx)
  case first=>
   cases hcb:(cv != 0) <;> cases nb
   all_goals go_wp2_with fail
   all_goals go_meet
   all_goals exact ⟨by rw [hcb];rfl,rfl⟩
  case rest=>
   obtain ⟨rfl,rfl⟩:=hcut
   by_cases hbad:cv≠0∧nb=false
   ·have hbb:(cv != 0 && !nb)=true:=by simp [hbad.1,hbad.2]
    have hv:D=(zeroVa,zeroRe,cv):=by rw [HD.out];rw [if_pos hbad]
    have HV:=hide hv
    clear hv HD
    rw [hbb]
    clear hbb hbad
    obtain ⟨P,V9,R9⟩:=fin_done (w:=w) (v:=⟨0,{ data:=#[] },0,[],[],[]⟩) (r:=⟨0,{ data:=#[] },0,[]⟩) (k:=cv) RV1 RR1 nil_vsl nil_sl nil_tp q1 (by omega) (by omega) nil_new
    simp only at P V9 R9
    (try clear cRV1 fRV1);have cRV1:=RV1.cell;have fRV1:=RV1.frozen;(try clear cRR1 fRR1);have cRR1:=RR1.cell;have fRR1:=RR1.frozen
    go_wp2_with fail
    have cV9:=V9.cell;have cR9:=R9.cell
    refine bodyPost_ret (v:=.tuple #[.agg #[.int .i64 0,.string { data:=#[] },.int .i64 0,.slice none 0 0,.slice none 0 0,.slice none 0 0],.agg #[.int .i64 0,.string { data:=#[] },.int .i64 0,.slice none 0 0],.int .i64 cv]) ?_ rfl (by rw [HV.out];exact P)
    simp [results,Tryz.results132,go_sem,cV9,cR9]
   ·have hbb:(cv != 0 && !nb)=false:=by
     cases nb <;> simp at hbad ⊢
     exact hbad
    rw [hbb]
    clear hbb
    have HBAD:=hide hbad
    clear hbad
    (try clear cV1 fV1);have cV1:=V1.cell;have fV1:=V1.frozen;(try clear cC1 fC1);have cC1:=C1.cell;have fC1:=C1.frozen
    go_wp2_with fail
    refine (HCO.out _).mono ?_
    rintro e w2 ⟨rfl,hb2⟩
    have V2:=V1.below' hb2;have C2:=C1.below' hb2;have RV2:=RV1.below' hb2;have RR2:=RR1.below' hb2;have N2:=N1.bl hb2;have q2:=bstep q1 hb2
    have z2:w.heap.size+3<w2.heap.size:=RR2.lt
    have y2:w.heap.size+1<w2.heap.size:=by omega
    have x2:w.heap.size<w2.heap.size:=by omega
    clear cV1 fV1 cC1 fC1 V1 C1 RV1 RR1 N1 q1 HCO
    by_cases hc0:cc=0
    ·subst hc0
     by_cases h18:18<kind
     ·have h18':=h18
      have hv:D=(zeroVa,zeroRe,3):=by rw [HD.out];rw [if_neg HBAD.out,if_neg (by simp),if_pos h18]
      have HV:=hide hv
      clear hv HD
      clear h18'
      (try clear cC2 fC2);have cC2:=C2.cell;have fC2:=C2.frozen
      obtain ⟨P,V9,R9⟩:=fin_done (w:=w) (v:=⟨0,{ data:=#[] },0,[],[],[]⟩) (r:=⟨0,{ data:=#[] },0,[]⟩) (k:=3) RV2 RR2 nil_vsl nil_sl nil_tp q2 (by omega) (by omega) nil_new
      simp only at P V9 R9
      (try clear cRV2 fRV2);have cRV2:=RV2.cell;have fRV2:=RV2.frozen;(try clear cRR2 fRR2);have cRR2:=RR2.cell;have fRR2:=RR2.frozen
      go_wp2_with fail
      have cV9:=V9.cell;have cR9:=R9.cell
      refine bodyPost_ret (v:=.tuple #[.agg #[.int .i64 0,.string { data:=#[] },.int .i64 0,.slice none 0 0,.slice none 0 0,.slice none 0 0],.agg #[.int .i64 0,.string { data:=#[] },.int .i64 0,.slice none 0 0],.int .i64 3]) ?_ rfl (by rw [HV.out];exact P)
      simp [results,Tryz.results132,go_sem,cV9,cR9]
     ·have HK:=hide h18
      (try clear cV2 fV2);have cV2:=V2.cell;have fV2:=V2.frozen;(try clear cC2 fC2);have cC2:=C2.cell;have fC2:=C2.frozen
      go_wp2_with fail
      refine (HOW.out _ N2).mono ?_
      rintro e w3 ⟨D1,m1,d1,D2,m2,d2,D3,m3,d3,rfl,O3,hb3⟩
      have V3:=V2.below' hb3;have C3:=C2.below' hb3;have RV3:=RV2.below' hb3;have RR3:=RR2.below' hb3;have N3:=N2.bl hb3;have q3:=bstep q2 hb3
      have z3:w.heap.size+3<w3.heap.size:=RR3.lt
      have y3:w.heap.size+1<w3.heap.size:=by omega
      have x3:w.heap.size<w3.heap.size:=by omega
      have hB3:w2.heap.size≤w3.heap.size:=hb3.size
      clear cV2 fV2 cC2 fC2 V2 C2 RV2 RR2
      have G4:=Blk.new w3 96 #[.int .i64 vk,.string vt,.int .i64 vc,.slice D1 m1 d1,.slice D2 m2 d2,.slice D3 m3 d3]
      have RV4:=RV3.alloc (.cells #[.int .i64 vk,.string vt,.int .i64 vc,.slice D1 m1 d1,.slice D2 m2 d2,.slice D3 m3 d3] 96);have RR4:=RR3.alloc (.cells #[.int .i64 vk,.string vt,.int .i64 vc,.slice D1 m1 d1,.slice D2 m2 d2,.slice D3 m3 d3] 96);have O4:=O3.al (.cells #[.int .i64 vk,.string vt,.int .i64 vc,.slice D1 m1 d1,.slice D2 m2 d2,.slice D3 m3 d3] 96)
      have q4:Below w.heap.size w (w3.alloc (.cells #[.int .i64 vk,.string vt,.int .i64 vc,.slice D1 m1 d1,.slice D2 m2 d2,.slice D3 m3 d3] 96)):=below_by
      (try clear cV3 fV3);have cV3:=V3.cell;have fV3:=V3.frozen;(try clear cC3 fC3);have cC3:=C3.cell;have fC3:=C3.frozen
      cases nb with
      | true=>
       cases mk with
       | false=>
        have hv:D=(⟨vk,vt,vc,ps,is_,ss⟩,failR 5,0):=by rw [HD.out];rw [if_neg HBAD.out,if_neg (by simp),if_neg (by have:=HK.out;omega),if_pos (by simp)]
        have HV:=hide hv
        clear hv HD
        go_upto_region 13 with (first|((go_at_call 145;with_reducible refine (HKC.out _).mono ?_);rintro e w' ⟨rfl,rfl⟩)|((go_at_call 146;with_reducible refine (HMA.out _).mono ?_);rintro e w' ⟨rfl,rfl⟩))
        clear cV3 fV3 cC3 fC3
        refine wp_region_x (l:=[2,3,4]) (S:=fun w'=>w'.cell? ⟨w3.heap.size,0,none⟩=some (.int .i64 vk)∧w'.cell? ⟨w3.heap.size,1,none⟩=some (.string vt)∧w'.cell? ⟨w3.heap.size,2,none⟩=some (.int .i64 vc)∧w'.cell? ⟨w3.heap.size,3,none⟩=some (.slice D1 m1 d1)∧w'.cell? ⟨w3.heap.size,4,none⟩=some (.slice D2 m2 d2)∧w'.cell? ⟨w3.heap.size,5,none⟩=some (.slice D3 m3 d3)) (by kernel_rfl) ⟨G4.drew.cell 0,G4.drew.cell 1,G4.drew.cell 2,G4.drew.cell 3,G4.drew.cell 4,G4.drew.cell 5⟩ (fun hS=>?_)
        refine wpAnyX_tq 0 ?_
        refine wpAnyX_oq 1 fun K hK=>?_
        go_wp2_with fail
        ((with_reducible refine (failed_any 5 _).mono ?_);rintro e w5 ⟨rfl,hb5⟩)
        go_wp2_with fail
        have G5:=G4.drew.below' hb5;have RV5:=RV4.drew.below' hb5;have RR5:=RR4.drew.below' hb5;have O5:=O4.dr.bl hb5;have q5:Below w.heap.size w w5:=bstep q4.drew hb5
        refine hK.out _ _ (Or.inr ⟨G5.cell 0,G5.cell 1,G5.cell 2,G5.cell 3,G5.cell 4,G5.cell 5⟩) (fun hS=>?_)
        clear hK K hS
        (try clear cRV5 fRV5);have cRV5:=RV5.cell;have fRV5:=RV5.frozen
        refine wpAnyX_oq 2 fun K hK=>?_
        go_wp2_with fail
        refine hK.out _ _ (Or.inl (by decide)) (fun hS=>?_)
        clear hK K hS
        have RRfx0:=RR5.far (p:=⟨w.heap.size+2,0,none⟩) (by simp) (.int .i64 vk)
        have RRfx1:=RRfx0.far (p:=⟨w.heap.size+2,1,none⟩) (by simp) (.string vt)
        have RRfx2:=RRfx1.far (p:=⟨w.heap.size+2,2,none⟩) (by simp) (.int .i64 vc)
        have RRfx3:=RRfx2.far (p:=⟨w.heap.size+2,3,none⟩) (by simp) (.slice D1 m1 d1)
        have RRfx4:=RRfx3.far (p:=⟨w.heap.size+2,4,none⟩) (by simp) (.slice D2 m2 d2)
        have RRfx5:=RRfx4.far (p:=⟨w.heap.size+2,5,none⟩) (by simp) (.slice D3 m3 d3)
        (try clear cRRfx5 fRRfx5);have cRRfx5:=RRfx5.cell;have fRRfx5:=RRfx5.frozen
        refine wpAnyX_oq 3 fun K hK=>?_
        go_wp2_with fail
        refine hK.out _ _ (Or.inl (by decide)) (fun hS=>?_)
        clear hK K hS
        refine wpAnyX_pq 4 ?_
        refine wpAnyX_done (by kernel_rfl) ?_ _
        obtain ⟨P,V9,R9⟩:=fin_done (w:=w) (v:=⟨vk,vt,vc,ps,is_,ss⟩) (r:=⟨5,emp,0,[]⟩) (k:=0) RV5 RR5 O5.sl nil_sl ⟨own_tp O5.1,own_tp O5.2.1,own_tp O5.2.2,Tp.none_⟩ q5 (by omega) (by omega) (own_new O5.2.1 (by omega))
        simp only at P V9 R9
        go_wp2_with fail
        have cV9:=V9.cell;have cR9:=R9.cell
        refine bodyPost_ret (v:=.tuple #[.agg #[.int .i64 vk,.string vt,.int .i64 vc,.slice D1 m1 d1,.slice D2 m2 d2,.slice D3 m3 d3],.agg #[.int .i64 5,.string emp,.int .i64 0,.slice none 0 0],.int .i64 0]) ?_ rfl (by rw [HV.out];exact P)
        simp [results,Tryz.results132,go_sem,cV9,cR9]
       | true=>
        have hft:=HF.out HBAD.out (by simp) (by have:=HK.out;omega) (by simp) (by simp)
        have hdk:doneKind ⟨vk,vt,vc,ps,is_,ss⟩ ⟨kind,key,field,text,n⟩=⟨kindC kind,vt,vc,ps,is_,ss⟩:=by unfold doneKind;rw [HNB.out];rfl
        rw [hdk] at hft
        have hcn:=HCC.out (by simp)
        (try simp only at hcn)
        have hd2:D=((behind ⟨vk,vt,vc,ps,is_,ss⟩ (doVal ⟨kindC kind,vt,vc,ps,is_,ss⟩ ⟨kind,key,field,text,n⟩)).1,(behind ⟨vk,vt,vc,ps,is_,ss⟩ (doVal ⟨kindC kind,vt,vc,ps,is_,ss⟩ ⟨kind,key,field,text,n⟩)).2,0):=by
         rw [HD.out,if_neg HBAD.out,if_neg (by simp),if_neg (by have:=HK.out;omega),if_neg (by simp),if_neg (by simp),hdk]
        clear HD
        have HD:=hide hd2
        clear hd2 hdk HF HCC
        have G1:Blk (w3.alloc (.cells #[.int .i64 (kindC kind),.string vt,.int .i64 vc,.slice D1 m1 d1,.slice D2 m2 d2,.slice D3 m3 d3] 96)) w3.heap.size 96 #[.int .i64 (kindC kind),.string vt,.int .i64 vc,.slice D1 m1 d1,.slice D2 m2 d2,.slice D3 m3 d3]:=Blk.new _ _ _
        have hd:=do_any ⟨(kindC kind),vt,vc,ps,is_,ss⟩ ⟨kind,key,field,text,n⟩ w2.heap.size w3.heap.size D1 D2 D3 m1 d1 m2 d2 m3 d3 (w3.alloc (.cells #[.int .i64 (kindC kind),.string vt,.int .i64 vc,.slice D1 m1 d1,.slice D2 m2 d2,.slice D3 m3 d3] 96)) G1 (O3.al _) hB3 (by simp;omega) (by have:=O3.sl.n1_;have:=hft.l1;simp only at *;omega) (by have:=O3.sl.n2_;have:=hft.l2;simp only at *;omega) (by have:=O3.sl.n3_;have:=hft.l3;simp only at *;omega) hft.fit hft.r1 hft.r2 hft.r3 (by intro a b;have:=O3.sl.n2_;have:=hft.pos a b;simp only at *;omega) hft.k1 hft.k2 hcn.2.2.1 hcn.2.2.2
        have hln:=do_len (c:=⟨kind,key,field,text,n⟩) (show small ⟨(kindC kind),vt,vc,ps,is_,ss⟩ 20 from ⟨hft.l1,hft.l2,hft.l3⟩)
        clear hft hcn
        generalize doVal ⟨(kindC kind),vt,vc,ps,is_,ss⟩ ⟨kind,key,field,text,n⟩=E at *
        obtain ⟨⟨ek,et,ec,eps,eis,ess⟩,⟨rc,rt,rn,rl⟩⟩:=E
        have HDO:=hide hd
        obtain ⟨hl1,hl2,hl3⟩:=hln
        simp only at hl1 hl2 hl3
        have HL1:=hide hl1;have HL2:=hide hl2;have HL3:=hide hl3
        clear hd hl1 hl2 hl3
        clear G4 RV4 RR4 O4 q4
        have G4:=G1
        go_upto_region 19 with (first|((go_at_call 145;with_reducible refine (HKC.out _).mono ?_);rintro e w' ⟨rfl,rfl⟩)|((go_at_call 146;with_reducible refine (HMA.out _).mono ?_);rintro e w' ⟨rfl,rfl⟩))
        go_wp2_with fail
        refine HDO.out.mono ?_
        rintro e w5 ⟨E1,k1,f1,E2,k2,f2,E3,k3,f3,E4,k4,f4,rfl,G5,N5,L5,T5,M5⟩
        have q4:Below w.heap.size w (w3.alloc (.cells #[.int .i64 (kindC kind),.string vt,.int .i64 vc,.slice D1 m1 d1,.slice D2 m2 d2,.slice D3 m3 d3] 96)):=below_by
        have q5:Below w.heap.size w w5:=q4.trans (M5.bel.mono (by omega))
        have RV5:=(RV3.alloc _).below M5.bel (by omega);have RR5:=(RR3.alloc _).below M5.bel (by omega);have V5:=(V3.alloc _).below M5.bel (by omega);have C5:=(C3.alloc _).below M5.bel (by omega)
        have N5':=h.bl q5
        have hg5:w3.heap.size<w5.heap.size:=G5.lt
        have RX6:=Blk.new w5 102 #[.int .i64 rc,.string rt,.int .i64 rn,.slice E4 k4 f4]
        have RV6:=RV5.alloc (.cells #[.int .i64 rc,.string rt,.int .i64 rn,.slice E4 k4 f4] 102);have RR6:=RR5.alloc (.cells #[.int .i64 rc,.string rt,.int .i64 rn,.slice E4 k4 f4] 102);have V6:=V5.alloc (.cells #[.int .i64 rc,.string rt,.int .i64 rn,.slice E4 k4 f4] 102);have G6:=G5.alloc (.cells #[.int .i64 rc,.string rt,.int .i64 rn,.slice E4 k4 f4] 102);have N6:=N5.al (.cells #[.int .i64 rc,.string rt,.int .i64 rn,.slice E4 k4 f4] 102);have NV6:=N5'.al (.cells #[.int .i64 rc,.string rt,.int .i64 rn,.slice E4 k4 f4] 102);have L6:=L5.alloc (.cells #[.int .i64 rc,.string rt,.int .i64 rn,.slice E4 k4 f4] 102);have q6:Below w.heap.size w (w5.alloc (.cells #[.int .i64 rc,.string rt,.int .i64 rn,.slice E4 k4 f4] 102)):=q5.alloc q5.size _
        have T6:Tp (w5.alloc (.cells #[.int .i64 rc,.string rt,.int .i64 rn,.slice E4 k4 f4] 102)) E4 9:=T5.2.2.2.bl ((Below.refl _ w5).alloc (Nat.le_refl _) _)
        have T6a:Tp (w5.alloc (.cells #[.int .i64 rc,.string rt,.int .i64 rn,.slice E4 k4 f4] 102)) E1 137:=T5.1.bl ((Below.refl _ w5).alloc (Nat.le_refl _) _)
        have how2:=fun wz (hz:VSl wz ⟨ek,et,ec,eps,eis,ess⟩ E1 k1 f1 E2 k2 f2 E3 k3 f3)=>own_any ⟨ek,et,ec,eps,eis,ess⟩ E1 E2 E3 k1 f1 k2 f2 k3 f3 wz hz (by have:=hz.n1_;have:=HL1.out;simp only at *;omega) (by have:=hz.n2_;have:=HL2.out;simp only at *;omega) (by have:=hz.n3_;have:=HL3.out;simp only at *;omega)
        have HOW2:=hide how2
        clear how2 RV5 RR5 V5 C5 cV3 fV3 cC3 fC3
        by_cases hrc:rc=0
        ·subst hrc
         have n1:=N6.n1_;have n2:=N6.n2_;have n3:=N6.n3_
         have m1':=HL1.out;have m2':=HL2.out;have m3':=HL3.out
         simp only at n1 n2 n3
         have o1:k1≤1048576:=by omega
         have o2:k2≤1048576:=by omega
         have o3:k3≤1048576:=by omega
         have hsz:(⟨ek,et,ec,eps,eis,ess⟩:Va).size=k1+k2+k3:=by unfold Va.size;simp only [n1,n2,n3]
         clear m1' m2' m3'
         have n1':=hide n1;have n2':=hide n2;have n3':=hide n3
         clear n1 n2 n3
         have HSZ:=hide hsz
         clear hsz
         (try clear cG6 fG6);have cG6:=G6.cell;have fG6:=G6.frozen;(try clear cRX6 fRX6);have cRX6:=RX6.cell;have fRX6:=RX6.frozen
         by_cases h3:3≤ek
         ·by_cases hs:k1+k2+k3=0
          ·have hv:D=(zeroVa,⟨0,rt,rn,rl⟩,0):=by rw [HD.out,behind,if_neg (by simp),if_pos ⟨h3,by rw [HSZ.out];exact hs⟩]
           have HV:=hide hv
           clear hv HD HSZ
           obtain rfl:k1=0:=by omega
           obtain rfl:k2=0:=by omega
           obtain rfl:k3=0:=by omega
           clear hs
           go_wp2_with ((go_at_call 111;with_reducible refine (elements_any _ _ _ _ _ _ _ _ _ _ _ _ _ o1 o2 o3).mono ?_);rintro e w8 ⟨rfl,hb8⟩;have c8:=(G6.below' hb8).cell;have g8:=(G6.below' hb8).frozen)
           clear cG6 fG6 cRX6 fRX6 c8 g8
           replace G6:=G6.below' hb8;replace RX6:=RX6.below' hb8;replace RV6:=RV6.below' hb8;replace RR6:=RR6.below' hb8;replace N6:=N6.bl hb8;replace L6:=L6.below hb8;replace T6:=T6.bl hb8;replace q6:=bstep q6 hb8
           have n4:=T6.ne G6
           have Gz0:=G6.set' (i:=0) (u:=.int .i64 0) rfl;have Xz0:=RX6.far (p:=⟨w3.heap.size,0,none⟩) (by simp;omega) (.int .i64 0);have Vz0:=RV6.far (p:=⟨w3.heap.size,0,none⟩) (by simp;omega) (.int .i64 0);have Rz0:=RR6.far (p:=⟨w3.heap.size,0,none⟩) (by simp;omega) (.int .i64 0)
           have qz0:=below_set q6 (show w.heap.size≤w3.heap.size by omega) 0 (.int .i64 0);have lz0:=L6.far (grown_setRow_cell _ w3.heap.size 0 (.int .i64 0)) n4;have tz0:=T6.set w3.heap.size 0 (.int .i64 0)
           have Gz1:=Gz0.set' (i:=1) (u:=.string { data:=#[] }) rfl;have Xz1:=Xz0.far (p:=⟨w3.heap.size,1,none⟩) (by simp;omega) (.string { data:=#[] });have Vz1:=Vz0.far (p:=⟨w3.heap.size,1,none⟩) (by simp;omega) (.string { data:=#[] });have Rz1:=Rz0.far (p:=⟨w3.heap.size,1,none⟩) (by simp;omega) (.string { data:=#[] })
           have qz1:=below_set qz0 (show w.heap.size≤w3.heap.size by omega) 1 (.string { data:=#[] });have lz1:=lz0.far (grown_setRow_cell _ w3.heap.size 1 (.string { data:=#[] })) n4;have tz1:=tz0.set w3.heap.size 1 (.string { data:=#[] })
           have Gz2:=Gz1.set' (i:=2) (u:=.int .i64 0) rfl;have Xz2:=Xz1.far (p:=⟨w3.heap.size,2,none⟩) (by simp;omega) (.int .i64 0);have Vz2:=Vz1.far (p:=⟨w3.heap.size,2,none⟩) (by simp;omega) (.int .i64 0);have Rz2:=Rz1.far (p:=⟨w3.heap.size,2,none⟩) (by simp;omega) (.int .i64 0)
           have qz2:=below_set qz1 (show w.heap.size≤w3.heap.size by omega) 2 (.int .i64 0);have lz2:=lz1.far (grown_setRow_cell _ w3.heap.size 2 (.int .i64 0)) n4;have tz2:=tz1.set w3.heap.size 2 (.int .i64 0)
           have Gz3:=Gz2.set' (i:=3) (u:=.slice none 0 0) rfl;have Xz3:=Xz2.far (p:=⟨w3.heap.size,3,none⟩) (by simp;omega) (.slice none 0 0);have Vz3:=Vz2.far (p:=⟨w3.heap.size,3,none⟩) (by simp;omega) (.slice none 0 0);have Rz3:=Rz2.far (p:=⟨w3.heap.size,3,none⟩) (by simp;omega) (.slice none 0 0)
           have qz3:=below_set qz2 (show w.heap.size≤w3.heap.size by omega) 3 (.slice none 0 0);have lz3:=lz2.far (grown_setRow_cell _ w3.heap.size 3 (.slice none 0 0)) n4;have tz3:=tz2.set w3.heap.size 3 (.slice none 0 0)
           have Gz4:=Gz3.set' (i:=4) (u:=.slice none 0 0) rfl;have Xz4:=Xz3.far (p:=⟨w3.heap.size,4,none⟩) (by simp;omega) (.slice none 0 0);have Vz4:=Vz3.far (p:=⟨w3.heap.size,4,none⟩) (by simp;omega) (.slice none 0 0);have Rz4:=Rz3.far (p:=⟨w3.heap.size,4,none⟩) (by simp;omega) (.slice none 0 0)
           have qz4:=below_set qz3 (show w.heap.size≤w3.heap.size by omega) 4 (.slice none 0 0);have lz4:=lz3.far (grown_setRow_cell _ w3.heap.size 4 (.slice none 0 0)) n4;have tz4:=tz3.set w3.heap.size 4 (.slice none 0 0)
           have Gz5:=Gz4.set' (i:=5) (u:=.slice none 0 0) rfl;have Xz5:=Xz4.far (p:=⟨w3.heap.size,5,none⟩) (by simp;omega) (.slice none 0 0);have Vz5:=Vz4.far (p:=⟨w3.heap.size,5,none⟩) (by simp;omega) (.slice none 0 0);have Rz5:=Rz4.far (p:=⟨w3.heap.size,5,none⟩) (by simp;omega) (.slice none 0 0)
           have qz5:=below_set qz4 (show w.heap.size≤w3.heap.size by omega) 5 (.slice none 0 0);have lz5:=lz4.far (grown_setRow_cell _ w3.heap.size 5 (.slice none 0 0)) n4;have tz5:=tz4.set w3.heap.size 5 (.slice none 0 0)
           generalize ((((((w8.setCell ⟨w3.heap.size,0,none⟩ (Value.int .i64 0)).setCell ⟨w3.heap.size,1,none⟩ (Value.string { data:=#[] })).setCell ⟨w3.heap.size,2,none⟩ (Value.int .i64 0)).setCell ⟨w3.heap.size,3,none⟩ (Value.slice none 0 0)).setCell ⟨w3.heap.size,4,none⟩ (Value.slice none 0 0)).setCell ⟨w3.heap.size,5,none⟩ (Value.slice none 0 0))=wz at Gz5 Xz5 Vz5 Rz5 qz5 lz5 tz5 ⊢
           clear G6 RX6 RV6 RR6 q6 L6 T6 N6 Gz0 Xz0 Vz0 Rz0 qz0 lz0 tz0 Gz1 Xz1 Vz1 Rz1 qz1 lz1 tz1 Gz2 Xz2 Vz2 Rz2 qz2 lz2 tz2 Gz3 Xz3 Vz3 Rz3 qz3 lz3 tz3 Gz4 Xz4 Vz4 Rz4 qz4 lz4 tz4
           have G6:=Gz5;have RX6:=Xz5;have RV6:=Vz5;have RR6:=Rz5;have q6:=qz5;have L6:=lz5;have T6:=tz5
           obtain ⟨zk,hzk⟩:∃ zk:Int,zk=0:=⟨_,rfl⟩
           obtain ⟨zt,hzt⟩:∃ zt:ByteArray,zt={ data:=#[] }:=⟨_,rfl⟩
           obtain ⟨zc,hzc⟩:∃ zc:Int,zc=0:=⟨_,rfl⟩
           obtain ⟨Z1,y1,u1,hZ1⟩:∃ (Z:Option Addr) (y u:Nat),Z=none∧y=0∧u=0:=⟨_,_,_,rfl,rfl,rfl⟩
           obtain ⟨Z2,y2,u2,hZ2⟩:∃ (Z:Option Addr) (y u:Nat),Z=none∧y=0∧u=0:=⟨_,_,_,rfl,rfl,rfl⟩
           obtain ⟨Z3,y3,u3,hZ3⟩:∃ (Z:Option Addr) (y u:Nat),Z=none∧y=0∧u=0:=⟨_,_,_,rfl,rfl,rfl⟩
           have G7:Blk wz w3.heap.size 96 #[.int .i64 zk,.string zt,.int .i64 zc,.slice Z1 y1 u1,.slice Z2 y2 u2,.slice Z3 y3 u3]:=by rw [hzk,hzt,hzc,hZ1.1,hZ1.2.1,hZ1.2.2,hZ2.1,hZ2.2.1,hZ2.2.2,hZ3.1,hZ3.2.1,hZ3.2.2];exact G6
           have N6:VSl wz ⟨zk,zt,zc,[],[],[]⟩ Z1 y1 u1 Z2 y2 u2 Z3 y3 u3:=by rw [hZ1.1,hZ1.2.1,hZ1.2.2,hZ2.1,hZ2.2.1,hZ2.2.2,hZ3.1,hZ3.2.1,hZ3.2.2];exact nil_vsl
           have hv7:D=(⟨zk,zt,zc,[],[],[]⟩,⟨0,rt,rn,rl⟩,0):=by rw [HV.out,hzk,hzt,hzc];rfl
           have hy:y1≤1048576∧y2≤1048576∧y3≤1048576:=by obtain ⟨_,a,_⟩:=hZ1;obtain ⟨_,b,_⟩:=hZ2;obtain ⟨_,c,_⟩:=hZ3;omega
           clear HV hzk hzt hzc hZ1 hZ2 hZ3 G6
           have HV:=hide hv7
           have G6:=G7
           clear hv7 G7
           have hoz:=fun wz (hz:VSl wz ⟨zk,zt,zc,[],[],[]⟩ Z1 y1 u1 Z2 y2 u2 Z3 y3 u3)=>own_any ⟨zk,zt,zc,[],[],[]⟩ Z1 Z2 Z3 y1 u1 y2 u2 y3 u3 wz hz hy.1 hy.2.1 hy.2.2
           have HOZ:=hide hoz
           clear hoz hy
           go_upto_region 24 with fail
           refine wp_region_x (l:=[4,5]) (S:=fun w'=>w'.cell? ⟨w3.heap.size,0,none⟩=some (.int .i64 zk)∧w'.cell? ⟨w3.heap.size,1,none⟩=some (.string zt)∧w'.cell? ⟨w3.heap.size,2,none⟩=some (.int .i64 zc)∧w'.cell? ⟨w3.heap.size,3,none⟩=some (.slice Z1 y1 u1)∧w'.cell? ⟨w3.heap.size,4,none⟩=some (.slice Z2 y2 u2)∧w'.cell? ⟨w3.heap.size,5,none⟩=some (.slice Z3 y3 u3)∧w'.cell? ⟨w5.heap.size,0,none⟩=some (.int .i64 0)∧w'.cell? ⟨w5.heap.size,1,none⟩=some (.string rt)∧w'.cell? ⟨w5.heap.size,2,none⟩=some (.int .i64 rn)∧w'.cell? ⟨w5.heap.size,3,none⟩=some (.slice E4 k4 f4)) (by kernel_rfl) ⟨G6.drew.cell 0,G6.drew.cell 1,G6.drew.cell 2,G6.drew.cell 3,G6.drew.cell 4,G6.drew.cell 5,RX6.drew.cell 0,RX6.drew.cell 1,RX6.drew.cell 2,RX6.drew.cell 3⟩ (fun hS=>?_)
           refine wpAnyX_tq 0 ?_
           refine wpAnyX_tq 2 ?_
           refine wpAnyX_oq 1 fun K hK=>?_
           go_wp2_with fail
           ((with_reducible refine (HOZ.out _ N6.dr).mono ?_);rintro e w7 ⟨F1,p1,g1,F2,p2,g2,F3,p3,g3,rfl,O7,hb7⟩)
           go_wp2_with fail
           have SR7:=G6.drew.below' hb7;have RX7:=RX6.drew.below' hb7;have RV7:=RV6.drew.below' hb7;have RR7:=RR6.drew.below' hb7;have q7:Below w.heap.size w w7:=bstep q6.drew hb7
           have L7:=L6.drew.below hb7;have T7:=(tp_drew T6).bl hb7
           refine hK.out _ _ (Or.inr ⟨SR7.cell 0,SR7.cell 1,SR7.cell 2,SR7.cell 3,SR7.cell 4,SR7.cell 5,RX7.cell 0,RX7.cell 1,RX7.cell 2,RX7.cell 3⟩) (fun hS=>?_)
           replace hS:=hS.resolve_left (by decide)
           clear hK K
           (try clear cRV7 fRV7);have cRV7:=RV7.cell;have fRV7:=RV7.frozen
           refine wpAnyX_oq 3 fun K hK=>?_
           go_wp2_with fail
           have SRck1w0:=SR7.far (p:=⟨w.heap.size+2,0,none⟩) (by first|(simp;done)|(simp;omega)) (.int .i64 zk)
           have SRck1w1:=SRck1w0.far (p:=⟨w.heap.size+2,1,none⟩) (by first|(simp;done)|(simp;omega)) (.string zt)
           have SRck1w2:=SRck1w1.far (p:=⟨w.heap.size+2,2,none⟩) (by first|(simp;done)|(simp;omega)) (.int .i64 zc)
           have SRck1w3:=SRck1w2.far (p:=⟨w.heap.size+2,3,none⟩) (by first|(simp;done)|(simp;omega)) (.slice F1 p1 g1)
           have SRck1w4:=SRck1w3.far (p:=⟨w.heap.size+2,4,none⟩) (by first|(simp;done)|(simp;omega)) (.slice F2 p2 g2)
           have SRck1w5:=SRck1w4.far (p:=⟨w.heap.size+2,5,none⟩) (by first|(simp;done)|(simp;omega)) (.slice F3 p3 g3)
           have RRck1w0:=RX7.far (p:=⟨w.heap.size+2,0,none⟩) (by first|(simp;done)|(simp;omega)) (.int .i64 zk)
           have RRck1w1:=RRck1w0.far (p:=⟨w.heap.size+2,1,none⟩) (by first|(simp;done)|(simp;omega)) (.string zt)
           have RRck1w2:=RRck1w1.far (p:=⟨w.heap.size+2,2,none⟩) (by first|(simp;done)|(simp;omega)) (.int .i64 zc)
           have RRck1w3:=RRck1w2.far (p:=⟨w.heap.size+2,3,none⟩) (by first|(simp;done)|(simp;omega)) (.slice F1 p1 g1)
           have RRck1w4:=RRck1w3.far (p:=⟨w.heap.size+2,4,none⟩) (by first|(simp;done)|(simp;omega)) (.slice F2 p2 g2)
           have RRck1w5:=RRck1w4.far (p:=⟨w.heap.size+2,5,none⟩) (by first|(simp;done)|(simp;omega)) (.slice F3 p3 g3)
           have RFck1w0:=RR7.far (p:=⟨w.heap.size+2,0,none⟩) (by simp) (.int .i64 zk)
           have RFck1w1:=RFck1w0.far (p:=⟨w.heap.size+2,1,none⟩) (by simp) (.string zt)
           have RFck1w2:=RFck1w1.far (p:=⟨w.heap.size+2,2,none⟩) (by simp) (.int .i64 zc)
           have RFck1w3:=RFck1w2.far (p:=⟨w.heap.size+2,3,none⟩) (by simp) (.slice F1 p1 g1)
           have RFck1w4:=RFck1w3.far (p:=⟨w.heap.size+2,4,none⟩) (by simp) (.slice F2 p2 g2)
           have RFck1w5:=RFck1w4.far (p:=⟨w.heap.size+2,5,none⟩) (by simp) (.slice F3 p3 g3)
           refine hK.out _ _ (Or.inr ⟨SRck1w5.cell 0,SRck1w5.cell 1,SRck1w5.cell 2,SRck1w5.cell 3,SRck1w5.cell 4,SRck1w5.cell 5,RRck1w5.cell 0,RRck1w5.cell 1,RRck1w5.cell 2,RRck1w5.cell 3⟩) (fun hS=>?_)
           clear hK K hS
           (try clear cRFck1w5 fRFck1w5);have cRFck1w5:=RFck1w5.cell;have fRFck1w5:=RFck1w5.frozen
           refine wpAnyX_oq 4 fun K hK=>?_
           go_wp2_with fail
           refine hK.out _ _ (Or.inl (by decide)) (fun hS=>?_)
           clear hK K hS
           refine wpAnyX_pq 5 ?_
           refine wpAnyX_done (by kernel_rfl) ?_ _
           obtain ⟨P,V9,R9⟩:=fin_done (w:=w) (v:=⟨zk,zt,zc,[],[],[]⟩) (r:=⟨0,rt,rn,rl⟩) (k:=0) RV7 RR7 O7.sl L7 ⟨own_tp O7.1,own_tp O7.2.1,own_tp O7.2.2,T7⟩ q7 (by omega) (by omega) (own_new O7.2.1 q6.drew.size)
           simp only at P V9 R9
           go_wp2_with fail
           have cV9:=V9.cell;have cR9:=R9.cell
           refine bodyPost_ret (v:=.tuple #[.agg #[.int .i64 zk,.string zt,.int .i64 zc,.slice F1 p1 g1,.slice F2 p2 g2,.slice F3 p3 g3],.agg #[.int .i64 0,.string rt,.int .i64 rn,.slice E4 k4 f4],.int .i64 0]) ?_ rfl (by rw [HV.out];exact P)
           simp [results,Tryz.results132,go_sem,cV9,cR9]
          ·have hs2:((k1:Int)+(k2:Int)+(k3:Int) == 0)=false:=by rw [beq_eq_false_iff_ne];omega
           have hv:D=(⟨ek,et,ec,eps,eis,ess⟩,⟨0,rt,rn,rl⟩,0):=by rw [HD.out];rw [behind,if_neg (by simp),if_neg (by rw [HSZ.out];exact fun hh=>hs hh.2)]
           have HV:=hide hv
           clear hv HD
           go_upto_region 24 with ((go_at_call 111;with_reducible refine (elements_any _ _ _ _ _ _ _ _ _ _ _ _ _ o1 o2 o3).mono ?_);rintro e w8 ⟨rfl,hb8⟩)
           clear cG6 fG6 cRX6 fRX6 hs2
           replace G6:=G6.below' hb8;replace RX6:=RX6.below' hb8;replace RV6:=RV6.below' hb8;replace RR6:=RR6.below' hb8;replace N6:=N6.bl hb8;replace L6:=L6.below hb8;replace T6:=T6.bl hb8;replace q6:=bstep q6 hb8
           refine wp_region_x (l:=[4,5]) (S:=fun w'=>w'.cell? ⟨w3.heap.size,0,none⟩=some (.int .i64 ek)∧w'.cell? ⟨w3.heap.size,1,none⟩=some (.string et)∧w'.cell? ⟨w3.heap.size,2,none⟩=some (.int .i64 ec)∧w'.cell? ⟨w3.heap.size,3,none⟩=some (.slice E1 k1 f1)∧w'.cell? ⟨w3.heap.size,4,none⟩=some (.slice E2 k2 f2)∧w'.cell? ⟨w3.heap.size,5,none⟩=some (.slice E3 k3 f3)∧w'.cell? ⟨w5.heap.size,0,none⟩=some (.int .i64 0)∧w'.cell? ⟨w5.heap.size,1,none⟩=some (.string rt)∧w'.cell? ⟨w5.heap.size,2,none⟩=some (.int .i64 rn)∧w'.cell? ⟨w5.heap.size,3,none⟩=some (.slice E4 k4 f4)) (by kernel_rfl) ⟨G6.drew.cell 0,G6.drew.cell 1,G6.drew.cell 2,G6.drew.cell 3,G6.drew.cell 4,G6.drew.cell 5,RX6.drew.cell 0,RX6.drew.cell 1,RX6.drew.cell 2,RX6.drew.cell 3⟩ (fun hS=>?_)
           refine wpAnyX_tq 0 ?_
           refine wpAnyX_tq 2 ?_
           refine wpAnyX_oq 1 fun K hK=>?_
           go_wp2_with fail
           ((with_reducible refine (HOW2.out _ N6.dr).mono ?_);rintro e w7 ⟨F1,p1,g1,F2,p2,g2,F3,p3,g3,rfl,O7,hb7⟩)
           go_wp2_with fail
           have SR7:=G6.drew.below' hb7;have RX7:=RX6.drew.below' hb7;have RV7:=RV6.drew.below' hb7;have RR7:=RR6.drew.below' hb7;have q7:Below w.heap.size w w7:=bstep q6.drew hb7
           have L7:=L6.drew.below hb7;have T7:=(tp_drew T6).bl hb7
           refine hK.out _ _ (Or.inr ⟨SR7.cell 0,SR7.cell 1,SR7.cell 2,SR7.cell 3,SR7.cell 4,SR7.cell 5,RX7.cell 0,RX7.cell 1,RX7.cell 2,RX7.cell 3⟩) (fun hS=>?_)
           replace hS:=hS.resolve_left (by decide)
           clear hK K
           (try clear cRV7 fRV7);have cRV7:=RV7.cell;have fRV7:=RV7.frozen
           refine wpAnyX_oq 3 fun K hK=>?_
           go_wp2_with fail
           have SRck1y0:=SR7.far (p:=⟨w.heap.size+2,0,none⟩) (by first|(simp;done)|(simp;omega)) (.int .i64 ek)
           have SRck1y1:=SRck1y0.far (p:=⟨w.heap.size+2,1,none⟩) (by first|(simp;done)|(simp;omega)) (.string et)
           have SRck1y2:=SRck1y1.far (p:=⟨w.heap.size+2,2,none⟩) (by first|(simp;done)|(simp;omega)) (.int .i64 ec)
           have SRck1y3:=SRck1y2.far (p:=⟨w.heap.size+2,3,none⟩) (by first|(simp;done)|(simp;omega)) (.slice F1 p1 g1)
           have SRck1y4:=SRck1y3.far (p:=⟨w.heap.size+2,4,none⟩) (by first|(simp;done)|(simp;omega)) (.slice F2 p2 g2)
           have SRck1y5:=SRck1y4.far (p:=⟨w.heap.size+2,5,none⟩) (by first|(simp;done)|(simp;omega)) (.slice F3 p3 g3)
           have RRck1y0:=RX7.far (p:=⟨w.heap.size+2,0,none⟩) (by first|(simp;done)|(simp;omega)) (.int .i64 ek)
           have RRck1y1:=RRck1y0.far (p:=⟨w.heap.size+2,1,none⟩) (by first|(simp;done)|(simp;omega)) (.string et)
           have RRck1y2:=RRck1y1.far (p:=⟨w.heap.size+2,2,none⟩) (by first|(simp;done)|(simp;omega)) (.int .i64 ec)
           have RRck1y3:=RRck1y2.far (p:=⟨w.heap.size+2,3,none⟩) (by first|(simp;done)|(simp;omega)) (.slice F1 p1 g1)
           have RRck1y4:=RRck1y3.far (p:=⟨w.heap.size+2,4,none⟩) (by first|(simp;done)|(simp;omega)) (.slice F2 p2 g2)
           have RRck1y5:=RRck1y4.far (p:=⟨w.heap.size+2,5,none⟩) (by first|(simp;done)|(simp;omega)) (.slice F3 p3 g3)
           have RFck1y0:=RR7.far (p:=⟨w.heap.size+2,0,none⟩) (by simp) (.int .i64 ek)
           have RFck1y1:=RFck1y0.far (p:=⟨w.heap.size+2,1,none⟩) (by simp) (.string et)
           have RFck1y2:=RFck1y1.far (p:=⟨w.heap.size+2,2,none⟩) (by simp) (.int .i64 ec)
           have RFck1y3:=RFck1y2.far (p:=⟨w.heap.size+2,3,none⟩) (by simp) (.slice F1 p1 g1)
           have RFck1y4:=RFck1y3.far (p:=⟨w.heap.size+2,4,none⟩) (by simp) (.slice F2 p2 g2)
           have RFck1y5:=RFck1y4.far (p:=⟨w.heap.size+2,5,none⟩) (by simp) (.slice F3 p3 g3)
           refine hK.out _ _ (Or.inr ⟨SRck1y5.cell 0,SRck1y5.cell 1,SRck1y5.cell 2,SRck1y5.cell 3,SRck1y5.cell 4,SRck1y5.cell 5,RRck1y5.cell 0,RRck1y5.cell 1,RRck1y5.cell 2,RRck1y5.cell 3⟩) (fun hS=>?_)
           clear hK K hS
           (try clear cRFck1y5 fRFck1y5);have cRFck1y5:=RFck1y5.cell;have fRFck1y5:=RFck1y5.frozen
           refine wpAnyX_oq 4 fun K hK=>?_
           go_wp2_with fail
           refine hK.out _ _ (Or.inl (by decide)) (fun hS=>?_)
           clear hK K hS
           refine wpAnyX_pq 5 ?_
           refine wpAnyX_done (by kernel_rfl) ?_ _
           obtain ⟨P,V9,R9⟩:=fin_done (w:=w) (v:=⟨ek,et,ec,eps,eis,ess⟩) (r:=⟨0,rt,rn,rl⟩) (k:=0) RV7 RR7 O7.sl L7 ⟨own_tp O7.1,own_tp O7.2.1,own_tp O7.2.2,T7⟩ q7 (by omega) (by omega) (own_new O7.2.1 q6.drew.size)
           simp only at P V9 R9
           go_wp2_with fail
           have cV9:=V9.cell;have cR9:=R9.cell
           refine bodyPost_ret (v:=.tuple #[.agg #[.int .i64 ek,.string et,.int .i64 ec,.slice F1 p1 g1,.slice F2 p2 g2,.slice F3 p3 g3],.agg #[.int .i64 0,.string rt,.int .i64 rn,.slice E4 k4 f4],.int .i64 0]) ?_ rfl (by rw [HV.out];exact P)
           simp [results,Tryz.results132,go_sem,cV9,cR9]
         ·have h3':¬ 3≤ek:=h3
          have hv:D=(⟨ek,et,ec,eps,eis,ess⟩,⟨0,rt,rn,rl⟩,0):=by rw [HD.out];rw [behind,if_neg (by simp),if_neg (fun hh=>h3 hh.1)]
          have HV:=hide hv
          clear hv HD
          go_upto_region 24 with fail
          clear cG6 fG6 cRX6 fRX6
          go_upto_region 24 with fail
          refine wp_region_x (l:=[4,5]) (S:=fun w'=>w'.cell? ⟨w3.heap.size,0,none⟩=some (.int .i64 ek)∧w'.cell? ⟨w3.heap.size,1,none⟩=some (.string et)∧w'.cell? ⟨w3.heap.size,2,none⟩=some (.int .i64 ec)∧w'.cell? ⟨w3.heap.size,3,none⟩=some (.slice E1 k1 f1)∧w'.cell? ⟨w3.heap.size,4,none⟩=some (.slice E2 k2 f2)∧w'.cell? ⟨w3.heap.size,5,none⟩=some (.slice E3 k3 f3)∧w'.cell? ⟨w5.heap.size,0,none⟩=some (.int .i64 0)∧w'.cell? ⟨w5.heap.size,1,none⟩=some (.string rt)∧w'.cell? ⟨w5.heap.size,2,none⟩=some (.int .i64 rn)∧w'.cell? ⟨w5.heap.size,3,none⟩=some (.slice E4 k4 f4)) (by kernel_rfl) ⟨G6.drew.cell 0,G6.drew.cell 1,G6.drew.cell 2,G6.drew.cell 3,G6.drew.cell 4,G6.drew.cell 5,RX6.drew.cell 0,RX6.drew.cell 1,RX6.drew.cell 2,RX6.drew.cell 3⟩ (fun hS=>?_)
          refine wpAnyX_tq 0 ?_
          refine wpAnyX_tq 2 ?_
          refine wpAnyX_oq 1 fun K hK=>?_
          go_wp2_with fail
          ((with_reducible refine (HOW2.out _ N6.dr).mono ?_);rintro e w7 ⟨F1,p1,g1,F2,p2,g2,F3,p3,g3,rfl,O7,hb7⟩)
          go_wp2_with fail
          have SR7:=G6.drew.below' hb7;have RX7:=RX6.drew.below' hb7;have RV7:=RV6.drew.below' hb7;have RR7:=RR6.drew.below' hb7;have q7:Below w.heap.size w w7:=bstep q6.drew hb7
          have L7:=L6.drew.below hb7;have T7:=(tp_drew T6).bl hb7
          refine hK.out _ _ (Or.inr ⟨SR7.cell 0,SR7.cell 1,SR7.cell 2,SR7.cell 3,SR7.cell 4,SR7.cell 5,RX7.cell 0,RX7.cell 1,RX7.cell 2,RX7.cell 3⟩) (fun hS=>?_)
          replace hS:=hS.resolve_left (by decide)
          clear hK K
          (try clear cRV7 fRV7);have cRV7:=RV7.cell;have fRV7:=RV7.frozen
          refine wpAnyX_oq 3 fun K hK=>?_
          go_wp2_with fail
          have SRck1z0:=SR7.far (p:=⟨w.heap.size+2,0,none⟩) (by first|(simp;done)|(simp;omega)) (.int .i64 ek)
          have SRck1z1:=SRck1z0.far (p:=⟨w.heap.size+2,1,none⟩) (by first|(simp;done)|(simp;omega)) (.string et)
          have SRck1z2:=SRck1z1.far (p:=⟨w.heap.size+2,2,none⟩) (by first|(simp;done)|(simp;omega)) (.int .i64 ec)
          have SRck1z3:=SRck1z2.far (p:=⟨w.heap.size+2,3,none⟩) (by first|(simp;done)|(simp;omega)) (.slice F1 p1 g1)
          have SRck1z4:=SRck1z3.far (p:=⟨w.heap.size+2,4,none⟩) (by first|(simp;done)|(simp;omega)) (.slice F2 p2 g2)
          have SRck1z5:=SRck1z4.far (p:=⟨w.heap.size+2,5,none⟩) (by first|(simp;done)|(simp;omega)) (.slice F3 p3 g3)
          have RRck1z0:=RX7.far (p:=⟨w.heap.size+2,0,none⟩) (by first|(simp;done)|(simp;omega)) (.int .i64 ek)
          have RRck1z1:=RRck1z0.far (p:=⟨w.heap.size+2,1,none⟩) (by first|(simp;done)|(simp;omega)) (.string et)
          have RRck1z2:=RRck1z1.far (p:=⟨w.heap.size+2,2,none⟩) (by first|(simp;done)|(simp;omega)) (.int .i64 ec)
          have RRck1z3:=RRck1z2.far (p:=⟨w.heap.size+2,3,none⟩) (by first|(simp;done)|(simp;omega)) (.slice F1 p1 g1)
          have RRck1z4:=RRck1z3.far (p:=⟨w.heap.size+2,4,none⟩) (by first|(simp;done)|(simp;omega)) (.slice F2 p2 g2)
          have RRck1z5:=RRck1z4.far (p:=⟨w.heap.size+2,5,none⟩) (by first|(simp;done)|(simp;omega)) (.slice F3 p3 g3)
          have RFck1z0:=RR7.far (p:=⟨w.heap.size+2,0,none⟩) (by simp) (.int .i64 ek)
          have RFck1z1:=RFck1z0.far (p:=⟨w.heap.size+2,1,none⟩) (by simp) (.string et)
          have RFck1z2:=RFck1z1.far (p:=⟨w.heap.size+2,2,none⟩) (by simp) (.int .i64 ec)
          have RFck1z3:=RFck1z2.far (p:=⟨w.heap.size+2,3,none⟩) (by simp) (.slice F1 p1 g1)
          have RFck1z4:=RFck1z3.far (p:=⟨w.heap.size+2,4,none⟩) (by simp) (.slice F2 p2 g2)
          have RFck1z5:=RFck1z4.far (p:=⟨w.heap.size+2,5,none⟩) (by simp) (.slice F3 p3 g3)
          refine hK.out _ _ (Or.inr ⟨SRck1z5.cell 0,SRck1z5.cell 1,SRck1z5.cell 2,SRck1z5.cell 3,SRck1z5.cell 4,SRck1z5.cell 5,RRck1z5.cell 0,RRck1z5.cell 1,RRck1z5.cell 2,RRck1z5.cell 3⟩) (fun hS=>?_)
          clear hK K hS
          (try clear cRFck1z5 fRFck1z5);have cRFck1z5:=RFck1z5.cell;have fRFck1z5:=RFck1z5.frozen
          refine wpAnyX_oq 4 fun K hK=>?_
          go_wp2_with fail
          refine hK.out _ _ (Or.inl (by decide)) (fun hS=>?_)
          clear hK K hS
          refine wpAnyX_pq 5 ?_
          refine wpAnyX_done (by kernel_rfl) ?_ _
          obtain ⟨P,V9,R9⟩:=fin_done (w:=w) (v:=⟨ek,et,ec,eps,eis,ess⟩) (r:=⟨0,rt,rn,rl⟩) (k:=0) RV7 RR7 O7.sl L7 ⟨own_tp O7.1,own_tp O7.2.1,own_tp O7.2.2,T7⟩ q7 (by omega) (by omega) (own_new O7.2.1 q6.drew.size)
          simp only at P V9 R9
          go_wp2_with fail
          have cV9:=V9.cell;have cR9:=R9.cell
          refine bodyPost_ret (v:=.tuple #[.agg #[.int .i64 ek,.string et,.int .i64 ec,.slice F1 p1 g1,.slice F2 p2 g2,.slice F3 p3 g3],.agg #[.int .i64 0,.string rt,.int .i64 rn,.slice E4 k4 f4],.int .i64 0]) ?_ rfl (by rw [HV.out];exact P)
          simp [results,Tryz.results132,go_sem,cV9,cR9]
        ·have hrb:(rc != 0)=true:=by simpa using hrc
         have hv:D=(⟨vk,vt,vc,ps,is_,ss⟩,⟨rc,rt,rn,rl⟩,0):=by rw [HD.out];rw [behind,if_pos hrc]
         have HV:=hide hv
         clear hv HD
         go_upto_region 21 with fail
         refine wp_region_x (l:=[4,5]) (S:=fun w'=>w'.cell? ⟨w.heap.size,0,none⟩=some (.int .i64 vk)∧w'.cell? ⟨w.heap.size,1,none⟩=some (.string vt)∧w'.cell? ⟨w.heap.size,2,none⟩=some (.int .i64 vc)∧w'.cell? ⟨w.heap.size,3,none⟩=some (.slice A1 n1 c1)∧w'.cell? ⟨w.heap.size,4,none⟩=some (.slice A2 n2 c2)∧w'.cell? ⟨w.heap.size,5,none⟩=some (.slice A3 n3 c3)∧w'.cell? ⟨w5.heap.size,0,none⟩=some (.int .i64 rc)∧w'.cell? ⟨w5.heap.size,1,none⟩=some (.string rt)∧w'.cell? ⟨w5.heap.size,2,none⟩=some (.int .i64 rn)∧w'.cell? ⟨w5.heap.size,3,none⟩=some (.slice E4 k4 f4)) (by kernel_rfl) ⟨V6.drew.cell 0,V6.drew.cell 1,V6.drew.cell 2,V6.drew.cell 3,V6.drew.cell 4,V6.drew.cell 5,RX6.drew.cell 0,RX6.drew.cell 1,RX6.drew.cell 2,RX6.drew.cell 3⟩ (fun hS=>?_)
         refine wpAnyX_tq 0 ?_
         refine wpAnyX_tq 2 ?_
         refine wpAnyX_oq 1 fun K hK=>?_
         go_wp2_with fail
         ((with_reducible refine (HOW.out _ NV6.dr).mono ?_);rintro e w7 ⟨F1,p1,g1,F2,p2,g2,F3,p3,g3,rfl,O7,hb7⟩)
         go_wp2_with fail
         have SR7:=V6.drew.below' hb7;have RX7:=RX6.drew.below' hb7;have RV7:=RV6.drew.below' hb7;have RR7:=RR6.drew.below' hb7;have q7:Below w.heap.size w w7:=bstep q6.drew hb7
         have L7:=L6.drew.below hb7;have T7:=(tp_drew T6).bl hb7
         refine hK.out _ _ (Or.inr ⟨SR7.cell 0,SR7.cell 1,SR7.cell 2,SR7.cell 3,SR7.cell 4,SR7.cell 5,RX7.cell 0,RX7.cell 1,RX7.cell 2,RX7.cell 3⟩) (fun hS=>?_)
         replace hS:=hS.resolve_left (by decide)
         clear hK K
         (try clear cRV7 fRV7);have cRV7:=RV7.cell;have fRV7:=RV7.frozen
         refine wpAnyX_oq 3 fun K hK=>?_
         go_wp2_with fail
         have SRck1x0:=SR7.far (p:=⟨w.heap.size+2,0,none⟩) (by first|(simp;done)|(simp;omega)) (.int .i64 vk)
         have SRck1x1:=SRck1x0.far (p:=⟨w.heap.size+2,1,none⟩) (by first|(simp;done)|(simp;omega)) (.string vt)
         have SRck1x2:=SRck1x1.far (p:=⟨w.heap.size+2,2,none⟩) (by first|(simp;done)|(simp;omega)) (.int .i64 vc)
         have SRck1x3:=SRck1x2.far (p:=⟨w.heap.size+2,3,none⟩) (by first|(simp;done)|(simp;omega)) (.slice F1 p1 g1)
         have SRck1x4:=SRck1x3.far (p:=⟨w.heap.size+2,4,none⟩) (by first|(simp;done)|(simp;omega)) (.slice F2 p2 g2)
         have SRck1x5:=SRck1x4.far (p:=⟨w.heap.size+2,5,none⟩) (by first|(simp;done)|(simp;omega)) (.slice F3 p3 g3)
         have RRck1x0:=RX7.far (p:=⟨w.heap.size+2,0,none⟩) (by first|(simp;done)|(simp;omega)) (.int .i64 vk)
         have RRck1x1:=RRck1x0.far (p:=⟨w.heap.size+2,1,none⟩) (by first|(simp;done)|(simp;omega)) (.string vt)
         have RRck1x2:=RRck1x1.far (p:=⟨w.heap.size+2,2,none⟩) (by first|(simp;done)|(simp;omega)) (.int .i64 vc)
         have RRck1x3:=RRck1x2.far (p:=⟨w.heap.size+2,3,none⟩) (by first|(simp;done)|(simp;omega)) (.slice F1 p1 g1)
         have RRck1x4:=RRck1x3.far (p:=⟨w.heap.size+2,4,none⟩) (by first|(simp;done)|(simp;omega)) (.slice F2 p2 g2)
         have RRck1x5:=RRck1x4.far (p:=⟨w.heap.size+2,5,none⟩) (by first|(simp;done)|(simp;omega)) (.slice F3 p3 g3)
         have RFck1x0:=RR7.far (p:=⟨w.heap.size+2,0,none⟩) (by simp) (.int .i64 vk)
         have RFck1x1:=RFck1x0.far (p:=⟨w.heap.size+2,1,none⟩) (by simp) (.string vt)
         have RFck1x2:=RFck1x1.far (p:=⟨w.heap.size+2,2,none⟩) (by simp) (.int .i64 vc)
         have RFck1x3:=RFck1x2.far (p:=⟨w.heap.size+2,3,none⟩) (by simp) (.slice F1 p1 g1)
         have RFck1x4:=RFck1x3.far (p:=⟨w.heap.size+2,4,none⟩) (by simp) (.slice F2 p2 g2)
         have RFck1x5:=RFck1x4.far (p:=⟨w.heap.size+2,5,none⟩) (by simp) (.slice F3 p3 g3)
         refine hK.out _ _ (Or.inr ⟨SRck1x5.cell 0,SRck1x5.cell 1,SRck1x5.cell 2,SRck1x5.cell 3,SRck1x5.cell 4,SRck1x5.cell 5,RRck1x5.cell 0,RRck1x5.cell 1,RRck1x5.cell 2,RRck1x5.cell 3⟩) (fun hS=>?_)
         clear hK K hS
         (try clear cRFck1x5 fRFck1x5);have cRFck1x5:=RFck1x5.cell;have fRFck1x5:=RFck1x5.frozen
         refine wpAnyX_oq 4 fun K hK=>?_
         go_wp2_with fail
         refine hK.out _ _ (Or.inl (by decide)) (fun hS=>?_)
         clear hK K hS
         refine wpAnyX_pq 5 ?_
         refine wpAnyX_done (by kernel_rfl) ?_ _
         obtain ⟨P,V9,R9⟩:=fin_done (w:=w) (v:=⟨vk,vt,vc,ps,is_,ss⟩) (r:=⟨rc,rt,rn,rl⟩) (k:=0) RV7 RR7 O7.sl L7 ⟨own_tp O7.1,own_tp O7.2.1,own_tp O7.2.2,T7⟩ q7 (by omega) (by omega) (own_new O7.2.1 q6.drew.size)
         simp only at P V9 R9
         go_wp2_with fail
         have cV9:=V9.cell;have cR9:=R9.cell
         refine bodyPost_ret (v:=.tuple #[.agg #[.int .i64 vk,.string vt,.int .i64 vc,.slice F1 p1 g1,.slice F2 p2 g2,.slice F3 p3 g3],.agg #[.int .i64 rc,.string rt,.int .i64 rn,.slice E4 k4 f4],.int .i64 0]) ?_ rfl (by rw [HV.out];exact P)
         simp [results,Tryz.results132,go_sem,cV9,cR9]
      | false=>
       go_upto_region 16 with ((go_at_call 145;with_reducible refine (HKC.out _).mono ?_);rintro e w' ⟨rfl,rfl⟩)
       go_cut [73] (fun s wx=>s = .bool (kindC kind != 0 && kindC kind != vk)∧(w3.alloc (.cells #[.int .i64 vk,.string vt,.int .i64 vc,.slice D1 m1 d1,.slice D2 m2 d2,.slice D3 m3 d3] 96))=wx)
       case first=>
        cases a1:(kindC kind != 0) <;> cases a2:(kindC kind != vk)
        all_goals go_wp2_with fail
        all_goals go_meet
        all_goals exact ⟨by rw [a1,a2];rfl,rfl⟩
       case rest=>
        obtain ⟨rfl,rfl⟩:=hcut
        have hwr:wrongKind ⟨vk,vt,vc,ps,is_,ss⟩ ⟨kind,key,field,text,n⟩=((kindC kind != 0 && kindC kind != vk) || (decide (17≤kind) && decide (vk<3))):=rfl
        have HWR:=hide hwr
        clear hwr
        cases ha:(kindC kind != 0 && kindC kind != vk) with
        | true=>
         have hv:D=(⟨vk,vt,vc,ps,is_,ss⟩,failR 4,0):=by rw [HD.out];rw [if_neg HBAD.out,if_neg (by simp),if_neg (by have:=HK.out;omega),if_neg (by simp),if_pos (by refine ⟨by simp,?_⟩;rw [HWR.out,ha];rfl)]
         have HV:=hide hv
         clear hv HD
         go_upto_region 18 with (first|((go_at_call 145;with_reducible refine (HKC.out _).mono ?_);rintro e w' ⟨rfl,rfl⟩)|((go_at_call 146;with_reducible refine (HMA.out _).mono ?_);rintro e w' ⟨rfl,rfl⟩))
         clear cV3 fV3 cC3 fC3
         refine wp_region_x (l:=[2,3,4]) (S:=fun w'=>w'.cell? ⟨w3.heap.size,0,none⟩=some (.int .i64 vk)∧w'.cell? ⟨w3.heap.size,1,none⟩=some (.string vt)∧w'.cell? ⟨w3.heap.size,2,none⟩=some (.int .i64 vc)∧w'.cell? ⟨w3.heap.size,3,none⟩=some (.slice D1 m1 d1)∧w'.cell? ⟨w3.heap.size,4,none⟩=some (.slice D2 m2 d2)∧w'.cell? ⟨w3.heap.size,5,none⟩=some (.slice D3 m3 d3)) (by kernel_rfl) ⟨G4.drew.cell 0,G4.drew.cell 1,G4.drew.cell 2,G4.drew.cell 3,G4.drew.cell 4,G4.drew.cell 5⟩ (fun hS=>?_)
         refine wpAnyX_tq 0 ?_
         refine wpAnyX_oq 1 fun K hK=>?_
         go_wp2_with fail
         ((with_reducible refine (failed_any 4 _).mono ?_);rintro e w5 ⟨rfl,hb5⟩)
         go_wp2_with fail
         have G5:=G4.drew.below' hb5;have RV5:=RV4.drew.below' hb5;have RR5:=RR4.drew.below' hb5;have O5:=O4.dr.bl hb5;have q5:Below w.heap.size w w5:=bstep q4.drew hb5
         refine hK.out _ _ (Or.inr ⟨G5.cell 0,G5.cell 1,G5.cell 2,G5.cell 3,G5.cell 4,G5.cell 5⟩) (fun hS=>?_)
         clear hK K hS
         (try clear cRV5 fRV5);have cRV5:=RV5.cell;have fRV5:=RV5.frozen
         refine wpAnyX_oq 2 fun K hK=>?_
         go_wp2_with fail
         refine hK.out _ _ (Or.inl (by decide)) (fun hS=>?_)
         clear hK K hS
         have RRfx0:=RR5.far (p:=⟨w.heap.size+2,0,none⟩) (by simp) (.int .i64 vk)
         have RRfx1:=RRfx0.far (p:=⟨w.heap.size+2,1,none⟩) (by simp) (.string vt)
         have RRfx2:=RRfx1.far (p:=⟨w.heap.size+2,2,none⟩) (by simp) (.int .i64 vc)
         have RRfx3:=RRfx2.far (p:=⟨w.heap.size+2,3,none⟩) (by simp) (.slice D1 m1 d1)
         have RRfx4:=RRfx3.far (p:=⟨w.heap.size+2,4,none⟩) (by simp) (.slice D2 m2 d2)
         have RRfx5:=RRfx4.far (p:=⟨w.heap.size+2,5,none⟩) (by simp) (.slice D3 m3 d3)
         (try clear cRRfx5 fRRfx5);have cRRfx5:=RRfx5.cell;have fRRfx5:=RRfx5.frozen
         refine wpAnyX_oq 3 fun K hK=>?_
         go_wp2_with fail
         refine hK.out _ _ (Or.inl (by decide)) (fun hS=>?_)
         clear hK K hS
         refine wpAnyX_pq 4 ?_
         refine wpAnyX_done (by kernel_rfl) ?_ _
         obtain ⟨P,V9,R9⟩:=fin_done (w:=w) (v:=⟨vk,vt,vc,ps,is_,ss⟩) (r:=⟨4,emp,0,[]⟩) (k:=0) RV5 RR5 O5.sl nil_sl ⟨own_tp O5.1,own_tp O5.2.1,own_tp O5.2.2,Tp.none_⟩ q5 (by omega) (by omega) (own_new O5.2.1 (by omega))
         simp only at P V9 R9
         go_wp2_with fail
         have cV9:=V9.cell;have cR9:=R9.cell
         refine bodyPost_ret (v:=.tuple #[.agg #[.int .i64 vk,.string vt,.int .i64 vc,.slice D1 m1 d1,.slice D2 m2 d2,.slice D3 m3 d3],.agg #[.int .i64 4,.string emp,.int .i64 0,.slice none 0 0],.int .i64 0]) ?_ rfl (by rw [HV.out];exact P)
         simp [results,Tryz.results132,go_sem,cV9,cR9]
        | false=>
         go_upto_region 17 with fail
         go_cut [73] (fun s wx=>s = .bool (decide (17≤kind) && decide (vk<3))∧(w3.alloc (.cells #[.int .i64 vk,.string vt,.int .i64 vc,.slice D1 m1 d1,.slice D2 m2 d2,.slice D3 m3 d3] 96))=wx)
         case first=>
          by_cases a1:17≤kind <;> by_cases a2:vk<3
          all_goals go_wp2_with fail
          all_goals go_meet
          all_goals exact ⟨by simp [a1,a2],rfl⟩
         case rest=>
          obtain ⟨rfl,rfl⟩:=hcut
          cases hb:(decide (17≤kind) && decide (vk<3)) with
          | true=>
           have hv:D=(⟨vk,vt,vc,ps,is_,ss⟩,failR 4,0):=by rw [HD.out];rw [if_neg HBAD.out,if_neg (by simp),if_neg (by have:=HK.out;omega),if_neg (by simp),if_pos (by refine ⟨by simp,?_⟩;rw [HWR.out,ha,hb];rfl)]
           have HV:=hide hv
           clear hv HD
           go_upto_region 18 with (first|((go_at_call 145;with_reducible refine (HKC.out _).mono ?_);rintro e w' ⟨rfl,rfl⟩)|((go_at_call 146;with_reducible refine (HMA.out _).mono ?_);rintro e w' ⟨rfl,rfl⟩))
           clear cV3 fV3 cC3 fC3
           refine wp_region_x (l:=[2,3,4]) (S:=fun w'=>w'.cell? ⟨w3.heap.size,0,none⟩=some (.int .i64 vk)∧w'.cell? ⟨w3.heap.size,1,none⟩=some (.string vt)∧w'.cell? ⟨w3.heap.size,2,none⟩=some (.int .i64 vc)∧w'.cell? ⟨w3.heap.size,3,none⟩=some (.slice D1 m1 d1)∧w'.cell? ⟨w3.heap.size,4,none⟩=some (.slice D2 m2 d2)∧w'.cell? ⟨w3.heap.size,5,none⟩=some (.slice D3 m3 d3)) (by kernel_rfl) ⟨G4.drew.cell 0,G4.drew.cell 1,G4.drew.cell 2,G4.drew.cell 3,G4.drew.cell 4,G4.drew.cell 5⟩ (fun hS=>?_)
           refine wpAnyX_tq 0 ?_
           refine wpAnyX_oq 1 fun K hK=>?_
           go_wp2_with fail
           ((with_reducible refine (failed_any 4 _).mono ?_);rintro e w5 ⟨rfl,hb5⟩)
           go_wp2_with fail
           have G5:=G4.drew.below' hb5;have RV5:=RV4.drew.below' hb5;have RR5:=RR4.drew.below' hb5;have O5:=O4.dr.bl hb5;have q5:Below w.heap.size w w5:=bstep q4.drew hb5
           refine hK.out _ _ (Or.inr ⟨G5.cell 0,G5.cell 1,G5.cell 2,G5.cell 3,G5.cell 4,G5.cell 5⟩) (fun hS=>?_)
           clear hK K hS
           (try clear cRV5 fRV5);have cRV5:=RV5.cell;have fRV5:=RV5.frozen
           refine wpAnyX_oq 2 fun K hK=>?_
           go_wp2_with fail
           refine hK.out _ _ (Or.inl (by decide)) (fun hS=>?_)
           clear hK K hS
           have RRfx0:=RR5.far (p:=⟨w.heap.size+2,0,none⟩) (by simp) (.int .i64 vk)
           have RRfx1:=RRfx0.far (p:=⟨w.heap.size+2,1,none⟩) (by simp) (.string vt)
           have RRfx2:=RRfx1.far (p:=⟨w.heap.size+2,2,none⟩) (by simp) (.int .i64 vc)
           have RRfx3:=RRfx2.far (p:=⟨w.heap.size+2,3,none⟩) (by simp) (.slice D1 m1 d1)
           have RRfx4:=RRfx3.far (p:=⟨w.heap.size+2,4,none⟩) (by simp) (.slice D2 m2 d2)
           have RRfx5:=RRfx4.far (p:=⟨w.heap.size+2,5,none⟩) (by simp) (.slice D3 m3 d3)
           (try clear cRRfx5 fRRfx5);have cRRfx5:=RRfx5.cell;have fRRfx5:=RRfx5.frozen
           refine wpAnyX_oq 3 fun K hK=>?_
           go_wp2_with fail
           refine hK.out _ _ (Or.inl (by decide)) (fun hS=>?_)
           clear hK K hS
           refine wpAnyX_pq 4 ?_
           refine wpAnyX_done (by kernel_rfl) ?_ _
           obtain ⟨P,V9,R9⟩:=fin_done (w:=w) (v:=⟨vk,vt,vc,ps,is_,ss⟩) (r:=⟨4,emp,0,[]⟩) (k:=0) RV5 RR5 O5.sl nil_sl ⟨own_tp O5.1,own_tp O5.2.1,own_tp O5.2.2,Tp.none_⟩ q5 (by omega) (by omega) (own_new O5.2.1 (by omega))
           simp only at P V9 R9
           go_wp2_with fail
           have cV9:=V9.cell;have cR9:=R9.cell
           refine bodyPost_ret (v:=.tuple #[.agg #[.int .i64 vk,.string vt,.int .i64 vc,.slice D1 m1 d1,.slice D2 m2 d2,.slice D3 m3 d3],.agg #[.int .i64 4,.string emp,.int .i64 0,.slice none 0 0],.int .i64 0]) ?_ rfl (by rw [HV.out];exact P)
           simp [results,Tryz.results132,go_sem,cV9,cR9]
          | false=>
           have hft:=HF.out HBAD.out (by simp) (by have:=HK.out;omega) (by simp) (by rw [HWR.out,ha,hb];simp)
           have hdk:doneKind ⟨vk,vt,vc,ps,is_,ss⟩ ⟨kind,key,field,text,n⟩=⟨vk,vt,vc,ps,is_,ss⟩:=by unfold doneKind;rw [HNB.out];rfl
           rw [hdk] at hft
           have hcn:=HCC.out (by simp)
           (try simp only at hcn)
           have hd2:D=((behind ⟨vk,vt,vc,ps,is_,ss⟩ (doVal ⟨vk,vt,vc,ps,is_,ss⟩ ⟨kind,key,field,text,n⟩)).1,(behind ⟨vk,vt,vc,ps,is_,ss⟩ (doVal ⟨vk,vt,vc,ps,is_,ss⟩ ⟨kind,key,field,text,n⟩)).2,0):=by
            rw [HD.out,if_neg HBAD.out,if_neg (by simp),if_neg (by have:=HK.out;omega),if_neg (by simp),if_neg (by rw [HWR.out,ha,hb];simp),hdk]
           clear HD
           have HD:=hide hd2
           clear hd2 hdk HF HCC
           have G1:Blk (w3.alloc (.cells #[.int .i64 vk,.string vt,.int .i64 vc,.slice D1 m1 d1,.slice D2 m2 d2,.slice D3 m3 d3] 96)) w3.heap.size 96 #[.int .i64 vk,.string vt,.int .i64 vc,.slice D1 m1 d1,.slice D2 m2 d2,.slice D3 m3 d3]:=Blk.new _ _ _
           have hd:=do_any ⟨vk,vt,vc,ps,is_,ss⟩ ⟨kind,key,field,text,n⟩ w2.heap.size w3.heap.size D1 D2 D3 m1 d1 m2 d2 m3 d3 (w3.alloc (.cells #[.int .i64 vk,.string vt,.int .i64 vc,.slice D1 m1 d1,.slice D2 m2 d2,.slice D3 m3 d3] 96)) G1 (O3.al _) hB3 (by simp;omega) (by have:=O3.sl.n1_;have:=hft.l1;simp only at *;omega) (by have:=O3.sl.n2_;have:=hft.l2;simp only at *;omega) (by have:=O3.sl.n3_;have:=hft.l3;simp only at *;omega) hft.fit hft.r1 hft.r2 hft.r3 (by intro a b;have:=O3.sl.n2_;have:=hft.pos a b;simp only at *;omega) hft.k1 hft.k2 hcn.2.2.1 hcn.2.2.2
           have hln:=do_len (c:=⟨kind,key,field,text,n⟩) (show small ⟨vk,vt,vc,ps,is_,ss⟩ 20 from ⟨hft.l1,hft.l2,hft.l3⟩)
           clear hft hcn
           generalize doVal ⟨vk,vt,vc,ps,is_,ss⟩ ⟨kind,key,field,text,n⟩=E at *
           obtain ⟨⟨ek,et,ec,eps,eis,ess⟩,⟨rc,rt,rn,rl⟩⟩:=E
           have HDO:=hide hd
           obtain ⟨hl1,hl2,hl3⟩:=hln
           simp only at hl1 hl2 hl3
           have HL1:=hide hl1;have HL2:=hide hl2;have HL3:=hide hl3
           clear hd hl1 hl2 hl3
           clear G4 RV4 RR4 O4 q4
           have G4:=G1
           go_upto_region 19 with (first|((go_at_call 145;with_reducible refine (HKC.out _).mono ?_);rintro e w' ⟨rfl,rfl⟩)|((go_at_call 146;with_reducible refine (HMA.out _).mono ?_);rintro e w' ⟨rfl,rfl⟩))
           go_wp2_with fail
           refine HDO.out.mono ?_
           rintro e w5 ⟨E1,k1,f1,E2,k2,f2,E3,k3,f3,E4,k4,f4,rfl,G5,N5,L5,T5,M5⟩
           have q4:Below w.heap.size w (w3.alloc (.cells #[.int .i64 vk,.string vt,.int .i64 vc,.slice D1 m1 d1,.slice D2 m2 d2,.slice D3 m3 d3] 96)):=below_by
           have q5:Below w.heap.size w w5:=q4.trans (M5.bel.mono (by omega))
           have RV5:=(RV3.alloc _).below M5.bel (by omega);have RR5:=(RR3.alloc _).below M5.bel (by omega);have V5:=(V3.alloc _).below M5.bel (by omega);have C5:=(C3.alloc _).below M5.bel (by omega)
           have N5':=h.bl q5
           have hg5:w3.heap.size<w5.heap.size:=G5.lt
           have RX6:=Blk.new w5 102 #[.int .i64 rc,.string rt,.int .i64 rn,.slice E4 k4 f4]
           have RV6:=RV5.alloc (.cells #[.int .i64 rc,.string rt,.int .i64 rn,.slice E4 k4 f4] 102);have RR6:=RR5.alloc (.cells #[.int .i64 rc,.string rt,.int .i64 rn,.slice E4 k4 f4] 102);have V6:=V5.alloc (.cells #[.int .i64 rc,.string rt,.int .i64 rn,.slice E4 k4 f4] 102);have G6:=G5.alloc (.cells #[.int .i64 rc,.string rt,.int .i64 rn,.slice E4 k4 f4] 102);have N6:=N5.al (.cells #[.int .i64 rc,.string rt,.int .i64 rn,.slice E4 k4 f4] 102);have NV6:=N5'.al (.cells #[.int .i64 rc,.string rt,.int .i64 rn,.slice E4 k4 f4] 102);have L6:=L5.alloc (.cells #[.int .i64 rc,.string rt,.int .i64 rn,.slice E4 k4 f4] 102);have q6:Below w.heap.size w (w5.alloc (.cells #[.int .i64 rc,.string rt,.int .i64 rn,.slice E4 k4 f4] 102)):=q5.alloc q5.size _
           have T6:Tp (w5.alloc (.cells #[.int .i64 rc,.string rt,.int .i64 rn,.slice E4 k4 f4] 102)) E4 9:=T5.2.2.2.bl ((Below.refl _ w5).alloc (Nat.le_refl _) _)
           have T6a:Tp (w5.alloc (.cells #[.int .i64 rc,.string rt,.int .i64 rn,.slice E4 k4 f4] 102)) E1 137:=T5.1.bl ((Below.refl _ w5).alloc (Nat.le_refl _) _)
           have how2:=fun wz (hz:VSl wz ⟨ek,et,ec,eps,eis,ess⟩ E1 k1 f1 E2 k2 f2 E3 k3 f3)=>own_any ⟨ek,et,ec,eps,eis,ess⟩ E1 E2 E3 k1 f1 k2 f2 k3 f3 wz hz (by have:=hz.n1_;have:=HL1.out;simp only at *;omega) (by have:=hz.n2_;have:=HL2.out;simp only at *;omega) (by have:=hz.n3_;have:=HL3.out;simp only at *;omega)
           have HOW2:=hide how2
           clear how2 RV5 RR5 V5 C5 cV3 fV3 cC3 fC3
           by_cases hrc:rc=0
           ·subst hrc
            have n1:=N6.n1_;have n2:=N6.n2_;have n3:=N6.n3_
            have m1':=HL1.out;have m2':=HL2.out;have m3':=HL3.out
            simp only at n1 n2 n3
            have o1:k1≤1048576:=by omega
            have o2:k2≤1048576:=by omega
            have o3:k3≤1048576:=by omega
            have hsz:(⟨ek,et,ec,eps,eis,ess⟩:Va).size=k1+k2+k3:=by unfold Va.size;simp only [n1,n2,n3]
            clear m1' m2' m3'
            have n1':=hide n1;have n2':=hide n2;have n3':=hide n3
            clear n1 n2 n3
            have HSZ:=hide hsz
            clear hsz
            (try clear cG6 fG6);have cG6:=G6.cell;have fG6:=G6.frozen;(try clear cRX6 fRX6);have cRX6:=RX6.cell;have fRX6:=RX6.frozen
            by_cases h3:3≤ek
            ·by_cases hs:k1+k2+k3=0
             ·have hv:D=(zeroVa,⟨0,rt,rn,rl⟩,0):=by rw [HD.out,behind,if_neg (by simp),if_pos ⟨h3,by rw [HSZ.out];exact hs⟩]
              have HV:=hide hv
              clear hv HD HSZ
              obtain rfl:k1=0:=by omega
              obtain rfl:k2=0:=by omega
              obtain rfl:k3=0:=by omega
              clear hs
              go_wp2_with ((go_at_call 111;with_reducible refine (elements_any _ _ _ _ _ _ _ _ _ _ _ _ _ o1 o2 o3).mono ?_);rintro e w8 ⟨rfl,hb8⟩;have c8:=(G6.below' hb8).cell;have g8:=(G6.below' hb8).frozen)
              clear cG6 fG6 cRX6 fRX6 c8 g8
              replace G6:=G6.below' hb8;replace RX6:=RX6.below' hb8;replace RV6:=RV6.below' hb8;replace RR6:=RR6.below' hb8;replace N6:=N6.bl hb8;replace L6:=L6.below hb8;replace T6:=T6.bl hb8;replace q6:=bstep q6 hb8
              have n4:=T6.ne G6
              have Gz0:=G6.set' (i:=0) (u:=.int .i64 0) rfl;have Xz0:=RX6.far (p:=⟨w3.heap.size,0,none⟩) (by simp;omega) (.int .i64 0);have Vz0:=RV6.far (p:=⟨w3.heap.size,0,none⟩) (by simp;omega) (.int .i64 0);have Rz0:=RR6.far (p:=⟨w3.heap.size,0,none⟩) (by simp;omega) (.int .i64 0)
              have qz0:=below_set q6 (show w.heap.size≤w3.heap.size by omega) 0 (.int .i64 0);have lz0:=L6.far (grown_setRow_cell _ w3.heap.size 0 (.int .i64 0)) n4;have tz0:=T6.set w3.heap.size 0 (.int .i64 0)
              have Gz1:=Gz0.set' (i:=1) (u:=.string { data:=#[] }) rfl;have Xz1:=Xz0.far (p:=⟨w3.heap.size,1,none⟩) (by simp;omega) (.string { data:=#[] });have Vz1:=Vz0.far (p:=⟨w3.heap.size,1,none⟩) (by simp;omega) (.string { data:=#[] });have Rz1:=Rz0.far (p:=⟨w3.heap.size,1,none⟩) (by simp;omega) (.string { data:=#[] })
              have qz1:=below_set qz0 (show w.heap.size≤w3.heap.size by omega) 1 (.string { data:=#[] });have lz1:=lz0.far (grown_setRow_cell _ w3.heap.size 1 (.string { data:=#[] })) n4;have tz1:=tz0.set w3.heap.size 1 (.string { data:=#[] })
              have Gz2:=Gz1.set' (i:=2) (u:=.int .i64 0) rfl;have Xz2:=Xz1.far (p:=⟨w3.heap.size,2,none⟩) (by simp;omega) (.int .i64 0);have Vz2:=Vz1.far (p:=⟨w3.heap.size,2,none⟩) (by simp;omega) (.int .i64 0);have Rz2:=Rz1.far (p:=⟨w3.heap.size,2,none⟩) (by simp;omega) (.int .i64 0)
              have qz2:=below_set qz1 (show w.heap.size≤w3.heap.size by omega) 2 (.int .i64 0);have lz2:=lz1.far (grown_setRow_cell _ w3.heap.size 2 (.int .i64 0)) n4;have tz2:=tz1.set w3.heap.size 2 (.int .i64 0)
              have Gz3:=Gz2.set' (i:=3) (u:=.slice none 0 0) rfl;have Xz3:=Xz2.far (p:=⟨w3.heap.size,3,none⟩) (by simp;omega) (.slice none 0 0);have Vz3:=Vz2.far (p:=⟨w3.heap.size,3,none⟩) (by simp;omega) (.slice none 0 0);have Rz3:=Rz2.far (p:=⟨w3.heap.size,3,none⟩) (by simp;omega) (.slice none 0 0)
              have qz3:=below_set qz2 (show w.heap.size≤w3.heap.size by omega) 3 (.slice none 0 0);have lz3:=lz2.far (grown_setRow_cell _ w3.heap.size 3 (.slice none 0 0)) n4;have tz3:=tz2.set w3.heap.size 3 (.slice none 0 0)
              have Gz4:=Gz3.set' (i:=4) (u:=.slice none 0 0) rfl;have Xz4:=Xz3.far (p:=⟨w3.heap.size,4,none⟩) (by simp;omega) (.slice none 0 0);have Vz4:=Vz3.far (p:=⟨w3.heap.size,4,none⟩) (by simp;omega) (.slice none 0 0);have Rz4:=Rz3.far (p:=⟨w3.heap.size,4,none⟩) (by simp;omega) (.slice none 0 0)
              have qz4:=below_set qz3 (show w.heap.size≤w3.heap.size by omega) 4 (.slice none 0 0);have lz4:=lz3.far (grown_setRow_cell _ w3.heap.size 4 (.slice none 0 0)) n4;have tz4:=tz3.set w3.heap.size 4 (.slice none 0 0)
              have Gz5:=Gz4.set' (i:=5) (u:=.slice none 0 0) rfl;have Xz5:=Xz4.far (p:=⟨w3.heap.size,5,none⟩) (by simp;omega) (.slice none 0 0);have Vz5:=Vz4.far (p:=⟨w3.heap.size,5,none⟩) (by simp;omega) (.slice none 0 0);have Rz5:=Rz4.far (p:=⟨w3.heap.size,5,none⟩) (by simp;omega) (.slice none 0 0)
              have qz5:=below_set qz4 (show w.heap.size≤w3.heap.size by omega) 5 (.slice none 0 0);have lz5:=lz4.far (grown_setRow_cell _ w3.heap.size 5 (.slice none 0 0)) n4;have tz5:=tz4.set w3.heap.size 5 (.slice none 0 0)
              generalize ((((((w8.setCell ⟨w3.heap.size,0,none⟩ (Value.int .i64 0)).setCell ⟨w3.heap.size,1,none⟩ (Value.string { data:=#[] })).setCell ⟨w3.heap.size,2,none⟩ (Value.int .i64 0)).setCell ⟨w3.heap.size,3,none⟩ (Value.slice none 0 0)).setCell ⟨w3.heap.size,4,none⟩ (Value.slice none 0 0)).setCell ⟨w3.heap.size,5,none⟩ (Value.slice none 0 0))=wz at Gz5 Xz5 Vz5 Rz5 qz5 lz5 tz5 ⊢
              clear G6 RX6 RV6 RR6 q6 L6 T6 N6 Gz0 Xz0 Vz0 Rz0 qz0 lz0 tz0 Gz1 Xz1 Vz1 Rz1 qz1 lz1 tz1 Gz2 Xz2 Vz2 Rz2 qz2 lz2 tz2 Gz3 Xz3 Vz3 Rz3 qz3 lz3 tz3 Gz4 Xz4 Vz4 Rz4 qz4 lz4 tz4
              have G6:=Gz5;have RX6:=Xz5;have RV6:=Vz5;have RR6:=Rz5;have q6:=qz5;have L6:=lz5;have T6:=tz5
              obtain ⟨zk,hzk⟩:∃ zk:Int,zk=0:=⟨_,rfl⟩
              obtain ⟨zt,hzt⟩:∃ zt:ByteArray,zt={ data:=#[] }:=⟨_,rfl⟩
              obtain ⟨zc,hzc⟩:∃ zc:Int,zc=0:=⟨_,rfl⟩
              obtain ⟨Z1,y1,u1,hZ1⟩:∃ (Z:Option Addr) (y u:Nat),Z=none∧y=0∧u=0:=⟨_,_,_,rfl,rfl,rfl⟩
              obtain ⟨Z2,y2,u2,hZ2⟩:∃ (Z:Option Addr) (y u:Nat),Z=none∧y=0∧u=0:=⟨_,_,_,rfl,rfl,rfl⟩
              obtain ⟨Z3,y3,u3,hZ3⟩:∃ (Z:Option Addr) (y u:Nat),Z=none∧y=0∧u=0:=⟨_,_,_,rfl,rfl,rfl⟩
              have G7:Blk wz w3.heap.size 96 #[.int .i64 zk,.string zt,.int .i64 zc,.slice Z1 y1 u1,.slice Z2 y2 u2,.slice Z3 y3 u3]:=by rw [hzk,hzt,hzc,hZ1.1,hZ1.2.1,hZ1.2.2,hZ2.1,hZ2.2.1,hZ2.2.2,hZ3.1,hZ3.2.1,hZ3.2.2];exact G6
              have N6:VSl wz ⟨zk,zt,zc,[],[],[]⟩ Z1 y1 u1 Z2 y2 u2 Z3 y3 u3:=by rw [hZ1.1,hZ1.2.1,hZ1.2.2,hZ2.1,hZ2.2.1,hZ2.2.2,hZ3.1,hZ3.2.1,hZ3.2.2];exact nil_vsl
              have hv7:D=(⟨zk,zt,zc,[],[],[]⟩,⟨0,rt,rn,rl⟩,0):=by rw [HV.out,hzk,hzt,hzc];rfl
              have hy:y1≤1048576∧y2≤1048576∧y3≤1048576:=by obtain ⟨_,a,_⟩:=hZ1;obtain ⟨_,b,_⟩:=hZ2;obtain ⟨_,c,_⟩:=hZ3;omega
              clear HV hzk hzt hzc hZ1 hZ2 hZ3 G6
              have HV:=hide hv7
              have G6:=G7
              clear hv7 G7
              have hoz:=fun wz (hz:VSl wz ⟨zk,zt,zc,[],[],[]⟩ Z1 y1 u1 Z2 y2 u2 Z3 y3 u3)=>own_any ⟨zk,zt,zc,[],[],[]⟩ Z1 Z2 Z3 y1 u1 y2 u2 y3 u3 wz hz hy.1 hy.2.1 hy.2.2
              have HOZ:=hide hoz
              clear hoz hy
              go_upto_region 24 with fail
              refine wp_region_x (l:=[4,5]) (S:=fun w'=>w'.cell? ⟨w3.heap.size,0,none⟩=some (.int .i64 zk)∧w'.cell? ⟨w3.heap.size,1,none⟩=some (.string zt)∧w'.cell? ⟨w3.heap.size,2,none⟩=some (.int .i64 zc)∧w'.cell? ⟨w3.heap.size,3,none⟩=some (.slice Z1 y1 u1)∧w'.cell? ⟨w3.heap.size,4,none⟩=some (.slice Z2 y2 u2)∧w'.cell? ⟨w3.heap.size,5,none⟩=some (.slice Z3 y3 u3)∧w'.cell? ⟨w5.heap.size,0,none⟩=some (.int .i64 0)∧w'.cell? ⟨w5.heap.size,1,none⟩=some (.string rt)∧w'.cell? ⟨w5.heap.size,2,none⟩=some (.int .i64 rn)∧w'.cell? ⟨w5.heap.size,3,none⟩=some (.slice E4 k4 f4)) (by kernel_rfl) ⟨G6.drew.cell 0,G6.drew.cell 1,G6.drew.cell 2,G6.drew.cell 3,G6.drew.cell 4,G6.drew.cell 5,RX6.drew.cell 0,RX6.drew.cell 1,RX6.drew.cell 2,RX6.drew.cell 3⟩ (fun hS=>?_)
              refine wpAnyX_tq 0 ?_
              refine wpAnyX_tq 2 ?_
              refine wpAnyX_oq 1 fun K hK=>?_
              go_wp2_with fail
              ((with_reducible refine (HOZ.out _ N6.dr).mono ?_);rintro e w7 ⟨F1,p1,g1,F2,p2,g2,F3,p3,g3,rfl,O7,hb7⟩)
              go_wp2_with fail
              have SR7:=G6.drew.below' hb7;have RX7:=RX6.drew.below' hb7;have RV7:=RV6.drew.below' hb7;have RR7:=RR6.drew.below' hb7;have q7:Below w.heap.size w w7:=bstep q6.drew hb7
              have L7:=L6.drew.below hb7;have T7:=(tp_drew T6).bl hb7
              refine hK.out _ _ (Or.inr ⟨SR7.cell 0,SR7.cell 1,SR7.cell 2,SR7.cell 3,SR7.cell 4,SR7.cell 5,RX7.cell 0,RX7.cell 1,RX7.cell 2,RX7.cell 3⟩) (fun hS=>?_)
              replace hS:=hS.resolve_left (by decide)
              clear hK K
              (try clear cRV7 fRV7);have cRV7:=RV7.cell;have fRV7:=RV7.frozen
              refine wpAnyX_oq 3 fun K hK=>?_
              go_wp2_with fail
              have SRck2w0:=SR7.far (p:=⟨w.heap.size+2,0,none⟩) (by first|(simp;done)|(simp;omega)) (.int .i64 zk)
              have SRck2w1:=SRck2w0.far (p:=⟨w.heap.size+2,1,none⟩) (by first|(simp;done)|(simp;omega)) (.string zt)
              have SRck2w2:=SRck2w1.far (p:=⟨w.heap.size+2,2,none⟩) (by first|(simp;done)|(simp;omega)) (.int .i64 zc)
              have SRck2w3:=SRck2w2.far (p:=⟨w.heap.size+2,3,none⟩) (by first|(simp;done)|(simp;omega)) (.slice F1 p1 g1)
              have SRck2w4:=SRck2w3.far (p:=⟨w.heap.size+2,4,none⟩) (by first|(simp;done)|(simp;omega)) (.slice F2 p2 g2)
              have SRck2w5:=SRck2w4.far (p:=⟨w.heap.size+2,5,none⟩) (by first|(simp;done)|(simp;omega)) (.slice F3 p3 g3)
              have RRck2w0:=RX7.far (p:=⟨w.heap.size+2,0,none⟩) (by first|(simp;done)|(simp;omega)) (.int .i64 zk)
              have RRck2w1:=RRck2w0.far (p:=⟨w.heap.size+2,1,none⟩) (by first|(simp;done)|(simp;omega)) (.string zt)
              have RRck2w2:=RRck2w1.far (p:=⟨w.heap.size+2,2,none⟩) (by first|(simp;done)|(simp;omega)) (.int .i64 zc)
              have RRck2w3:=RRck2w2.far (p:=⟨w.heap.size+2,3,none⟩) (by first|(simp;done)|(simp;omega)) (.slice F1 p1 g1)
              have RRck2w4:=RRck2w3.far (p:=⟨w.heap.size+2,4,none⟩) (by first|(simp;done)|(simp;omega)) (.slice F2 p2 g2)
              have RRck2w5:=RRck2w4.far (p:=⟨w.heap.size+2,5,none⟩) (by first|(simp;done)|(simp;omega)) (.slice F3 p3 g3)
              have RFck2w0:=RR7.far (p:=⟨w.heap.size+2,0,none⟩) (by simp) (.int .i64 zk)
              have RFck2w1:=RFck2w0.far (p:=⟨w.heap.size+2,1,none⟩) (by simp) (.string zt)
              have RFck2w2:=RFck2w1.far (p:=⟨w.heap.size+2,2,none⟩) (by simp) (.int .i64 zc)
              have RFck2w3:=RFck2w2.far (p:=⟨w.heap.size+2,3,none⟩) (by simp) (.slice F1 p1 g1)
              have RFck2w4:=RFck2w3.far (p:=⟨w.heap.size+2,4,none⟩) (by simp) (.slice F2 p2 g2)
              have RFck2w5:=RFck2w4.far (p:=⟨w.heap.size+2,5,none⟩) (by simp) (.slice F3 p3 g3)
              refine hK.out _ _ (Or.inr ⟨SRck2w5.cell 0,SRck2w5.cell 1,SRck2w5.cell 2,SRck2w5.cell 3,SRck2w5.cell 4,SRck2w5.cell 5,RRck2w5.cell 0,RRck2w5.cell 1,RRck2w5.cell 2,RRck2w5.cell 3⟩) (fun hS=>?_)
              clear hK K hS
              (try clear cRFck2w5 fRFck2w5);have cRFck2w5:=RFck2w5.cell;have fRFck2w5:=RFck2w5.frozen
              refine wpAnyX_oq 4 fun K hK=>?_
              go_wp2_with fail
              refine hK.out _ _ (Or.inl (by decide)) (fun hS=>?_)
              clear hK K hS
              refine wpAnyX_pq 5 ?_
              refine wpAnyX_done (by kernel_rfl) ?_ _
              obtain ⟨P,V9,R9⟩:=fin_done (w:=w) (v:=⟨zk,zt,zc,[],[],[]⟩) (r:=⟨0,rt,rn,rl⟩) (k:=0) RV7 RR7 O7.sl L7 ⟨own_tp O7.1,own_tp O7.2.1,own_tp O7.2.2,T7⟩ q7 (by omega) (by omega) (own_new O7.2.1 q6.drew.size)
              simp only at P V9 R9
              go_wp2_with fail
              have cV9:=V9.cell;have cR9:=R9.cell
              refine bodyPost_ret (v:=.tuple #[.agg #[.int .i64 zk,.string zt,.int .i64 zc,.slice F1 p1 g1,.slice F2 p2 g2,.slice F3 p3 g3],.agg #[.int .i64 0,.string rt,.int .i64 rn,.slice E4 k4 f4],.int .i64 0]) ?_ rfl (by rw [HV.out];exact P)
              simp [results,Tryz.results132,go_sem,cV9,cR9]
             ·have hs2:((k1:Int)+(k2:Int)+(k3:Int) == 0)=false:=by rw [beq_eq_false_iff_ne];omega
              have hv:D=(⟨ek,et,ec,eps,eis,ess⟩,⟨0,rt,rn,rl⟩,0):=by rw [HD.out];rw [behind,if_neg (by simp),if_neg (by rw [HSZ.out];exact fun hh=>hs hh.2)]
              have HV:=hide hv
              clear hv HD
              go_upto_region 24 with ((go_at_call 111;with_reducible refine (elements_any _ _ _ _ _ _ _ _ _ _ _ _ _ o1 o2 o3).mono ?_);rintro e w8 ⟨rfl,hb8⟩)
              clear cG6 fG6 cRX6 fRX6 hs2
              replace G6:=G6.below' hb8;replace RX6:=RX6.below' hb8;replace RV6:=RV6.below' hb8;replace RR6:=RR6.below' hb8;replace N6:=N6.bl hb8;replace L6:=L6.below hb8;replace T6:=T6.bl hb8;replace q6:=bstep q6 hb8
              refine wp_region_x (l:=[4,5]) (S:=fun w'=>w'.cell? ⟨w3.heap.size,0,none⟩=some (.int .i64 ek)∧w'.cell? ⟨w3.heap.size,1,none⟩=some (.string et)∧w'.cell? ⟨w3.heap.size,2,none⟩=some (.int .i64 ec)∧w'.cell? ⟨w3.heap.size,3,none⟩=some (.slice E1 k1 f1)∧w'.cell? ⟨w3.heap.size,4,none⟩=some (.slice E2 k2 f2)∧w'.cell? ⟨w3.heap.size,5,none⟩=some (.slice E3 k3 f3)∧w'.cell? ⟨w5.heap.size,0,none⟩=some (.int .i64 0)∧w'.cell? ⟨w5.heap.size,1,none⟩=some (.string rt)∧w'.cell? ⟨w5.heap.size,2,none⟩=some (.int .i64 rn)∧w'.cell? ⟨w5.heap.size,3,none⟩=some (.slice E4 k4 f4)) (by kernel_rfl) ⟨G6.drew.cell 0,G6.drew.cell 1,G6.drew.cell 2,G6.drew.cell 3,G6.drew.cell 4,G6.drew.cell 5,RX6.drew.cell 0,RX6.drew.cell 1,RX6.drew.cell 2,RX6.drew.cell 3⟩ (fun hS=>?_)
              refine wpAnyX_tq 0 ?_
              refine wpAnyX_tq 2 ?_
              refine wpAnyX_oq 1 fun K hK=>?_
              go_wp2_with fail
              ((with_reducible refine (HOW2.out _ N6.dr).mono ?_);rintro e w7 ⟨F1,p1,g1,F2,p2,g2,F3,p3,g3,rfl,O7,hb7⟩)
              go_wp2_with fail
              have SR7:=G6.drew.below' hb7;have RX7:=RX6.drew.below' hb7;have RV7:=RV6.drew.below' hb7;have RR7:=RR6.drew.below' hb7;have q7:Below w.heap.size w w7:=bstep q6.drew hb7
              have L7:=L6.drew.below hb7;have T7:=(tp_drew T6).bl hb7
              refine hK.out _ _ (Or.inr ⟨SR7.cell 0,SR7.cell 1,SR7.cell 2,SR7.cell 3,SR7.cell 4,SR7.cell 5,RX7.cell 0,RX7.cell 1,RX7.cell 2,RX7.cell 3⟩) (fun hS=>?_)
              replace hS:=hS.resolve_left (by decide)
              clear hK K
              (try clear cRV7 fRV7);have cRV7:=RV7.cell;have fRV7:=RV7.frozen
              refine wpAnyX_oq 3 fun K hK=>?_
              go_wp2_with fail
              have SRck2y0:=SR7.far (p:=⟨w.heap.size+2,0,none⟩) (by first|(simp;done)|(simp;omega)) (.int .i64 ek)
              have SRck2y1:=SRck2y0.far (p:=⟨w.heap.size+2,1,none⟩) (by first|(simp;done)|(simp;omega)) (.string et)
              have SRck2y2:=SRck2y1.far (p:=⟨w.heap.size+2,2,none⟩) (by first|(simp;done)|(simp;omega)) (.int .i64 ec)
              have SRck2y3:=SRck2y2.far (p:=⟨w.heap.size+2,3,none⟩) (by first|(simp;done)|(simp;omega)) (.slice F1 p1 g1)
              have SRck2y4:=SRck2y3.far (p:=⟨w.heap.size+2,4,none⟩) (by first|(simp;done)|(simp;omega)) (.slice F2 p2 g2)
              have SRck2y5:=SRck2y4.far (p:=⟨w.heap.size+2,5,none⟩) (by first|(simp;done)|(simp;omega)) (.slice F3 p3 g3)
              have RRck2y0:=RX7.far (p:=⟨w.heap.size+2,0,none⟩) (by first|(simp;done)|(simp;omega)) (.int .i64 ek)
              have RRck2y1:=RRck2y0.far (p:=⟨w.heap.size+2,1,none⟩) (by first|(simp;done)|(simp;omega)) (.string et)
              have RRck2y2:=RRck2y1.far (p:=⟨w.heap.size+2,2,none⟩) (by first|(simp;done)|(simp;omega)) (.int .i64 ec)
              have RRck2y3:=RRck2y2.far (p:=⟨w.heap.size+2,3,none⟩) (by first|(simp;done)|(simp;omega)) (.slice F1 p1 g1)
              have RRck2y4:=RRck2y3.far (p:=⟨w.heap.size+2,4,none⟩) (by first|(simp;done)|(simp;omega)) (.slice F2 p2 g2)
              have RRck2y5:=RRck2y4.far (p:=⟨w.heap.size+2,5,none⟩) (by first|(simp;done)|(simp;omega)) (.slice F3 p3 g3)
              have RFck2y0:=RR7.far (p:=⟨w.heap.size+2,0,none⟩) (by simp) (.int .i64 ek)
              have RFck2y1:=RFck2y0.far (p:=⟨w.heap.size+2,1,none⟩) (by simp) (.string et)
              have RFck2y2:=RFck2y1.far (p:=⟨w.heap.size+2,2,none⟩) (by simp) (.int .i64 ec)
              have RFck2y3:=RFck2y2.far (p:=⟨w.heap.size+2,3,none⟩) (by simp) (.slice F1 p1 g1)
              have RFck2y4:=RFck2y3.far (p:=⟨w.heap.size+2,4,none⟩) (by simp) (.slice F2 p2 g2)
              have RFck2y5:=RFck2y4.far (p:=⟨w.heap.size+2,5,none⟩) (by simp) (.slice F3 p3 g3)
              refine hK.out _ _ (Or.inr ⟨SRck2y5.cell 0,SRck2y5.cell 1,SRck2y5.cell 2,SRck2y5.cell 3,SRck2y5.cell 4,SRck2y5.cell 5,RRck2y5.cell 0,RRck2y5.cell 1,RRck2y5.cell 2,RRck2y5.cell 3⟩) (fun hS=>?_)
              clear hK K hS
              (try clear cRFck2y5 fRFck2y5);have cRFck2y5:=RFck2y5.cell;have fRFck2y5:=RFck2y5.frozen
              refine wpAnyX_oq 4 fun K hK=>?_
              go_wp2_with fail
              refine hK.out _ _ (Or.inl (by decide)) (fun hS=>?_)
              clear hK K hS
              refine wpAnyX_pq 5 ?_
              refine wpAnyX_done (by kernel_rfl) ?_ _
              obtain ⟨P,V9,R9⟩:=fin_done (w:=w) (v:=⟨ek,et,ec,eps,eis,ess⟩) (r:=⟨0,rt,rn,rl⟩) (k:=0) RV7 RR7 O7.sl L7 ⟨own_tp O7.1,own_tp O7.2.1,own_tp O7.2.2,T7⟩ q7 (by omega) (by omega) (own_new O7.2.1 q6.drew.size)
              simp only at P V9 R9
              go_wp2_with fail
              have cV9:=V9.cell;have cR9:=R9.cell
              refine bodyPost_ret (v:=.tuple #[.agg #[.int .i64 ek,.string et,.int .i64 ec,.slice F1 p1 g1,.slice F2 p2 g2,.slice F3 p3 g3],.agg #[.int .i64 0,.string rt,.int .i64 rn,.slice E4 k4 f4],.int .i64 0]) ?_ rfl (by rw [HV.out];exact P)
              simp [results,Tryz.results132,go_sem,cV9,cR9]
            ·have h3':¬ 3≤ek:=h3
             have hv:D=(⟨ek,et,ec,eps,eis,ess⟩,⟨0,rt,rn,rl⟩,0):=by rw [HD.out];rw [behind,if_neg (by simp),if_neg (fun hh=>h3 hh.1)]
             have HV:=hide hv
             clear hv HD
             go_upto_region 24 with fail
             clear cG6 fG6 cRX6 fRX6
             go_upto_region 24 with fail
             refine wp_region_x (l:=[4,5]) (S:=fun w'=>w'.cell? ⟨w3.heap.size,0,none⟩=some (.int .i64 ek)∧w'.cell? ⟨w3.heap.size,1,none⟩=some (.string et)∧w'.cell? ⟨w3.heap.size,2,none⟩=some (.int .i64 ec)∧w'.cell? ⟨w3.heap.size,3,none⟩=some (.slice E1 k1 f1)∧w'.cell? ⟨w3.heap.size,4,none⟩=some (.slice E2 k2 f2)∧w'.cell? ⟨w3.heap.size,5,none⟩=some (.slice E3 k3 f3)∧w'.cell? ⟨w5.heap.size,0,none⟩=some (.int .i64 0)∧w'.cell? ⟨w5.heap.size,1,none⟩=some (.string rt)∧w'.cell? ⟨w5.heap.size,2,none⟩=some (.int .i64 rn)∧w'.cell? ⟨w5.heap.size,3,none⟩=some (.slice E4 k4 f4)) (by kernel_rfl) ⟨G6.drew.cell 0,G6.drew.cell 1,G6.drew.cell 2,G6.drew.cell 3,G6.drew.cell 4,G6.drew.cell 5,RX6.drew.cell 0,RX6.drew.cell 1,RX6.drew.cell 2,RX6.drew.cell 3⟩ (fun hS=>?_)
             refine wpAnyX_tq 0 ?_
             refine wpAnyX_tq 2 ?_
             refine wpAnyX_oq 1 fun K hK=>?_
             go_wp2_with fail
             ((with_reducible refine (HOW2.out _ N6.dr).mono ?_);rintro e w7 ⟨F1,p1,g1,F2,p2,g2,F3,p3,g3,rfl,O7,hb7⟩)
             go_wp2_with fail
             have SR7:=G6.drew.below' hb7;have RX7:=RX6.drew.below' hb7;have RV7:=RV6.drew.below' hb7;have RR7:=RR6.drew.below' hb7;have q7:Below w.heap.size w w7:=bstep q6.drew hb7
             have L7:=L6.drew.below hb7;have T7:=(tp_drew T6).bl hb7
             refine hK.out _ _ (Or.inr ⟨SR7.cell 0,SR7.cell 1,SR7.cell 2,SR7.cell 3,SR7.cell 4,SR7.cell 5,RX7.cell 0,RX7.cell 1,RX7.cell 2,RX7.cell 3⟩) (fun hS=>?_)
             replace hS:=hS.resolve_left (by decide)
             clear hK K
             (try clear cRV7 fRV7);have cRV7:=RV7.cell;have fRV7:=RV7.frozen
             refine wpAnyX_oq 3 fun K hK=>?_
             go_wp2_with fail
             have SRck2z0:=SR7.far (p:=⟨w.heap.size+2,0,none⟩) (by first|(simp;done)|(simp;omega)) (.int .i64 ek)
             have SRck2z1:=SRck2z0.far (p:=⟨w.heap.size+2,1,none⟩) (by first|(simp;done)|(simp;omega)) (.string et)
             have SRck2z2:=SRck2z1.far (p:=⟨w.heap.size+2,2,none⟩) (by first|(simp;done)|(simp;omega)) (.int .i64 ec)
             have SRck2z3:=SRck2z2.far (p:=⟨w.heap.size+2,3,none⟩) (by first|(simp;done)|(simp;omega)) (.slice F1 p1 g1)
             have SRck2z4:=SRck2z3.far (p:=⟨w.heap.size+2,4,none⟩) (by first|(simp;done)|(simp;omega)) (.slice F2 p2 g2)
             have SRck2z5:=SRck2z4.far (p:=⟨w.heap.size+2,5,none⟩) (by first|(simp;done)|(simp;omega)) (.slice F3 p3 g3)
             have RRck2z0:=RX7.far (p:=⟨w.heap.size+2,0,none⟩) (by first|(simp;done)|(simp;omega)) (.int .i64 ek)
             have RRck2z1:=RRck2z0.far (p:=⟨w.heap.size+2,1,none⟩) (by first|(simp;done)|(simp;omega)) (.string et)
             have RRck2z2:=RRck2z1.far (p:=⟨w.heap.size+2,2,none⟩) (by first|(simp;done)|(simp;omega)) (.int .i64 ec)
             have RRck2z3:=RRck2z2.far (p:=⟨w.heap.size+2,3,none⟩) (by first|(simp;done)|(simp;omega)) (.slice F1 p1 g1)
             have RRck2z4:=RRck2z3.far (p:=⟨w.heap.size+2,4,none⟩) (by first|(simp;done)|(simp;omega)) (.slice F2 p2 g2)
             have RRck2z5:=RRck2z4.far (p:=⟨w.heap.size+2,5,none⟩) (by first|(simp;done)|(simp;omega)) (.slice F3 p3 g3)
             have RFck2z0:=RR7.far (p:=⟨w.heap.size+2,0,none⟩) (by simp) (.int .i64 ek)
             have RFck2z1:=RFck2z0.far (p:=⟨w.heap.size+2,1,none⟩) (by simp) (.string et)
             have RFck2z2:=RFck2z1.far (p:=⟨w.heap.size+2,2,none⟩) (by simp) (.int .i64 ec)
             have RFck2z3:=RFck2z2.far (p:=⟨w.heap.size+2,3,none⟩) (by simp) (.slice F1 p1 g1)
             have RFck2z4:=RFck2z3.far (p:=⟨w.heap.size+2,4,none⟩) (by simp) (.slice F2 p2 g2)
             have RFck2z5:=RFck2z4.far (p:=⟨w.heap.size+2,5,none⟩) (by simp) (.slice F3 p3 g3)
             refine hK.out _ _ (Or.inr ⟨SRck2z5.cell 0,SRck2z5.cell 1,SRck2z5.cell 2,SRck2z5.cell 3,SRck2z5.cell 4,SRck2z5.cell 5,RRck2z5.cell 0,RRck2z5.cell 1,RRck2z5.cell 2,RRck2z5.cell 3⟩) (fun hS=>?_)
             clear hK K hS
             (try clear cRFck2z5 fRFck2z5);have cRFck2z5:=RFck2z5.cell;have fRFck2z5:=RFck2z5.frozen
             refine wpAnyX_oq 4 fun K hK=>?_
             go_wp2_with fail
             refine hK.out _ _ (Or.inl (by decide)) (fun hS=>?_)
             clear hK K hS
             refine wpAnyX_pq 5 ?_
             refine wpAnyX_done (by kernel_rfl) ?_ _
             obtain ⟨P,V9,R9⟩:=fin_done (w:=w) (v:=⟨ek,et,ec,eps,eis,ess⟩) (r:=⟨0,rt,rn,rl⟩) (k:=0) RV7 RR7 O7.sl L7 ⟨own_tp O7.1,own_tp O7.2.1,own_tp O7.2.2,T7⟩ q7 (by omega) (by omega) (own_new O7.2.1 q6.drew.size)
             simp only at P V9 R9
             go_wp2_with fail
             have cV9:=V9.cell;have cR9:=R9.cell
             refine bodyPost_ret (v:=.tuple #[.agg #[.int .i64 ek,.string et,.int .i64 ec,.slice F1 p1 g1,.slice F2 p2 g2,.slice F3 p3 g3],.agg #[.int .i64 0,.string rt,.int .i64 rn,.slice E4 k4 f4],.int .i64 0]) ?_ rfl (by rw [HV.out];exact P)
             simp [results,Tryz.results132,go_sem,cV9,cR9]
           ·have hrb:(rc != 0)=true:=by simpa using hrc
            have hv:D=(⟨vk,vt,vc,ps,is_,ss⟩,⟨rc,rt,rn,rl⟩,0):=by rw [HD.out];rw [behind,if_pos hrc]
            have HV:=hide hv
            clear hv HD
            go_upto_region 21 with fail
            refine wp_region_x (l:=[4,5]) (S:=fun w'=>w'.cell? ⟨w.heap.size,0,none⟩=some (.int .i64 vk)∧w'.cell? ⟨w.heap.size,1,none⟩=some (.string vt)∧w'.cell? ⟨w.heap.size,2,none⟩=some (.int .i64 vc)∧w'.cell? ⟨w.heap.size,3,none⟩=some (.slice A1 n1 c1)∧w'.cell? ⟨w.heap.size,4,none⟩=some (.slice A2 n2 c2)∧w'.cell? ⟨w.heap.size,5,none⟩=some (.slice A3 n3 c3)∧w'.cell? ⟨w5.heap.size,0,none⟩=some (.int .i64 rc)∧w'.cell? ⟨w5.heap.size,1,none⟩=some (.string rt)∧w'.cell? ⟨w5.heap.size,2,none⟩=some (.int .i64 rn)∧w'.cell? ⟨w5.heap.size,3,none⟩=some (.slice E4 k4 f4)) (by kernel_rfl) ⟨V6.drew.cell 0,V6.drew.cell 1,V6.drew.cell 2,V6.drew.cell 3,V6.drew.cell 4,V6.drew.cell 5,RX6.drew.cell 0,RX6.drew.cell 1,RX6.drew.cell 2,RX6.drew.cell 3⟩ (fun hS=>?_)
            refine wpAnyX_tq 0 ?_
            refine wpAnyX_tq 2 ?_
            refine wpAnyX_oq 1 fun K hK=>?_
            go_wp2_with fail
            ((with_reducible refine (HOW.out _ NV6.dr).mono ?_);rintro e w7 ⟨F1,p1,g1,F2,p2,g2,F3,p3,g3,rfl,O7,hb7⟩)
            go_wp2_with fail
            have SR7:=V6.drew.below' hb7;have RX7:=RX6.drew.below' hb7;have RV7:=RV6.drew.below' hb7;have RR7:=RR6.drew.below' hb7;have q7:Below w.heap.size w w7:=bstep q6.drew hb7
            have L7:=L6.drew.below hb7;have T7:=(tp_drew T6).bl hb7
            refine hK.out _ _ (Or.inr ⟨SR7.cell 0,SR7.cell 1,SR7.cell 2,SR7.cell 3,SR7.cell 4,SR7.cell 5,RX7.cell 0,RX7.cell 1,RX7.cell 2,RX7.cell 3⟩) (fun hS=>?_)
            replace hS:=hS.resolve_left (by decide)
            clear hK K
            (try clear cRV7 fRV7);have cRV7:=RV7.cell;have fRV7:=RV7.frozen
            refine wpAnyX_oq 3 fun K hK=>?_
            go_wp2_with fail
            have SRck2x0:=SR7.far (p:=⟨w.heap.size+2,0,none⟩) (by first|(simp;done)|(simp;omega)) (.int .i64 vk)
            have SRck2x1:=SRck2x0.far (p:=⟨w.heap.size+2,1,none⟩) (by first|(simp;done)|(simp;omega)) (.string vt)
            have SRck2x2:=SRck2x1.far (p:=⟨w.heap.size+2,2,none⟩) (by first|(simp;done)|(simp;omega)) (.int .i64 vc)
            have SRck2x3:=SRck2x2.far (p:=⟨w.heap.size+2,3,none⟩) (by first|(simp;done)|(simp;omega)) (.slice F1 p1 g1)
            have SRck2x4:=SRck2x3.far (p:=⟨w.heap.size+2,4,none⟩) (by first|(simp;done)|(simp;omega)) (.slice F2 p2 g2)
            have SRck2x5:=SRck2x4.far (p:=⟨w.heap.size+2,5,none⟩) (by first|(simp;done)|(simp;omega)) (.slice F3 p3 g3)
            have RRck2x0:=RX7.far (p:=⟨w.heap.size+2,0,none⟩) (by first|(simp;done)|(simp;omega)) (.int .i64 vk)
            have RRck2x1:=RRck2x0.far (p:=⟨w.heap.size+2,1,none⟩) (by first|(simp;done)|(simp;omega)) (.string vt)
            have RRck2x2:=RRck2x1.far (p:=⟨w.heap.size+2,2,none⟩) (by first|(simp;done)|(simp;omega)) (.int .i64 vc)
            have RRck2x3:=RRck2x2.far (p:=⟨w.heap.size+2,3,none⟩) (by first|(simp;done)|(simp;omega)) (.slice F1 p1 g1)
            have RRck2x4:=RRck2x3.far (p:=⟨w.heap.size+2,4,none⟩) (by first|(simp;done)|(simp;omega)) (.slice F2 p2 g2)
            have RRck2x5:=RRck2x4.far (p:=⟨w.heap.size+2,5,none⟩) (by first|(simp;done)|(simp;omega)) (.slice F3 p3 g3)
            have RFck2x0:=RR7.far (p:=⟨w.heap.size+2,0,none⟩) (by simp) (.int .i64 vk)
            have RFck2x1:=RFck2x0.far (p:=⟨w.heap.size+2,1,none⟩) (by simp) (.string vt)
            have RFck2x2:=RFck2x1.far (p:=⟨w.heap.size+2,2,none⟩) (by simp) (.int .i64 vc)
            have RFck2x3:=RFck2x2.far (p:=⟨w.heap.size+2,3,none⟩) (by simp) (.slice F1 p1 g1)
            have RFck2x4:=RFck2x3.far (p:=⟨w.heap.size+2,4,none⟩) (by simp) (.slice F2 p2 g2)
            have RFck2x5:=RFck2x4.far (p:=⟨w.heap.size+2,5,none⟩) (by simp) (.slice F3 p3 g3)
            refine hK.out _ _ (Or.inr ⟨SRck2x5.cell 0,SRck2x5.cell 1,SRck2x5.cell 2,SRck2x5.cell 3,SRck2x5.cell 4,SRck2x5.cell 5,RRck2x5.cell 0,RRck2x5.cell 1,RRck2x5.cell 2,RRck2x5.cell 3⟩) (fun hS=>?_)
            clear hK K hS
            (try clear cRFck2x5 fRFck2x5);have cRFck2x5:=RFck2x5.cell;have fRFck2x5:=RFck2x5.frozen
            refine wpAnyX_oq 4 fun K hK=>?_
            go_wp2_with fail
            refine hK.out _ _ (Or.inl (by decide)) (fun hS=>?_)
            clear hK K hS
            refine wpAnyX_pq 5 ?_
            refine wpAnyX_done (by kernel_rfl) ?_ _
            obtain ⟨P,V9,R9⟩:=fin_done (w:=w) (v:=⟨vk,vt,vc,ps,is_,ss⟩) (r:=⟨rc,rt,rn,rl⟩) (k:=0) RV7 RR7 O7.sl L7 ⟨own_tp O7.1,own_tp O7.2.1,own_tp O7.2.2,T7⟩ q7 (by omega) (by omega) (own_new O7.2.1 q6.drew.size)
            simp only at P V9 R9
            go_wp2_with fail
            have cV9:=V9.cell;have cR9:=R9.cell
            refine bodyPost_ret (v:=.tuple #[.agg #[.int .i64 vk,.string vt,.int .i64 vc,.slice F1 p1 g1,.slice F2 p2 g2,.slice F3 p3 g3],.agg #[.int .i64 rc,.string rt,.int .i64 rn,.slice E4 k4 f4],.int .i64 0]) ?_ rfl (by rw [HV.out];exact P)
            simp [results,Tryz.results132,go_sem,cV9,cR9]
    ·have hcb:(cc != 0)=true:=by simpa using hc0
     have hv:D=(zeroVa,zeroRe,cc):=by rw [HD.out];rw [if_neg HBAD.out,if_pos hc0]
     have HV:=hide hv
     clear hv HD
     clear hc0
     obtain ⟨P,V9,R9⟩:=fin_done (w:=w) (v:=⟨0,{ data:=#[] },0,[],[],[]⟩) (r:=⟨0,{ data:=#[] },0,[]⟩) (k:=cc) RV2 RR2 nil_vsl nil_sl nil_tp q2 (by omega) (by omega) nil_new
     simp only at P V9 R9
     (try clear cRV2 fRV2);have cRV2:=RV2.cell;have fRV2:=RV2.frozen;(try clear cRR2 fRR2);have cRR2:=RR2.cell;have fRR2:=RR2.frozen
     go_wp2_with fail
     have cV9:=V9.cell;have cR9:=R9.cell
     refine bodyPost_ret (v:=.tuple #[.agg #[.int .i64 0,.string { data:=#[] },.int .i64 0,.slice none 0 0,.slice none 0 0,.slice none 0 0],.agg #[.int .i64 0,.string { data:=#[] },.int .i64 0,.slice none 0 0],.int .i64 cc]) ?_ rfl (by rw [HV.out];exact P)
     simp [results,Tryz.results132,go_sem,cV9,cR9]
theorem Do_any (v:Va) (c:Cmd) (A1 A2 A3:Option Addr) (n1 c1 n2 c2 n3 c3:Nat) (w:World) (h:VSl w v A1 n1 c1 A2 n2 c2 A3 n3 c3) (l1:n1≤1048576) (l2:n2≤1048576) (l3:n3≤1048576) :
  Calls Tryz.prog 132 #[.agg #[.int .i64 v.kind,.string v.text,.int .i64 v.count,.slice A1 n1 c1,.slice A2 n2 c2,.slice A3 n3 c3],.agg #[.int .i64 c.kind,.string c.key,.string c.field,.string c.text,.int .i64 c.n]] w (DonePost (doneVal v c) w):=
 (Do_new v c A1 A2 A3 n1 c1 n2 c2 n3 c3 w h l1 l2 l3).mono fun _ _ h=>h.done
end Go.Proofs.YtgmojjclobkpjaaGreatDoor

