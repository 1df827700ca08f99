import Derived.Test.YtgmojjclobkpjaaGreatDoorQHold
namespace Go.Proofs.YtgmojjclobkpjaaGreatDoor
set_option linter.all false
set_option maxHeartbeats 32000000
open Go.RowKit
attribute [local go_sem ↓] Go.wp_at_zero Go.wp_at_succ
def textHas (f:ByteArray) (l:List ByteArray):Bool:=foundAt l (textAt f l) fun y=>cmpB y f == 0
def doSet (v:Va) (c:Cmd):Va×Re:=
 if c.kind=11 then
  (if textHas c.text v.items=true then (v,toldR 0)
   else if v.items.length=20 then (v,failR 6) else ({ v with items:=insRows v.items (textAt c.text v.items) c.text },toldR 1))
 else if c.kind=12 then (if textHas c.text v.items=true then ({ v with items:=delRows v.items (textAt c.text v.items) },toldR 1) else (v,toldR 0))
 else (v,toldR (flagI (textHas c.text v.items)))
theorem textHas_lt {f:ByteArray} {l:List ByteArray} (h:textHas f l=true):textAt f l<l.length:=by
 rcases Nat.lt_or_ge (textAt f l) l.length with h'|h'
 ·exact h'
 ·unfold textHas at h;rw [foundAt_ge h'] at h;cases h
set_option maxRecDepth 100000 in
theorem set_any (v:Va) (c:Cmd) (B g:Nat) (A1 A2 A3:Option Addr) (n1 c1 n2 c2 n3 c3:Nat) (w:World) (hG:Blk w g 96 #[.int .i64 v.kind,.string v.text,.int .i64 v.count,.slice A1 n1 c1,.slice A2 n2 c2,.slice A3 n3 c3])
  (hN:VNew w B v (.slice A1 n1 c1) (.slice A2 n2 c2) (.slice A3 n3 c3)) (hg:B≤g) (hBw:B≤w.heap.size) (hn:n2≤20) (hr:risesBy cmpB v.items=true) (hk:c.kind=11∨c.kind=12∨c.kind=13) :
  Calls Tryz.prog 157 #[.pointer (some ⟨g,0,none⟩),.agg #[.int .i64 c.kind,.string c.key,.string c.field,.string c.text,.int .i64 c.n]] w (DoPost (doSet v c).1 (doSet v c).2 B g w):=by
 have hlen:v.items.length=n2:=hN.sl.n2_
 obtain ⟨D,hD⟩:∃ D,D=doSet v c:=⟨_,rfl⟩
 rw [←hD]
 obtain ⟨kind,key,field,text,n⟩:=c
 obtain ⟨vk,vt,vc,ps,is_,ss⟩:=v
 simp only at hlen hG hN hr hk ⊢
 have hbin:=fun wz (hz:Below w.heap.size w wz)=>Bin_str A2 n2 c2 (textAt text is_) is_ text wz hlen (by omega) (hN.2.1.sl'.below hz).seg (lowB_le _ _) text_h1 (text_h2 hr)
 have hb0:(foundAt is_ (textAt text is_) fun y=>cmpB y text == 0)=textHas text is_:=rfl
 simp only [hb0] at hbin
 have heq:=@textHas_lt text is_
 have hple:=lowB_le (fun y:ByteArray=>decide (cmpB y text<0)) is_
 have hple:textAt text is_≤is_.length:=hple
 unfold doSet at hD
 simp only at hD
 generalize hix:textAt text is_=ix at *
 generalize textHas text is_=has at *
 have HD:=hide hD;have HB:=hide hbin;have HL:=hide hlen;have HQ:=hide heq
 clear hD hbin hb0 hlen heq hix
 have hgl:=hG.lt
 have hG1:=hG.alloc (.cells #[.int .i64 kind,.string key,.string field,.string text,.int .i64 n] 31)
 have hC1:=Blk.new w 31 #[.int .i64 kind,.string key,.string field,.string text,.int .i64 n]
 have hC1':=hC1.alloc (.cells #[.int .i64 0,.string { data:=#[] },.int .i64 0,.slice none 0 0] 102)
 have hG1':=hG1.alloc (.cells #[.int .i64 0,.string { data:=#[] },.int .i64 0,.slice none 0 0] 102)
 have hN1:=(hN.al (.cells #[.int .i64 kind,.string key,.string field,.string text,.int .i64 n] 31)).al (.cells #[.int .i64 0,.string { data:=#[] },.int .i64 0,.slice none 0 0] 102)
 have q1:Below w.heap.size w ((w.alloc (.cells #[.int .i64 kind,.string key,.string field,.string text,.int .i64 n] 31)).alloc (.cells #[.int .i64 0,.string { data:=#[] },.int .i64 0,.slice none 0 0] 102)):=below_by
 have hR1:Blk ((w.alloc (.cells #[.int .i64 kind,.string key,.string field,.string text,.int .i64 n] 31)).alloc (.cells #[.int .i64 0,.string { data:=#[] },.int .i64 0,.slice none 0 0] 102)) (w.heap.size+1) 102 #[.int .i64 0,.string { data:=#[] },.int .i64 0,.slice none 0 0]:=Blk.new' _ _ _ (by simp)
 (try clear chG1' fhG1');have chG1':=hG1'.cell;have fhG1':=hG1'.frozen;(try clear chC1' fhC1');have chC1':=hC1'.cell;have fhC1':=hC1'.frozen
 go_enter Tryz.func157,Tryz.ntmps157
 go_upto_region 1 with fail
 go_cut [5,6] (fun s t wx=>s = .int .i64 (ix:Int)∧t = .bool has∧Blk wx g 96 #[.int .i64 vk,.string vt,.int .i64 vc,.slice A1 n1 c1,.slice A2 n2 c2,.slice A3 n3 c3]∧Blk wx w.heap.size 31 #[.int .i64 kind,.string key,.string field,.string text,.int .i64 n] ∧
  Blk wx (w.heap.size+1) 102 #[.int .i64 0,.string { data:=#[] },.int .i64 0,.slice none 0 0]∧VNew wx B ⟨vk,vt,vc,ps,is_,ss⟩ (.slice A1 n1 c1) (.slice A2 n2 c2) (.slice A3 n3 c3)∧Below w.heap.size w wx)
 case first=>
  go_region_held3 (fun w'=>w'.cell? ⟨g,4,none⟩=some (.slice A2 n2 c2)∧w'.cell? ⟨w.heap.size,3,none⟩=some (.string text)) (exact ⟨hG1'.cell 4,hC1'.cell 3⟩)
   (first|((go_at_call 166;with_reducible refine (HB.out _ ?_).mono ?_);(focus exact below_by);rintro e w1 ⟨rfl,rfl⟩))
  go_wp2_with fail
  go_meet
  exact ⟨rfl,rfl,hG1'.drew,hC1'.drew,hR1.drew,hN1.dr,below_by⟩
 case rest=>
  obtain ⟨rfl,rfl,G,C,R,N,q⟩:=hcut
  clear hN1 hG1' hC1' q1 hR1 hG1 hC1 hG hN hr HB chG1' fhG1' chC1' fhC1'
  have hBc:B≤wc.heap.size:=by have:=q.size;omega
  have hgw:g<wc.heap.size:=G.lt
  have hww:w.heap.size<wc.heap.size:=C.lt
  rcases hk with rfl|rfl|rfl
  ·cases has with
   | true=>
    have hv:D=(⟨vk,vt,vc,ps,is_,ss⟩,toldR 0):=by rw [HD.out];simp [*]
    have HV:=hide hv
    clear HD hv HQ
    clear hple
    (try clear cG fG);have cG:=G.cell;have fG:=G.frozen;(try clear cC fC);have cC:=C.cell;have fC:=C.frozen
    go_wp2_with fail
    refine (told_any 0 _).mono ?_
    rintro e w9 ⟨rfl,hb9⟩
    have R9:=(R).below' hb9
    (try clear cR9 fR9);have cR9:=R9.cell;have fR9:=R9.frozen
    obtain ⟨P,R6⟩:=re_done (k0:=0) (t0:=emp) (m0:=0) ((G).below' hb9) R9 ((N).bl hb9) (mov_post (Mov.of q hBw) (by have:=((Mov.of q hBw)).size;omega) hb9) (by omega) (by omega) (by omega)
    go_wp2_with fail
    have cR6:=R6.cell
    refine bodyPost_ret (v:=.agg #[.int .i64 0,.string emp,.int .i64 0,.slice none 0 0]) ?_ rfl (by rw [HV.out];exact P)
    simp [results,Tryz.results157,go_sem,cR6]
   | false=>
    have hixn:ix≤n2:=by rw [←HL.out];exact hple
    clear hple
    by_cases h20:n2=20
    ·have h20':is_.length=20:=by rw [HL.out];exact h20
     have hv:D=(⟨vk,vt,vc,ps,is_,ss⟩,failR 6):=by rw [HD.out];simp [*]
     have HV:=hide hv
     clear HD hv HQ
     clear h20'
     subst h20
     (try clear cG fG);have cG:=G.cell;have fG:=G.frozen;(try clear cC fC);have cC:=C.cell;have fC:=C.frozen
     go_wp2_with fail
     refine (failed_any 6 _).mono ?_
     rintro e w9 ⟨rfl,hb9⟩
     have R9:=(R).below' hb9
     (try clear cR9 fR9);have cR9:=R9.cell;have fR9:=R9.frozen
     obtain ⟨P,R6⟩:=re_done (k0:=6) (t0:=emp) (m0:=0) ((G).below' hb9) R9 ((N).bl hb9) (mov_post (Mov.of q hBw) (by have:=((Mov.of q hBw)).size;omega) hb9) (by omega) (by omega) (by omega)
     go_wp2_with fail
     have cR6:=R6.cell
     refine bodyPost_ret (v:=.agg #[.int .i64 6,.string emp,.int .i64 0,.slice none 0 0]) ?_ rfl (by rw [HV.out];exact P)
     simp [results,Tryz.results157,go_sem,cR6]
    ·have h20':¬ is_.length=20:=by rw [HL.out];exact h20
     have hv:D=(⟨vk,vt,vc,ps,insRows is_ ix text,ss⟩,toldR 1):=by rw [HD.out];simp [*]
     have HV:=hide hv
     clear HD hv HQ
     have h20b:((n2:Int) == 20)=false:=by rw [beq_eq_false_iff_ne];omega
     clear h20 h20'
     (try clear cG fG);have cG:=G.cell;have fG:=G.frozen;(try clear cC fC);have cC:=C.cell;have fC:=C.frozen
     go_wp2_with fail
     have G1:=G.drew;have C1:=C.drew
     refine wp_region_x (l:=[12]) (S:=fun w'=>w'.cell? ⟨g,4,none⟩=some (.slice A2 n2 c2)∧w'.cell? ⟨w.heap.size,3,none⟩=some (.string text)) (by kernel_rfl) ⟨G1.cell 4,C1.cell 3⟩ (fun hS=>?_)
     refine wpAnyX_tq 0 ?_
     refine wpAnyX_tq 1 ?_
     refine wpAnyX_tq 2 ?_
     refine wpAnyX_tq 3 ?_
     refine wpAnyX_tq 4 ?_
     refine wpAnyX_tq 5 ?_
     refine wpAnyX_tq 6 ?_
     refine wpAnyX_tq 7 ?_
     refine wpAnyX_oq 8 fun K hK=>?_
     go_wp2_with fail
     have G2:=(G.alloc (.cells #[.string text] 9)).drew;have C2:=(C.alloc (.cells #[.string text] 9)).drew;have R2:=(R.alloc (.cells #[.string text] 9)).drew;have N2:=(N.al (.cells #[.string text] 9)).dr
     have X2:Blk (wc.alloc (.cells #[.string text] 9)).drew wc.heap.size 9 #[.string text]:=Blk.new _ _ _
     have q2:Mov B w (wc.alloc (.cells #[.string text] 9)).drew:=((Mov.of q hBw).alloc hBc _).drew
     have hwl:(wc.alloc (.cells #[.string text] 9)).drew.heap.size=wc.heap.size+1:=by simp
     have HWL:=hide hwl
     clear hwl
     have hone:∀ u∈(#[Value.string text]:Array Value).toList,u.oneCell'=true:=by intro u hu;simp at hu;subst hu;rfl
     refine hK.out _ _ (Or.inr ⟨G2.cell 4,C2.cell 3⟩) (fun hS=>?_)
     replace hS:=hS.resolve_left (by decide)
     clear hK K G1 C1
     have N2p:=N2.2.1
     refine wpAnyX_oq 9 fun K hK=>?_
     go_wp2_with fail
     ((with_reducible refine (Insert_text A2 n2 c2 B ix wc.heap.size (strRows is_) #[.string text] _ N2p (str_one _) hixn (by omega) X2 rfl hone ?hbv (by rw [HWL.out];omega)).mono ?_)
      case hbv=>
       intro e
       obtain ⟨cur,hcur⟩:=own_typed N.2.1 e.symm
       have:wc.heap.size<wc.heap.size:=(Array.getElem?_eq_some_iff.1 hcur).1
       omega
      rintro e w3 ⟨A',n',c',rfl,o3,g3⟩)
     go_wp2_with fail
     have hwB:B≤(wc.alloc (.cells #[.string text] 9)).drew.heap.size:=by rw [HWL.out];omega
     have G3:=blk_other G2 N2p g3;have C3:=blk_other C2 N2p g3;have R3:=blk_other R2 N2p g3
     have q3:=q2.trans (mov_grown N2p g3 hwB)
     have N3:VNew w3 B ⟨vk,vt,vc,ps,insRows is_ ix text,ss⟩ (.slice A1 n1 c1) (.slice A' n' c') (.slice A3 n3 c3):=⟨own_other N2.1 N2p g3,by have:=o3;simp only [insRows,strRows,List.map_append,List.map_take,List.map_drop] at this ⊢;exact this,own_other N2.2.2 N2p g3⟩
     refine hK.out _ _ (Or.inr ⟨G3.cell 4,C3.cell 3⟩) (fun hS=>?_)
     replace hS:=hS.resolve_left (by decide)
     clear hK K G2 C2 R2 N2 q2 X2 o3 g3
     (try clear cG3 fG3);have cG3:=G3.cell;have fG3:=G3.frozen
     refine wpAnyX_ps 10 ?_
     refine wpAnyX_ps 11 ?_
     refine wpAnyX_oq 12 fun K hK=>?_
     go_wp2_with fail
     have G4:=G3.set' (i:=4) (u:=.slice A' n' c') rfl
     have R4:=R3.far (p:=⟨g,4,none⟩) (by simp;omega) (.slice A' n' c')
     have N4:=N3.st' G3 4 (.slice A' n' c')
     have q4:=q3.setV G3 hg 4 (.slice A' n' c')
     refine hK.out _ _ (Or.inl (by decide)) (fun hS=>?_)
     clear hK K hS G3 R3 N3 q3 cG3 fG3 cG fG cC fC
     refine wpAnyX_done (by kernel_rfl) ?_ _
     go_wp2_with fail
     refine (told_any 1 _).mono ?_
     rintro e w9 ⟨rfl,hb9⟩
     have R9:=(R4).below' hb9
     (try clear cR9 fR9);have cR9:=R9.cell;have fR9:=R9.frozen
     obtain ⟨P,R6⟩:=re_done (k0:=0) (t0:=emp) (m0:=1) ((G4).below' hb9) R9 ((N4).bl hb9) (mov_post q4 (by have:=(q4).size;omega) hb9) (by omega) (by omega) (by omega)
     go_wp2_with fail
     have cR6:=R6.cell
     refine bodyPost_ret (v:=.agg #[.int .i64 0,.string emp,.int .i64 1,.slice none 0 0]) ?_ rfl (by rw [HV.out];exact P)
     simp [results,Tryz.results157,go_sem,cR6]
  ·cases has with
   | true=>
    have hixl:=HQ.out rfl
    have hv:D=(⟨vk,vt,vc,ps,delRows is_ ix,ss⟩,toldR 1):=by rw [HD.out];simp [*]
    have HV:=hide hv
    clear HD hv HQ
    clear hple
    have Np:=N.2.1
    have hin:ix<n2:=by have:=HL.out;omega
    have hwi:IntKind.i64.wrap ((ix:Int)+1)=(ix:Int)+1:=IntWalk.i64_in _ (by omega)
    (try clear cG fG);have cG:=G.cell;have fG:=G.frozen;(try clear cC fC);have cC:=C.cell;have fC:=C.frozen
    clear hixl
    go_wp2_with fail
    ((with_reducible refine (Delete_text A2 n2 c2 B ix (strRows is_) _ Np (str_one _) hin (by omega)).mono ?_);rintro e w3 ⟨A',n',c',rfl,o3,g3⟩)
    have G3:=blk_other G Np g3;have R3:=blk_other R Np g3
    have q3:=(Mov.of q hBw).trans (mov_grown Np g3 hBc)
    have N3:VNew w3 B ⟨vk,vt,vc,ps,delRows is_ ix,ss⟩ (.slice A1 n1 c1) (.slice A' n' c') (.slice A3 n3 c3):=⟨own_other N.1 Np g3,by have:=o3;simp only [delRows,strRows,List.map_append,List.map_take,List.map_drop] at this ⊢;exact this,own_other N.2.2 Np g3⟩
    clear cG fG cC fC o3 g3
    (try clear cG3 fG3);have cG3:=G3.cell;have fG3:=G3.frozen
    go_wp2_with fail
    have G4:=G3.set' (i:=4) (u:=.slice A' n' c') rfl
    have R4:=R3.far (p:=⟨g,4,none⟩) (by simp;omega) (.slice A' n' c')
    have N4:=N3.st' G3 4 (.slice A' n' c')
    have q4:=q3.setV G3 hg 4 (.slice A' n' c')
    clear cG3 fG3
    refine (flag_any true _).mono ?_
    rintro e w' ⟨rfl,rfl⟩
    go_wp2_with fail
    refine (told_any (flagI true) _).mono ?_
    rintro e w9 ⟨rfl,hb9⟩
    have R9:=(R4).below' hb9
    (try clear cR9 fR9);have cR9:=R9.cell;have fR9:=R9.frozen
    obtain ⟨P,R6⟩:=re_done (k0:=0) (t0:=emp) (m0:=(flagI true)) ((G4).below' hb9) R9 ((N4).bl hb9) (mov_post q4 (by have:=(q4).size;omega) hb9) (by omega) (by omega) (by omega)
    go_wp2_with fail
    have cR6:=R6.cell
    refine bodyPost_ret (v:=.agg #[.int .i64 0,.string emp,.int .i64 (flagI true),.slice none 0 0]) ?_ rfl (by rw [HV.out];exact P)
    simp [results,Tryz.results157,go_sem,cR6]
   | false=>
    have hv:D=(⟨vk,vt,vc,ps,is_,ss⟩,toldR 0):=by rw [HD.out];simp [*]
    have HV:=hide hv
    clear HD hv HQ
    clear hple
    (try clear cG fG);have cG:=G.cell;have fG:=G.frozen;(try clear cC fC);have cC:=C.cell;have fC:=C.frozen
    go_wp2_with fail
    refine (flag_any false _).mono ?_
    rintro e w' ⟨rfl,rfl⟩
    go_wp2_with fail
    refine (told_any (flagI false) _).mono ?_
    rintro e w9 ⟨rfl,hb9⟩
    have R9:=(R).below' hb9
    (try clear cR9 fR9);have cR9:=R9.cell;have fR9:=R9.frozen
    obtain ⟨P,R6⟩:=re_done (k0:=0) (t0:=emp) (m0:=(flagI false)) ((G).below' hb9) R9 ((N).bl hb9) (mov_post (Mov.of q hBw) (by have:=((Mov.of q hBw)).size;omega) hb9) (by omega) (by omega) (by omega)
    go_wp2_with fail
    have cR6:=R6.cell
    refine bodyPost_ret (v:=.agg #[.int .i64 0,.string emp,.int .i64 (flagI false),.slice none 0 0]) ?_ rfl (by rw [HV.out];exact P)
    simp [results,Tryz.results157,go_sem,cR6]
  ·have hv:D=(⟨vk,vt,vc,ps,is_,ss⟩,toldR (flagI has)):=by rw [HD.out];simp
   have HV:=hide hv
   clear HD hv HQ hple
   cases has
   all_goals (try clear cG fG);have cG:=G.cell;have fG:=G.frozen;(try clear cC fC);have cC:=C.cell;have fC:=C.frozen
   all_goals go_wp2_with fail
   ·refine (flag_any false _).mono ?_
    rintro e w' ⟨rfl,rfl⟩
    go_wp2_with fail
    refine (told_any (flagI false) _).mono ?_
    rintro e w9 ⟨rfl,hb9⟩
    have R9:=(R).below' hb9
    (try clear cR9 fR9);have cR9:=R9.cell;have fR9:=R9.frozen
    obtain ⟨P,R6⟩:=re_done (k0:=0) (t0:=emp) (m0:=(flagI false)) ((G).below' hb9) R9 ((N).bl hb9) (mov_post (Mov.of q hBw) (by have:=((Mov.of q hBw)).size;omega) hb9) (by omega) (by omega) (by omega)
    go_wp2_with fail
    have cR6:=R6.cell
    refine bodyPost_ret (v:=.agg #[.int .i64 0,.string emp,.int .i64 (flagI false),.slice none 0 0]) ?_ rfl (by rw [HV.out];exact P)
    simp [results,Tryz.results157,go_sem,cR6]
   ·refine (flag_any true _).mono ?_
    rintro e w' ⟨rfl,rfl⟩
    go_wp2_with fail
    refine (told_any (flagI true) _).mono ?_
    rintro e w9 ⟨rfl,hb9⟩
    have R9:=(R).below' hb9
    (try clear cR9 fR9);have cR9:=R9.cell;have fR9:=R9.frozen
    obtain ⟨P,R6⟩:=re_done (k0:=0) (t0:=emp) (m0:=(flagI true)) ((G).below' hb9) R9 ((N).bl hb9) (mov_post (Mov.of q hBw) (by have:=((Mov.of q hBw)).size;omega) hb9) (by omega) (by omega) (by omega)
    go_wp2_with fail
    have cR6:=R6.cell
    refine bodyPost_ret (v:=.agg #[.int .i64 0,.string emp,.int .i64 (flagI true),.slice none 0 0]) ?_ rfl (by rw [HV.out];exact P)
    simp [results,Tryz.results157,go_sem,cR6]
attribute [local go_sem ↓] Go.wp_at_zero Go.wp_at_succ
def memberAt (m:ByteArray) (l:List Sc):Option Nat:=l.findIdx? fun x=>x.member.toList == m.toList
def putScore (l:List Sc) (s:Sc):List Sc:=insRows l (scoreAt s l) s
def doRank (v:Va) (c:Cmd):Va×Re:=
 match memberAt c.text v.scores with
 | none=>if c.kind=16 then (v,failR 5) else if c.kind=14 then (if v.scores.length=20 then (v,failR 6) else ({ v with scores:=putScore v.scores ⟨c.text,c.n⟩ },toldR 1)) else (v,toldR 0)
 | some k=>if c.kind=16 then (v,toldR k) else if c.kind=14 then ({ v with scores:=putScore (delRows v.scores k) ⟨c.text,c.n⟩ },toldR 0) else ({ v with scores:=delRows v.scores k },toldR 1)
theorem memberAt_lt {m:ByteArray} {l:List Sc} {k:Nat} (h:memberAt m l=some k):k<l.length:=by
 unfold memberAt at h
 rw [List.findIdx?_eq_some_iff_getElem] at h
 exact h.1
set_option maxRecDepth 100000 in
theorem ranks_any (v:Va) (c:Cmd) (B g:Nat) (A1 A2 A3:Option Addr) (n1 c1 n2 c2 n3 c3:Nat) (w:World) (hG:Blk w g 96 #[.int .i64 v.kind,.string v.text,.int .i64 v.count,.slice A1 n1 c1,.slice A2 n2 c2,.slice A3 n3 c3])
  (hN:VNew w B v (.slice A1 n1 c1) (.slice A2 n2 c2) (.slice A3 n3 c3)) (hg:B≤g) (hBw:B≤w.heap.size) (hn:n3≤20) (hr:risesBy cmpS v.scores=true) (hk:c.kind=14∨c.kind=15∨c.kind=16) :
  Calls Tryz.prog 158 #[.pointer (some ⟨g,0,none⟩),.agg #[.int .i64 c.kind,.string c.key,.string c.field,.string c.text,.int .i64 c.n]] w (DoPost (doRank v c).1 (doRank v c).2 B g w):=by
 have hlen:v.scores.length=n3:=hN.sl.n3_
 obtain ⟨D,hD⟩:∃ D,D=doRank v c:=⟨_,rfl⟩
 rw [←hD]
 obtain ⟨kind,key,field,text,n⟩:=c
 obtain ⟨vk,vt,vc,ps,is_,ss⟩:=v
 simp only at hlen hG hN hr hk ⊢
 have hrk:=fun wz (hz:Below w.heap.size w wz)=>rank_any A3 n3 c3 ss text wz hlen (by omega) (hN.2.2.sl'.below hz).seg
 have hro:rankOf ss text=idxFn (memberAt text ss):=rfl
 simp only [hro] at hrk
 have hml:=fun k (h:memberAt text ss=some k)=>memberAt_lt h
 unfold doRank at hD
 simp only at hD
 have hdr:=fun k=>rises_sub (cmp:=cmpS) (fun _ _ _=>cmpS_trans) hr (del_sub ss k)
 generalize memberAt text ss=mo at *
 have HD:=hide hD;have HB:=hide hrk;have HL:=hide hlen;have HM:=hide hml;have HR0:=hide hr;have HDR:=hide hdr
 clear hD hrk hro hlen hml hr hdr
 have hgl:=hG.lt
 have hG1:=hG.alloc (.cells #[.int .i64 kind,.string key,.string field,.string text,.int .i64 n] 31)
 have hC1:=Blk.new w 31 #[.int .i64 kind,.string key,.string field,.string text,.int .i64 n]
 have hC1':=hC1.alloc (.cells #[.int .i64 0,.string { data:=#[] },.int .i64 0,.slice none 0 0] 102)
 have hG1':=hG1.alloc (.cells #[.int .i64 0,.string { data:=#[] },.int .i64 0,.slice none 0 0] 102)
 have hN1:=(hN.al (.cells #[.int .i64 kind,.string key,.string field,.string text,.int .i64 n] 31)).al (.cells #[.int .i64 0,.string { data:=#[] },.int .i64 0,.slice none 0 0] 102)
 have q1:Below w.heap.size w ((w.alloc (.cells #[.int .i64 kind,.string key,.string field,.string text,.int .i64 n] 31)).alloc (.cells #[.int .i64 0,.string { data:=#[] },.int .i64 0,.slice none 0 0] 102)):=below_by
 have hR1:Blk ((w.alloc (.cells #[.int .i64 kind,.string key,.string field,.string text,.int .i64 n] 31)).alloc (.cells #[.int .i64 0,.string { data:=#[] },.int .i64 0,.slice none 0 0] 102)) (w.heap.size+1) 102 #[.int .i64 0,.string { data:=#[] },.int .i64 0,.slice none 0 0]:=Blk.new' _ _ _ (by simp)
 (try clear chG1' fhG1');have chG1':=hG1'.cell;have fhG1':=hG1'.frozen;(try clear chC1' fhC1');have chC1':=hC1'.cell;have fhC1':=hC1'.frozen
 go_enter Tryz.func158,Tryz.ntmps158
 go_upto_region 1 with fail
 go_cut [5] (fun s wx=>s = .int .i64 (idxFn mo)∧Blk wx g 96 #[.int .i64 vk,.string vt,.int .i64 vc,.slice A1 n1 c1,.slice A2 n2 c2,.slice A3 n3 c3]∧Blk wx w.heap.size 31 #[.int .i64 kind,.string key,.string field,.string text,.int .i64 n] ∧
  Blk wx (w.heap.size+1) 102 #[.int .i64 0,.string { data:=#[] },.int .i64 0,.slice none 0 0]∧VNew wx B ⟨vk,vt,vc,ps,is_,ss⟩ (.slice A1 n1 c1) (.slice A2 n2 c2) (.slice A3 n3 c3)∧Below w.heap.size w wx)
 case first=>
  go_region_held3 (fun w'=>w'.cell? ⟨g,5,none⟩=some (.slice A3 n3 c3)∧w'.cell? ⟨w.heap.size,3,none⟩=some (.string text)) (first|exact ⟨hG1'.cell 5,hC1'.cell 3⟩|exact ⟨(hG1'.drew.below' hb1).cell 5,(hC1'.drew.below' hb1).cell 3⟩)
   (first|((go_at_call 124;with_reducible refine (HB.out _ ?_).mono ?_);(focus exact below_by);rintro e w1 ⟨rfl,hb1⟩))
  go_wp2_with fail
  go_meet
  exact ⟨rfl,hG1'.drew.below' hb1,hC1'.drew.below' hb1,hR1.drew.below' hb1,hN1.dr.bl hb1,below_by⟩
 case rest=>
  obtain ⟨rfl,G,C,R,N,q⟩:=hcut
  clear hN1 hG1' hC1' q1 hR1 hG1 hC1 hG hN HB chG1' fhG1' chC1' fhC1'
  have hBc:B≤wc.heap.size:=by have:=q.size;omega
  have hgw:g<wc.heap.size:=G.lt
  have hww:w.heap.size<wc.heap.size:=C.lt
  have hwr:w.heap.size+1<wc.heap.size:=R.lt
  rcases hk with rfl|rfl|rfl
  ·cases mo with
   | none=>
    by_cases h20:n3=20
    ·have h20':ss.length=20:=by rw [HL.out];exact h20
     have hv:D=(⟨vk,vt,vc,ps,is_,ss⟩,failR 6):=by rw [HD.out];simp [*]
     have HV:=hide hv
     clear HD hv
     clear h20'
     subst h20
     have hid:idxFn none = -1:=rfl
     (try clear cG fG);have cG:=G.cell;have fG:=G.frozen;(try clear cC fC);have cC:=C.cell;have fC:=C.frozen
     go_wp2_with fail
     refine (failed_any 6 _).mono ?_
     rintro e w9 ⟨rfl,hb9⟩
     have R9:=(R).below' hb9
     (try clear cR9 fR9);have cR9:=R9.cell;have fR9:=R9.frozen
     obtain ⟨P,R6⟩:=re_done (k0:=6) (t0:=emp) (m0:=0) ((G).below' hb9) R9 ((N).bl hb9) (mov_post (Mov.of q hBw) (by have:=((Mov.of q hBw)).size;omega) hb9) (by omega) (by omega) (by omega)
     go_wp2_with fail
     have cR6:=R6.cell
     refine bodyPost_ret (v:=.agg #[.int .i64 6,.string emp,.int .i64 0,.slice none 0 0]) ?_ rfl (by rw [HV.out];exact P)
     simp [results,Tryz.results158,go_sem,cR6]
    ·have h20':¬ ss.length=20:=by rw [HL.out];exact h20
     have hv:D=(⟨vk,vt,vc,ps,is_,putScore ss ⟨text,n⟩⟩,toldR 1):=by rw [HD.out];simp [*]
     have HV:=hide hv
     clear HD hv
     clear h20'
     have hid:idxFn none = -1:=rfl
     have h20b:((n3:Int) == 20)=false:=by rw [beq_eq_false_iff_ne];omega
     (try clear cG fG);have cG:=G.cell;have fG:=G.frozen;(try clear cC fC);have cC:=C.cell;have fC:=C.frozen
     have hla:(ss).length=n3:=HL.out
     have hma:n3≤20:=by omega
     have hbn:=fun wz (hz:Below (wc).heap.size (wc) wz)=>Bin_score A3 n3 c3 (scoreAt ⟨text,n⟩ (ss)) (ss) ⟨text,n⟩ wz hla (by omega) ((N).2.2.sl'.below hz).seg (lowB_le _ _) score_h1 (score_h2 (HR0.out))
     have hat:scoreAt ⟨text,n⟩ (ss)≤n3:=by rw [←hla];exact lowB_le _ _
     have hps:putScore (ss) ⟨text,n⟩=insRows (ss) (scoreAt ⟨text,n⟩ (ss)) ⟨text,n⟩:=rfl
     rw [hps] at HV
     generalize scoreAt ⟨text,n⟩ (ss)=at_ at *
     have HBN:=hide hbn
     clear hbn hps
     have G1:=(G).alloc (.cells #[.string text,.int .i64 n] 139);have C1:=(C).alloc (.cells #[.string text,.int .i64 n] 139);have R1:=(R).alloc (.cells #[.string text,.int .i64 n] 139);have N1:=(N).al (.cells #[.string text,.int .i64 n] 139)
     have q1:Mov B w ((wc).alloc (.cells #[.string text,.int .i64 n] 139)):=((Mov.of q hBw)).alloc hBc _
     obtain ⟨xb,hxb⟩:∃ xb,xb=wc.heap.size:=⟨_,rfl⟩
     have X1:Blk ((wc).alloc (.cells #[.string text,.int .i64 n] 139)) xb 139 #[.string text,.int .i64 n]:=Blk.new' _ _ _ (by simp [hxb])
     have HNX:some xb≠(Value.slice A3 n3 c3).ownBlock:=by intro e;obtain ⟨cur,hcur⟩:=own_typed (N).2.2 e.symm;have:=(Array.getElem?_eq_some_iff.1 hcur).1;(try simp at this);omega
     have hxl:xb<((wc).alloc (.cells #[.string text,.int .i64 n] 139)).heap.size:=X1.lt
     (try clear cG1 fG1);have cG1:=G1.cell;have fG1:=G1.frozen;(try clear cC1 fC1);have cC1:=C1.cell;have fC1:=C1.frozen;(try clear cX1 fX1);have cX1:=X1.cell;have fX1:=X1.frozen
     have hgx:g<xb:=by omega
     have hwx:w.heap.size<xb:=by omega
     go_upto_region 13 with fail
     rw [←hxb]
     have HXB:=hide hxb
     clear hxb
     go_cut [7,8] (fun s t wx=>s = .int .i64 (at_:Int)∧Blk wx g 96 #[.int .i64 vk,.string vt,.int .i64 vc,.slice A1 n1 c1,.slice A2 n2 c2,.slice A3 n3 c3]∧Blk wx w.heap.size 31 #[.int .i64 14,.string key,.string field,.string text,.int .i64 n]∧Blk wx xb 139 #[.string text,.int .i64 n] ∧
      Blk wx (w.heap.size+1) 102 #[.int .i64 0,.string { data:=#[] },.int .i64 0,.slice none 0 0]∧VNew wx B ⟨vk,vt,vc,ps,is_,ss⟩ (.slice A1 n1 c1) (.slice A2 n2 c2) (.slice A3 n3 c3)∧Mov B w wx∧B≤wx.heap.size)
     case first=>
      go_region_held3 (fun w'=>w'.cell? ⟨g,5,none⟩=some (.slice A3 n3 c3)∧w'.cell? ⟨xb,0,none⟩=some (.string text)∧w'.cell? ⟨xb,1,none⟩=some (.int .i64 n)) (first|exact ⟨G1.cell 5,X1.cell 0,X1.cell 1⟩|exact ⟨(G1.drew.below' hb4).cell 5,(X1.drew.below' hb4).cell 0,(X1.drew.below' hb4).cell 1⟩)
       (first|((go_at_call 169;with_reducible refine (HBN.out _ ?_).mono ?_);(focus exact below_by);rintro e w4 ⟨rfl,hb4⟩))
      go_wp2_with fail
      go_meet
      exact ⟨rfl,G1.drew.below' hb4,C1.drew.below' hb4,X1.drew.below' hb4,R1.drew.below' hb4,N1.dr.bl hb4,mov_post q1.drew (by simp;omega) hb4,by have:=hb4.size;simp at this;omega⟩
     case rest=>
      obtain ⟨rfl,G5,C5,X5,R5,N5,q5,hB5⟩:=hcut
      clear G1 C1 X1 R1 N1 q1 HBN cG1 fG1 cC1 fC1 cX1 fX1
      have hg5:g<wc.heap.size:=G5.lt
      have hx5:xb<wc.heap.size:=X5.lt
      (try clear cG5 fG5);have cG5:=G5.cell;have fG5:=G5.frozen;(try clear cC5 fC5);have cC5:=C5.cell;have fC5:=C5.frozen;(try clear cX5 fX5);have cX5:=X5.cell;have fX5:=X5.frozen
      go_wp2_with fail
      have G6:=G5.drew;have X6:=X5.drew
      refine wp_region_x (l:=[11]) (S:=fun w'=>w'.cell? ⟨g,5,none⟩=some (.slice A3 n3 c3)∧w'.cell? ⟨xb,0,none⟩=some (.string text)∧w'.cell? ⟨xb,1,none⟩=some (.int .i64 n)) (by kernel_rfl) ⟨G6.cell 5,X6.cell 0,X6.cell 1⟩ (fun hS=>?_)
      refine wpAnyX_tq 0 ?_
      refine wpAnyX_tq 1 ?_
      refine wpAnyX_tq 2 ?_
      refine wpAnyX_tq 3 ?_
      refine wpAnyX_tq 4 ?_
      refine wpAnyX_tq 5 ?_
      refine wpAnyX_tq 6 ?_
      refine wpAnyX_oq 7 fun K hK=>?_
      go_wp2_with fail
      have G7:=(G5.alloc (.cells #[.string text,.int .i64 n] 139)).drew;have R7:=(R5.alloc (.cells #[.string text,.int .i64 n] 139)).drew;have N7:=(N5.al (.cells #[.string text,.int .i64 n] 139)).dr;have Z7:=(X5.alloc (.cells #[.string text,.int .i64 n] 139)).drew
      have X7:Blk (wc.alloc (.cells #[.string text,.int .i64 n] 139)).drew wc.heap.size 139 #[.string text,.int .i64 n]:=Blk.new _ _ _
      have q7:Mov B w (wc.alloc (.cells #[.string text,.int .i64 n] 139)).drew:=(q5.alloc hB5 _).drew
      have hwl:(wc.alloc (.cells #[.string text,.int .i64 n] 139)).drew.heap.size=wc.heap.size+1:=by simp
      have HWL:=hide hwl
      clear hwl
      have hone:∀ u∈(#[.string text,.int .i64 n]:Array Value).toList,u.oneCell'=true:=by intro u hu;simp at hu;rcases hu with rfl|rfl <;> rfl
      refine hK.out _ _ (Or.inr ⟨G7.cell 5,Z7.cell 0,Z7.cell 1⟩) (fun hS=>?_)
      replace hS:=hS.resolve_left (by decide)
      clear hK K G6 X6
      have N7p:=N7.2.2
      refine wpAnyX_oq 8 fun K hK=>?_
      go_wp2_with fail
      ((with_reducible refine (Insert_score A3 n3 c3 B at_ wc.heap.size (scoreRows (ss)) #[.string text,.int .i64 n] _ N7p (score_one _) hat (by omega) X7 rfl hone ?hbva (by rw [HWL.out];omega)).mono ?_)
       case hbva=>
        intro e
        obtain ⟨cur,hcur⟩:=own_typed N5.2.2 e.symm
        have:wc.heap.size<wc.heap.size:=(Array.getElem?_eq_some_iff.1 hcur).1
        omega
       rintro e w8 ⟨A8,n8,c8,rfl,o8,g8⟩)
      go_wp2_with fail
      have hwB:B≤(wc.alloc (.cells #[.string text,.int .i64 n] 139)).drew.heap.size:=by rw [HWL.out];omega
      have G8:=blk_other G7 N7p g8;have R8:=blk_other R7 N7p g8
      have q8:=q7.trans (mov_grown N7p g8 hwB)
      have N8:VNew w8 B ⟨vk,vt,vc,ps,is_,insRows (ss) at_ ⟨text,n⟩⟩ (.slice A1 n1 c1) (.slice A2 n2 c2) (.slice A8 n8 c8):=⟨own_other N7.1 N7p g8,own_other N7.2.1 N7p g8,by have:=o8;simp only [insRows,scoreRows,List.map_append,List.map_take,List.map_drop] at this ⊢;exact this⟩
      have Z8:w8.cell? ⟨xb,0,none⟩=some (.string text)∧w8.cell? ⟨xb,1,none⟩=some (.int .i64 n):=by
       have hne:some xb≠(Value.slice A3 n3 c3).ownBlock:=HNX
       have hb:=g8.block xb (by rw [HWL.out];omega) hne
       exact ⟨(World.cell?_of_block (a:=⟨xb,0,none⟩) hb).trans (Z7.cell 0),(World.cell?_of_block (a:=⟨xb,1,none⟩) hb).trans (Z7.cell 1)⟩
      refine hK.out _ _ (Or.inr ⟨G8.cell 5,Z8⟩) (fun hS=>?_)
      replace hS:=hS.resolve_left (by decide)
      clear hK K G7 R7 N7 q7 X7 o8 g8
      (try clear cG8 fG8);have cG8:=G8.cell;have fG8:=G8.frozen
      refine wpAnyX_ps 9 ?_
      refine wpAnyX_ps 10 ?_
      refine wpAnyX_oq 11 fun K hK=>?_
      go_wp2_with fail
      have G9:=G8.set' (i:=5) (u:=.slice A8 n8 c8) rfl
      have R9':=R8.far (p:=⟨g,5,none⟩) (by simp;omega) (.slice A8 n8 c8)
      have N9:=N8.st' G8 5 (.slice A8 n8 c8)
      have q9:=q8.setV G8 hg 5 (.slice A8 n8 c8)
      refine hK.out _ _ (Or.inl (by decide)) (fun hS=>?_)
      clear hK K hS G8 R8 N8 q8 cG8 fG8 cG5 fG5 cC5 fC5 cX5 fX5
      refine wpAnyX_done (by kernel_rfl) ?_ _
      go_wp2_with fail
      refine (flag_any true _).mono ?_
      rintro e w' ⟨rfl,rfl⟩
      go_wp2_with fail
      refine (told_any (flagI true) _).mono ?_
      rintro e w9 ⟨rfl,hb9⟩
      have R9:=(R9').below' hb9
      (try clear cR9 fR9);have cR9:=R9.cell;have fR9:=R9.frozen
      obtain ⟨P,R6⟩:=re_done (k0:=0) (t0:=emp) (m0:=(flagI true)) ((G9).below' hb9) R9 ((N9).bl hb9) (mov_post q9 (by have:=(q9).size;omega) hb9) (by omega) (by omega) (by omega)
      go_wp2_with fail
      have cR6:=R6.cell
      refine bodyPost_ret (v:=.agg #[.int .i64 0,.string emp,.int .i64 (flagI true),.slice none 0 0]) ?_ rfl (by rw [HV.out];exact P)
      simp [results,Tryz.results158,go_sem,cR6]
   | some ix=>
    have hv:D=(⟨vk,vt,vc,ps,is_,putScore (delRows ss ix) ⟨text,n⟩⟩,toldR 0):=by rw [HD.out];simp [*]
    have HV:=hide hv
    clear HD hv
    have hid:idxFn (some ix)=(ix:Int):=rfl
    have Np:=N.2.2
    have hin:ix<n3:=by have:=HM.out ix rfl;have:=HL.out;omega
    have hwi:IntKind.i64.wrap ((ix:Int)+1)=(ix:Int)+1:=IntWalk.i64_in _ (by omega)
    have hge:(0:Int)≤ix:=by omega
    have hge2:¬ ((ix:Int)<0):=by omega
    (try clear cG fG);have cG:=G.cell;have fG:=G.frozen;(try clear cC fC);have cC:=C.cell;have fC:=C.frozen
    go_wp2_with fail
    ((with_reducible refine (Delete_score A3 n3 c3 B ix (scoreRows ss) _ Np (score_one _) hin (by omega)).mono ?_);rintro e w3 ⟨A',n',c',rfl,o3,g3⟩)
    have G3:=blk_other G Np g3;have R3:=blk_other R Np g3;have C3:=blk_other C Np g3
    have q3:=(Mov.of q hBw).trans (mov_grown Np g3 hBc)
    have N3:VNew w3 B ⟨vk,vt,vc,ps,is_,delRows ss ix⟩ (.slice A1 n1 c1) (.slice A2 n2 c2) (.slice A' n' c'):=⟨own_other N.1 Np g3,own_other N.2.1 Np g3,by have:=o3;simp only [delRows,scoreRows,List.map_append,List.map_take,List.map_drop] at this ⊢;exact this⟩
    have hs3:=g3.size
    clear cG fG cC fC o3 g3
    (try clear cG3 fG3);have cG3:=G3.cell;have fG3:=G3.frozen;(try clear cC3 fC3);have cC3:=C3.cell;have fC3:=C3.frozen
    have G4:=G3.set' (i:=5) (u:=.slice A' n' c') rfl
    have R4:=R3.far (p:=⟨g,5,none⟩) (by simp;omega) (.slice A' n' c')
    have C4:=C3.far (p:=⟨g,5,none⟩) (by simp;omega) (.slice A' n' c')
    have N4:=N3.st' G3 5 (.slice A' n' c')
    have q4:=q3.setV G3 hg 5 (.slice A' n' c')
    have hlb:(delRows ss ix).length=n':=N4.sl.n3_
    have hmb:n'≤20:=(by have h1:=(del_sub ss ix).length_le;have h2:=HL.out;rw [←hlb];unfold delRows;omega)
    have hbn:=fun wz (hz:Below (w3.setCell ⟨g,5,none⟩ (.slice A' n' c')).heap.size (w3.setCell ⟨g,5,none⟩ (.slice A' n' c')) wz)=>Bin_score A' n' c' (scoreAt ⟨text,n⟩ (delRows ss ix)) (delRows ss ix) ⟨text,n⟩ wz hlb (by omega) ((N4).2.2.sl'.below hz).seg (lowB_le _ _) score_h1 (score_h2 (HDR.out ix))
    have hat:scoreAt ⟨text,n⟩ (delRows ss ix)≤n':=by rw [←hlb];exact lowB_le _ _
    have hps:putScore (delRows ss ix) ⟨text,n⟩=insRows (delRows ss ix) (scoreAt ⟨text,n⟩ (delRows ss ix)) ⟨text,n⟩:=rfl
    rw [hps] at HV
    generalize scoreAt ⟨text,n⟩ (delRows ss ix)=at_ at *
    have HBN:=hide hbn
    clear hbn hps
    have G1:=(G4).alloc (.cells #[.string text,.int .i64 n] 139);have C1:=(C4).alloc (.cells #[.string text,.int .i64 n] 139);have R1:=(R4).alloc (.cells #[.string text,.int .i64 n] 139);have N1:=(N4).al (.cells #[.string text,.int .i64 n] 139)
    have q1:Mov B w ((w3.setCell ⟨g,5,none⟩ (.slice A' n' c')).alloc (.cells #[.string text,.int .i64 n] 139)):=(q4).alloc (by simp;omega) _
    obtain ⟨xb,hxb⟩:∃ xb,xb=w3.heap.size:=⟨_,rfl⟩
    have X1:Blk ((w3.setCell ⟨g,5,none⟩ (.slice A' n' c')).alloc (.cells #[.string text,.int .i64 n] 139)) xb 139 #[.string text,.int .i64 n]:=Blk.new' _ _ _ (by simp [hxb])
    have HNX:some xb≠(Value.slice A' n' c').ownBlock:=by intro e;obtain ⟨cur,hcur⟩:=own_typed (N4).2.2 e.symm;have:=(Array.getElem?_eq_some_iff.1 hcur).1;(try simp at this);omega
    have hxl:xb<((w3.setCell ⟨g,5,none⟩ (.slice A' n' c')).alloc (.cells #[.string text,.int .i64 n] 139)).heap.size:=X1.lt
    (try clear cG1 fG1);have cG1:=G1.cell;have fG1:=G1.frozen;(try clear cC1 fC1);have cC1:=C1.cell;have fC1:=C1.frozen;(try clear cX1 fX1);have cX1:=X1.cell;have fX1:=X1.frozen
    have hgx:g<xb:=by omega
    have hwx:w.heap.size<xb:=by omega
    go_upto_region 13 with fail
    rw [←hxb]
    have HXB:=hide hxb
    clear hxb
    go_cut [7,8] (fun s t wx=>s = .int .i64 (at_:Int)∧Blk wx g 96 #[.int .i64 vk,.string vt,.int .i64 vc,.slice A1 n1 c1,.slice A2 n2 c2,.slice A' n' c']∧Blk wx w.heap.size 31 #[.int .i64 14,.string key,.string field,.string text,.int .i64 n]∧Blk wx xb 139 #[.string text,.int .i64 n] ∧
     Blk wx (w.heap.size+1) 102 #[.int .i64 0,.string { data:=#[] },.int .i64 0,.slice none 0 0]∧VNew wx B ⟨vk,vt,vc,ps,is_,delRows ss ix⟩ (.slice A1 n1 c1) (.slice A2 n2 c2) (.slice A' n' c')∧Mov B w wx∧B≤wx.heap.size)
    case first=>
     go_region_held3 (fun w'=>w'.cell? ⟨g,5,none⟩=some (.slice A' n' c')∧w'.cell? ⟨xb,0,none⟩=some (.string text)∧w'.cell? ⟨xb,1,none⟩=some (.int .i64 n)) (first|exact ⟨G1.cell 5,X1.cell 0,X1.cell 1⟩|exact ⟨(G1.drew.below' hb4).cell 5,(X1.drew.below' hb4).cell 0,(X1.drew.below' hb4).cell 1⟩)
      (first|((go_at_call 169;with_reducible refine (HBN.out _ ?_).mono ?_);(focus exact below_by);rintro e w4 ⟨rfl,hb4⟩))
     go_wp2_with fail
     go_meet
     exact ⟨rfl,G1.drew.below' hb4,C1.drew.below' hb4,X1.drew.below' hb4,R1.drew.below' hb4,N1.dr.bl hb4,mov_post q1.drew (by simp;omega) hb4,by have:=hb4.size;simp at this;omega⟩
    case rest=>
     obtain ⟨rfl,G5,C5,X5,R5,N5,q5,hB5⟩:=hcut
     clear G1 C1 X1 R1 N1 q1 HBN cG1 fG1 cC1 fC1 cX1 fX1
     have hg5:g<wc.heap.size:=G5.lt
     have hx5:xb<wc.heap.size:=X5.lt
     (try clear cG5 fG5);have cG5:=G5.cell;have fG5:=G5.frozen;(try clear cC5 fC5);have cC5:=C5.cell;have fC5:=C5.frozen;(try clear cX5 fX5);have cX5:=X5.cell;have fX5:=X5.frozen
     go_wp2_with fail
     have G6:=G5.drew;have X6:=X5.drew
     refine wp_region_x (l:=[11]) (S:=fun w'=>w'.cell? ⟨g,5,none⟩=some (.slice A' n' c')∧w'.cell? ⟨xb,0,none⟩=some (.string text)∧w'.cell? ⟨xb,1,none⟩=some (.int .i64 n)) (by kernel_rfl) ⟨G6.cell 5,X6.cell 0,X6.cell 1⟩ (fun hS=>?_)
     refine wpAnyX_tq 0 ?_
     refine wpAnyX_tq 1 ?_
     refine wpAnyX_tq 2 ?_
     refine wpAnyX_tq 3 ?_
     refine wpAnyX_tq 4 ?_
     refine wpAnyX_tq 5 ?_
     refine wpAnyX_tq 6 ?_
     refine wpAnyX_oq 7 fun K hK=>?_
     go_wp2_with fail
     have G7:=(G5.alloc (.cells #[.string text,.int .i64 n] 139)).drew;have R7:=(R5.alloc (.cells #[.string text,.int .i64 n] 139)).drew;have N7:=(N5.al (.cells #[.string text,.int .i64 n] 139)).dr;have Z7:=(X5.alloc (.cells #[.string text,.int .i64 n] 139)).drew
     have X7:Blk (wc.alloc (.cells #[.string text,.int .i64 n] 139)).drew wc.heap.size 139 #[.string text,.int .i64 n]:=Blk.new _ _ _
     have q7:Mov B w (wc.alloc (.cells #[.string text,.int .i64 n] 139)).drew:=(q5.alloc hB5 _).drew
     have hwl:(wc.alloc (.cells #[.string text,.int .i64 n] 139)).drew.heap.size=wc.heap.size+1:=by simp
     have HWL:=hide hwl
     clear hwl
     have hone:∀ u∈(#[.string text,.int .i64 n]:Array Value).toList,u.oneCell'=true:=by intro u hu;simp at hu;rcases hu with rfl|rfl <;> rfl
     refine hK.out _ _ (Or.inr ⟨G7.cell 5,Z7.cell 0,Z7.cell 1⟩) (fun hS=>?_)
     replace hS:=hS.resolve_left (by decide)
     clear hK K G6 X6
     have N7p:=N7.2.2
     refine wpAnyX_oq 8 fun K hK=>?_
     go_wp2_with fail
     ((with_reducible refine (Insert_score A' n' c' B at_ wc.heap.size (scoreRows (delRows ss ix)) #[.string text,.int .i64 n] _ N7p (score_one _) hat (by omega) X7 rfl hone ?hbvb (by rw [HWL.out];omega)).mono ?_)
      case hbvb=>
       intro e
       obtain ⟨cur,hcur⟩:=own_typed N5.2.2 e.symm
       have:wc.heap.size<wc.heap.size:=(Array.getElem?_eq_some_iff.1 hcur).1
       omega
      rintro e w8 ⟨A8,n8,c8,rfl,o8,g8⟩)
     go_wp2_with fail
     have hwB:B≤(wc.alloc (.cells #[.string text,.int .i64 n] 139)).drew.heap.size:=by rw [HWL.out];omega
     have G8:=blk_other G7 N7p g8;have R8:=blk_other R7 N7p g8
     have q8:=q7.trans (mov_grown N7p g8 hwB)
     have N8:VNew w8 B ⟨vk,vt,vc,ps,is_,insRows (delRows ss ix) at_ ⟨text,n⟩⟩ (.slice A1 n1 c1) (.slice A2 n2 c2) (.slice A8 n8 c8):=⟨own_other N7.1 N7p g8,own_other N7.2.1 N7p g8,by have:=o8;simp only [insRows,scoreRows,List.map_append,List.map_take,List.map_drop] at this ⊢;exact this⟩
     have Z8:w8.cell? ⟨xb,0,none⟩=some (.string text)∧w8.cell? ⟨xb,1,none⟩=some (.int .i64 n):=by
      have hne:some xb≠(Value.slice A' n' c').ownBlock:=HNX
      have hb:=g8.block xb (by rw [HWL.out];omega) hne
      exact ⟨(World.cell?_of_block (a:=⟨xb,0,none⟩) hb).trans (Z7.cell 0),(World.cell?_of_block (a:=⟨xb,1,none⟩) hb).trans (Z7.cell 1)⟩
     refine hK.out _ _ (Or.inr ⟨G8.cell 5,Z8⟩) (fun hS=>?_)
     replace hS:=hS.resolve_left (by decide)
     clear hK K G7 R7 N7 q7 X7 o8 g8
     (try clear cG8 fG8);have cG8:=G8.cell;have fG8:=G8.frozen
     refine wpAnyX_ps 9 ?_
     refine wpAnyX_ps 10 ?_
     refine wpAnyX_oq 11 fun K hK=>?_
     go_wp2_with fail
     have G9:=G8.set' (i:=5) (u:=.slice A8 n8 c8) rfl
     have R9':=R8.far (p:=⟨g,5,none⟩) (by simp;omega) (.slice A8 n8 c8)
     have N9:=N8.st' G8 5 (.slice A8 n8 c8)
     have q9:=q8.setV G8 hg 5 (.slice A8 n8 c8)
     refine hK.out _ _ (Or.inl (by decide)) (fun hS=>?_)
     clear hK K hS G8 R8 N8 q8 cG8 fG8 cG5 fG5 cC5 fC5 cX5 fX5
     refine wpAnyX_done (by kernel_rfl) ?_ _
     go_wp2_with fail
     refine (flag_any false _).mono ?_
     rintro e w' ⟨rfl,rfl⟩
     go_wp2_with fail
     refine (told_any (flagI false) _).mono ?_
     rintro e w9 ⟨rfl,hb9⟩
     have R9:=(R9').below' hb9
     (try clear cR9 fR9);have cR9:=R9.cell;have fR9:=R9.frozen
     obtain ⟨P,R6⟩:=re_done (k0:=0) (t0:=emp) (m0:=(flagI false)) ((G9).below' hb9) R9 ((N9).bl hb9) (mov_post q9 (by have:=(q9).size;omega) hb9) (by omega) (by omega) (by omega)
     go_wp2_with fail
     have cR6:=R6.cell
     refine bodyPost_ret (v:=.agg #[.int .i64 0,.string emp,.int .i64 (flagI false),.slice none 0 0]) ?_ rfl (by rw [HV.out];exact P)
     simp [results,Tryz.results158,go_sem,cR6]
  ·cases mo with
   | none=>
    have hv:D=(⟨vk,vt,vc,ps,is_,ss⟩,toldR 0):=by rw [HD.out];simp [*]
    have HV:=hide hv
    clear HD hv
    have hid:idxFn none = -1:=rfl
    (try clear cG fG);have cG:=G.cell;have fG:=G.frozen;(try clear cC fC);have cC:=C.cell;have fC:=C.frozen
    go_wp2_with fail
    refine (flag_any false _).mono ?_
    rintro e w' ⟨rfl,rfl⟩
    go_wp2_with fail
    refine (told_any (flagI false) _).mono ?_
    rintro e w9 ⟨rfl,hb9⟩
    have R9:=(R).below' hb9
    (try clear cR9 fR9);have cR9:=R9.cell;have fR9:=R9.frozen
    obtain ⟨P,R6⟩:=re_done (k0:=0) (t0:=emp) (m0:=(flagI false)) ((G).below' hb9) R9 ((N).bl hb9) (mov_post (Mov.of q hBw) (by have:=((Mov.of q hBw)).size;omega) hb9) (by omega) (by omega) (by omega)
    go_wp2_with fail
    have cR6:=R6.cell
    refine bodyPost_ret (v:=.agg #[.int .i64 0,.string emp,.int .i64 (flagI false),.slice none 0 0]) ?_ rfl (by rw [HV.out];exact P)
    simp [results,Tryz.results158,go_sem,cR6]
   | some ix=>
    have hv:D=(⟨vk,vt,vc,ps,is_,delRows ss ix⟩,toldR 1):=by rw [HD.out];simp [*]
    have HV:=hide hv
    clear HD hv
    have hid:idxFn (some ix)=(ix:Int):=rfl
    have Np:=N.2.2
    have hin:ix<n3:=by have:=HM.out ix rfl;have:=HL.out;omega
    have hwi:IntKind.i64.wrap ((ix:Int)+1)=(ix:Int)+1:=IntWalk.i64_in _ (by omega)
    have hge:(0:Int)≤ix:=by omega
    have hge2:¬ ((ix:Int)<0):=by omega
    (try clear cG fG);have cG:=G.cell;have fG:=G.frozen;(try clear cC fC);have cC:=C.cell;have fC:=C.frozen
    go_wp2_with fail
    ((with_reducible refine (Delete_score A3 n3 c3 B ix (scoreRows ss) _ Np (score_one _) hin (by omega)).mono ?_);rintro e w3 ⟨A',n',c',rfl,o3,g3⟩)
    have G3:=blk_other G Np g3;have R3:=blk_other R Np g3;have C3:=blk_other C Np g3
    have q3:=(Mov.of q hBw).trans (mov_grown Np g3 hBc)
    have N3:VNew w3 B ⟨vk,vt,vc,ps,is_,delRows ss ix⟩ (.slice A1 n1 c1) (.slice A2 n2 c2) (.slice A' n' c'):=⟨own_other N.1 Np g3,own_other N.2.1 Np g3,by have:=o3;simp only [delRows,scoreRows,List.map_append,List.map_take,List.map_drop] at this ⊢;exact this⟩
    have hs3:=g3.size
    clear cG fG cC fC o3 g3
    (try clear cG3 fG3);have cG3:=G3.cell;have fG3:=G3.frozen;(try clear cC3 fC3);have cC3:=C3.cell;have fC3:=C3.frozen
    go_wp2_with fail
    have G4:=G3.set' (i:=5) (u:=.slice A' n' c') rfl
    have R4:=R3.far (p:=⟨g,5,none⟩) (by simp;omega) (.slice A' n' c')
    have C4:=C3.far (p:=⟨g,5,none⟩) (by simp;omega) (.slice A' n' c')
    have N4:=N3.st' G3 5 (.slice A' n' c')
    have q4:=q3.setV G3 hg 5 (.slice A' n' c')
    clear cG3 fG3 cC3 fC3
    refine (flag_any true _).mono ?_
    rintro e w' ⟨rfl,rfl⟩
    go_wp2_with fail
    refine (told_any (flagI true) _).mono ?_
    rintro e w9 ⟨rfl,hb9⟩
    have R9:=(R4).below' hb9
    (try clear cR9 fR9);have cR9:=R9.cell;have fR9:=R9.frozen
    obtain ⟨P,R6⟩:=re_done (k0:=0) (t0:=emp) (m0:=(flagI true)) ((G4).below' hb9) R9 ((N4).bl hb9) (mov_post q4 (by have:=(q4).size;omega) hb9) (by omega) (by omega) (by omega)
    go_wp2_with fail
    have cR6:=R6.cell
    refine bodyPost_ret (v:=.agg #[.int .i64 0,.string emp,.int .i64 (flagI true),.slice none 0 0]) ?_ rfl (by rw [HV.out];exact P)
    simp [results,Tryz.results158,go_sem,cR6]
  ·cases mo with
   | none=>
    have hv:D=(⟨vk,vt,vc,ps,is_,ss⟩,failR 5):=by rw [HD.out];simp [*]
    have HV:=hide hv
    clear HD hv
    have hid:idxFn none = -1:=rfl
    (try clear cG fG);have cG:=G.cell;have fG:=G.frozen;(try clear cC fC);have cC:=C.cell;have fC:=C.frozen
    go_wp2_with fail
    refine (failed_any 5 _).mono ?_
    rintro e w9 ⟨rfl,hb9⟩
    have R9:=(R).below' hb9
    (try clear cR9 fR9);have cR9:=R9.cell;have fR9:=R9.frozen
    obtain ⟨P,R6⟩:=re_done (k0:=5) (t0:=emp) (m0:=0) ((G).below' hb9) R9 ((N).bl hb9) (mov_post (Mov.of q hBw) (by have:=((Mov.of q hBw)).size;omega) hb9) (by omega) (by omega) (by omega)
    go_wp2_with fail
    have cR6:=R6.cell
    refine bodyPost_ret (v:=.agg #[.int .i64 5,.string emp,.int .i64 0,.slice none 0 0]) ?_ rfl (by rw [HV.out];exact P)
    simp [results,Tryz.results158,go_sem,cR6]
   | some ix=>
    have hv:D=(⟨vk,vt,vc,ps,is_,ss⟩,toldR ix):=by rw [HD.out];simp [*]
    have HV:=hide hv
    clear HD hv
    have hid:idxFn (some ix)=(ix:Int):=rfl
    have hge2:¬ ((ix:Int)<0):=by omega
    (try clear cG fG);have cG:=G.cell;have fG:=G.frozen;(try clear cC fC);have cC:=C.cell;have fC:=C.frozen
    go_wp2_with fail
    refine (told_any (ix:Int) _).mono ?_
    rintro e w9 ⟨rfl,hb9⟩
    have R9:=(R).below' hb9
    (try clear cR9 fR9);have cR9:=R9.cell;have fR9:=R9.frozen
    obtain ⟨P,R6⟩:=re_done (k0:=0) (t0:=emp) (m0:=(ix:Int)) ((G).below' hb9) R9 ((N).bl hb9) (mov_post (Mov.of q hBw) (by have:=((Mov.of q hBw)).size;omega) hb9) (by omega) (by omega) (by omega)
    go_wp2_with fail
    have cR6:=R6.cell
    refine bodyPost_ret (v:=.agg #[.int .i64 0,.string emp,.int .i64 (ix:Int),.slice none 0 0]) ?_ rfl (by rw [HV.out];exact P)
    simp [results,Tryz.results158,go_sem,cR6]
end Go.Proofs.YtgmojjclobkpjaaGreatDoor

