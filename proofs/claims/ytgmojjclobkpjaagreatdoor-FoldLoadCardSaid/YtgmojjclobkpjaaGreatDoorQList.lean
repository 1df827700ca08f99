import Derived.Test.YtgmojjclobkpjaaGreatDoorQHold
namespace Go.Proofs.YtgmojjclobkpjaaGreatDoor
set_option linter.all false
set_option maxHeartbeats 32000000
open Go.RowKit
attribute [local go_sem ↓] Go.wp_at_zero Go.wp_at_succ
def doList (v:Va) (c:Cmd):Va×Re:=
 if c.kind=7 then (if v.items.length=20 then (v,failR 6) else ({ v with items:=v.items ++ [c.text] },toldR (v.items.length+1)))
 else if c.kind=8 then (if v.items.length=20 then (v,failR 6) else ({ v with items:=insRows v.items 0 c.text },toldR (v.items.length+1)))
 else if c.kind=9 then ({ v with items:=v.items.take (v.items.length - 1) },textR ((v.items[v.items.length - 1]?).getD emp))
 else ({ v with items:=v.items.drop 1 },textR ((v.items[0]?).getD emp))
theorem own_ne {w:World} {B g size:Nat} {e t:TypeId} {n c:Nat} {A:Option Addr} {rows:List (List Value)} {cs:Array Value} (h:Own w B e size (.slice A n c) rows) (hb:Blk w g t cs) (hne:t≠e:=by decide):∀ a,A=some a→a.block≠g:=by
 rintro a rfl
 rcases h.form with ⟨hv,_⟩|⟨b,cap,hv,_⟩
 ·cases hv
 ·injection hv with e1 e2 e3
  injection e1 with e1
  subst e1;subst e2;subst e3
  exact own_not h hb hne
theorem VSl.far_ {w:World} {v:Va} {A1 A2 A3:Option Addr} {n1 c1 n2 c2 n3 c3 b:Nat} (h:VSl w v A1 n1 c1 A2 n2 c2 A3 n3 c3) (h1:∀ a,A1=some a→a.block≠b) (h2:∀ a,A2=some a→a.block≠b) (h3:∀ a,A3=some a→a.block≠b) (i:Nat) (u:Value) :
  VSl (w.setCell ⟨b,i,none⟩ u) v A1 n1 c1 A2 n2 c2 A3 n3 c3:=⟨h.p.far (grown_setRow_cell w b i u) h1,h.i.far (grown_setRow_cell w b i u) h2,h.s.far (grown_setRow_cell w b i u) h3⟩
theorem re_done2 {w w2:World} {v:Va} {B g b:Nat} {A1 A2 A3:Option Addr} {n1 c1 n2 c2 n3 c3:Nat} {k0 m0:Int} {t0:ByteArray} {x0 x1 x2 x3:Value}
  (G:Blk w2 g 96 #[.int .i64 v.kind,.string v.text,.int .i64 v.count,.slice A1 n1 c1,.slice A2 n2 c2,.slice A3 n3 c3]) (R:Blk w2 b 102 #[x0,x1,x2,x3]) (N:VSl w2 v A1 n1 c1 A2 n2 c2 A3 n3 c3)
  (h1:∀ a,A1=some a→a.block≠b) (h2:∀ a,A2=some a→a.block≠b) (h3:∀ a,A3=some a→a.block≠b) (T:Tp w2 A1 137∧Tp w2 A2 9∧Tp w2 A3 139) (q:Mov B w w2) (hb:B≤b) (hgb:g≠b) (hbw:w.heap.size≤b) :
  DoPost v ⟨k0,t0,m0,[]⟩ B g w (.returned (.agg #[.int .i64 k0,.string t0,.int .i64 m0,.slice none 0 0])) ((((w2.setCell ⟨b,0,none⟩ (.int .i64 k0)).setCell ⟨b,1,none⟩ (.string t0)).setCell ⟨b,2,none⟩ (.int .i64 m0)).setCell ⟨b,3,none⟩ (.slice none 0 0)) ∧
  Blk ((((w2.setCell ⟨b,0,none⟩ (.int .i64 k0)).setCell ⟨b,1,none⟩ (.string t0)).setCell ⟨b,2,none⟩ (.int .i64 m0)).setCell ⟨b,3,none⟩ (.slice none 0 0)) b 102 #[.int .i64 k0,.string t0,.int .i64 m0,.slice none 0 0]:=by
 have R1:=R.set' (i:=0) (u:=.int .i64 k0) rfl
 have R2:=R1.set' (i:=1) (u:=.string t0) rfl
 have R3:=R2.set' (i:=2) (u:=.int .i64 m0) rfl
 have R4:=R3.set' (i:=3) (u:=.slice none 0 0) rfl
 have N4:=(((N.far_ h1 h2 h3 0 (.int .i64 k0)).far_ h1 h2 h3 1 (.string t0)).far_ h1 h2 h3 2 (.int .i64 m0)).far_ h1 h2 h3 3 (.slice none 0 0)
 refine ⟨⟨A1,n1,c1,A2,n2,c2,A3,n3,c3,none,0,0,rfl,?_,N4,Sl.nil_ _ _,⟨((((T.1.set b 0 _).set b 1 _).set b 2 _).set b 3 _),((((T.2.1.set b 0 _).set b 1 _).set b 2 _).set b 3 _),((((T.2.2.set b 0 _).set b 1 _).set b 2 _).set b 3 _),Tp.none_⟩,?_⟩,R4⟩
 ·exact (((G.far (by simpa using hgb) _).far (by simpa using hgb) _).far (by simpa using hgb) _).far (by simpa using hgb) _
 ·exact (((q.setN hb hbw 0 _).setN hb hbw 1 _).setN hb hbw 2 _).setN hb hbw 3 _
theorem cutA_block {b c k size:Nat}:∀ a,cutA (some ⟨b,0,none⟩) c k size=some a→a.block=b:=by
 intro a h
 unfold cutA at h
 split at h
 ·injection h with h;rw [←h]
 ·simp [Addr.add_lit] at h;rw [←h]
set_option maxRecDepth 100000 in
theorem list_any (v:Va) (c:Cmd) (B g:Nat) (A1 A2 A3:Option Addr) (n1 c1 n2 c2 n3 c3:Nat) (w:World) (hG:Blk w g 96 #[.int .i64 v.kind,.string v.text,.int .i64 v.count,.slice A1 n1 c1,.slice A2 n2 c2,.slice A3 n3 c3])
  (hN:VNew w B v (.slice A1 n1 c1) (.slice A2 n2 c2) (.slice A3 n3 c3)) (hg:B≤g) (hBw:B≤w.heap.size) (hn:n2≤20) (hk:c.kind=7∨c.kind=8∨c.kind=9∨c.kind=10) (hp:9≤c.kind→0<n2) :
  Calls Tryz.prog 156 #[.pointer (some ⟨g,0,none⟩),.agg #[.int .i64 c.kind,.string c.key,.string c.field,.string c.text,.int .i64 c.n]] w (DoPost (doList v c).1 (doList v c).2 B g w):=by
 have hlen:v.items.length=n2:=hN.sl.n2_
 obtain ⟨D,hD⟩:∃ D,D=doList v c:=⟨_,rfl⟩
 rw [←hD]
 obtain ⟨kind,key,field,text,n⟩:=c
 obtain ⟨vk,vt,vc,ps,is_,ss⟩:=v
 simp only at hlen hG hN hk hp ⊢
 unfold doList at hD
 simp only [hlen] at hD
 have HD:=hide hD;have HL:=hide hlen
 clear hD hlen
 have hgl:=hG.lt
 have hG1:=hG.alloc (.cells #[.int .i64 kind,.string key,.string field,.string text,.int .i64 n] 31)
 have hC1:=Blk.new w 31 #[.int .i64 kind,.string key,.string field,.string text,.int .i64 n]
 have C:=hC1.alloc (.cells #[.int .i64 0,.string { data:=#[] },.int .i64 0,.slice none 0 0] 102)
 have G:=hG1.alloc (.cells #[.int .i64 0,.string { data:=#[] },.int .i64 0,.slice none 0 0] 102)
 have N:=(hN.al (.cells #[.int .i64 kind,.string key,.string field,.string text,.int .i64 n] 31)).al (.cells #[.int .i64 0,.string { data:=#[] },.int .i64 0,.slice none 0 0] 102)
 have q:Below w.heap.size w ((w.alloc (.cells #[.int .i64 kind,.string key,.string field,.string text,.int .i64 n] 31)).alloc (.cells #[.int .i64 0,.string { data:=#[] },.int .i64 0,.slice none 0 0] 102)):=below_by
 have R:Blk ((w.alloc (.cells #[.int .i64 kind,.string key,.string field,.string text,.int .i64 n] 31)).alloc (.cells #[.int .i64 0,.string { data:=#[] },.int .i64 0,.slice none 0 0] 102)) (w.heap.size+1) 102 #[.int .i64 0,.string { data:=#[] },.int .i64 0,.slice none 0 0]:=Blk.new' _ _ _ (by simp)
 obtain ⟨wc,hwc⟩:∃ wc,wc=(w.alloc (.cells #[.int .i64 kind,.string key,.string field,.string text,.int .i64 n] 31)).alloc (.cells #[.int .i64 0,.string { data:=#[] },.int .i64 0,.slice none 0 0] 102):=⟨_,rfl⟩
 rw [←hwc] at C G N q R
 have hBc:B≤wc.heap.size:=by have:=q.size;omega
 have hgw:g<wc.heap.size:=G.lt
 have hww:w.heap.size<wc.heap.size:=C.lt
 clear hG1 hC1 hG hN
 have HWC:=hide hwc
 clear hwc
 rcases hk with rfl|rfl|rfl|rfl
 ·by_cases h20:n2=20
  ·have hv:D=(⟨vk,vt,vc,ps,is_,ss⟩,failR 6):=by rw [HD.out];simp [h20]
   have HV:=hide hv
   clear HD hv
   subst h20
   (try clear cG fG);have cG:=G.cell;have fG:=G.frozen;(try clear cC fC);have cC:=C.cell;have fC:=C.frozen
   go_enter Tryz.func156,Tryz.ntmps156
   go_upto_region 1 with fail
   rw [←HWC.out]
   go_wp2_with fail
   refine (failed_any 6 _).mono ?_
   rintro e w9 ⟨rfl,hb9⟩
   have R9:=(R).below' hb9
   (try clear cR9 fR9);have cR9:=R9.cell;have fR9:=R9.frozen
   obtain ⟨P,R6⟩:=re_done (k0:=6) (t0:=emp) (m0:=0) ((G).below' hb9) R9 ((N).bl hb9) (mov_post (Mov.of q hBw) (by have:=((Mov.of q hBw)).size;omega) hb9) (by omega) (by omega) (by omega)
   go_wp2_with fail
   have cR6:=R6.cell
   refine bodyPost_ret (v:=.agg #[.int .i64 6,.string emp,.int .i64 0,.slice none 0 0]) ?_ rfl (by rw [HV.out];exact P)
   simp [results,Tryz.results156,go_sem,cR6]
  ·have hv:D=(⟨vk,vt,vc,ps,is_ ++ [text],ss⟩,toldR ((n2:Int)+1)):=by rw [HD.out];simp [h20]
   have HV:=hide hv
   clear HD hv
   have h20b:((n2:Int) == 20)=false:=by rw [beq_eq_false_iff_ne];omega
   clear h20
   (try clear cG fG);have cG:=G.cell;have fG:=G.frozen;(try clear cC fC);have cC:=C.cell;have fC:=C.frozen
   go_enter Tryz.func156,Tryz.ntmps156
   go_upto_region 1 with fail
   rw [←HWC.out]
   go_wp2_with fail
   have G1:=G.drew;have C1:=C.drew
   refine wp_region_x (l:=[11]) (S:=fun w'=>w'.cell? ⟨g,4,none⟩=some (.slice A2 n2 c2)∧w'.cell? ⟨w.heap.size,3,none⟩=some (.string text)) (by kernel_rfl) ⟨G1.cell 4,C1.cell 3⟩ (fun hS=>?_)
   refine wpAnyX_tq 0 ?_
   refine wpAnyX_tq 1 ?_
   refine wpAnyX_tq 2 ?_
   refine wpAnyX_tq 3 ?_
   refine wpAnyX_tq 4 ?_
   refine wpAnyX_tq 5 ?_
   refine wpAnyX_tq 6 ?_
   refine wpAnyX_oq 7 fun K hK=>?_
   go_wp2_with fail
   have G2:=(G.alloc (.cells #[.string text] 9)).drew;have C2:=(C.alloc (.cells #[.string text] 9)).drew;have R2:=(R.alloc (.cells #[.string text] 9)).drew;have N2:=(N.al (.cells #[.string text] 9)).dr
   have X2:Blk (wc.alloc (.cells #[.string text] 9)).drew wc.heap.size 9 #[.string text]:=Blk.new _ _ _
   have q2:Mov B w (wc.alloc (.cells #[.string text] 9)).drew:=((Mov.of q hBw).alloc hBc _).drew
   have hwl:(wc.alloc (.cells #[.string text] 9)).drew.heap.size=wc.heap.size+1:=by simp
   have HWL:=hide hwl
   clear hwl
   have hone:∀ u∈(#[Value.string text]:Array Value).toList,u.oneCell'=true:=by intro u hu;simp at hu;subst hu;rfl
   have hwB:B≤(wc.alloc (.cells #[.string text] 9)).drew.heap.size:=by rw [HWL.out];omega
   refine hK.out _ _ (Or.inr ⟨G2.cell 4,C2.cell 3⟩) (fun hS=>?_)
   replace hS:=hS.resolve_left (by decide)
   clear hK K G1 C1
   have N2p:Own (wc.alloc (.cells #[.string text] 9)).drew B 9 1 (.slice A2 n2 c2) (strRows is_):=N2.2.1
   have N2l:(strRows is_).length=n2:=N2p.n_eq.symm
   obtain ⟨A',n',c',w3,hap,o3,g3⟩:=N2p.join (P:=Tryz.prog) (t:=93) Tryz.underlying93 text_info rfl (by omega) (Sl.one_ X2 rfl) (by intro r hr;simp at hr;subst hr;exact hone) (by unfold maxLen;omega) (by omega) hwB 93
   clear N2l
   refine wpAnyX_oq 8 fun K hK=>?_
   go_wp2_with (at_builtin;refine Lib.wpList_append_run _ rfl _ _ _ _ rfl _ _ rfl rfl _ _ hap ?_)
   have G3:=blk_other G2 N2p g3;have C3:=blk_other C2 N2p g3;have R3:=blk_other R2 N2p g3
   have q3:=q2.trans (mov_grown N2p g3 hwB)
   have N3:VNew w3 B ⟨vk,vt,vc,ps,is_ ++ [text],ss⟩ (.slice A1 n1 c1) (.slice A' n' c') (.slice A3 n3 c3):=⟨own_other N2.1 N2p g3,by have:=o3;simp only [insRows,strRows,List.map_append,List.map_take,List.map_drop,List.map_cons,List.map_nil] at this ⊢;exact this,own_other N2.2.2 N2p g3⟩
   refine hK.out _ _ (Or.inr ⟨G3.cell 4,C3.cell 3⟩) (fun hS=>?_)
   replace hS:=hS.resolve_left (by decide)
   clear hK K G2 C2 R2 N2 q2 X2 o3 g3
   (try clear cG3 fG3);have cG3:=G3.cell;have fG3:=G3.frozen
   refine wpAnyX_ps 9 ?_
   refine wpAnyX_ps 10 ?_
   refine wpAnyX_oq 11 fun K hK=>?_
   go_wp2_with fail
   have G4:=G3.set' (i:=4) (u:=.slice A' n' c') rfl
   have R4:=R3.far (p:=⟨g,4,none⟩) (by simp;omega) (.slice A' n' c')
   have N4:=N3.st' G3 4 (.slice A' n' c')
   have q4:=q3.setV G3 hg 4 (.slice A' n' c')
   refine hK.out _ _ (Or.inl (by decide)) (fun hS=>?_)
   clear hK K hS G3 R3 N3 q3 cG3 fG3 cG fG cC fC
   refine wpAnyX_done (by kernel_rfl) ?_ _
   go_wp2_with fail
   refine (told_any ((n2:Int)+1) _).mono ?_
   rintro e w9 ⟨rfl,hb9⟩
   have R9:=(R4).below' hb9
   (try clear cR9 fR9);have cR9:=R9.cell;have fR9:=R9.frozen
   obtain ⟨P,R6⟩:=re_done (k0:=0) (t0:=emp) (m0:=((n2:Int)+1)) ((G4).below' hb9) R9 ((N4).bl hb9) (mov_post q4 (by have:=(q4).size;omega) hb9) (by omega) (by omega) (by omega)
   go_wp2_with fail
   have cR6:=R6.cell
   refine bodyPost_ret (v:=.agg #[.int .i64 0,.string emp,.int .i64 ((n2:Int)+1),.slice none 0 0]) ?_ rfl (by rw [HV.out];exact P)
   simp [results,Tryz.results156,go_sem,cR6]
 ·by_cases h20:n2=20
  ·have hv:D=(⟨vk,vt,vc,ps,is_,ss⟩,failR 6):=by rw [HD.out];simp [h20]
   have HV:=hide hv
   clear HD hv
   subst h20
   (try clear cG fG);have cG:=G.cell;have fG:=G.frozen;(try clear cC fC);have cC:=C.cell;have fC:=C.frozen
   go_enter Tryz.func156,Tryz.ntmps156
   go_upto_region 1 with fail
   rw [←HWC.out]
   go_wp2_with fail
   refine (failed_any 6 _).mono ?_
   rintro e w9 ⟨rfl,hb9⟩
   have R9:=(R).below' hb9
   (try clear cR9 fR9);have cR9:=R9.cell;have fR9:=R9.frozen
   obtain ⟨P,R6⟩:=re_done (k0:=6) (t0:=emp) (m0:=0) ((G).below' hb9) R9 ((N).bl hb9) (mov_post (Mov.of q hBw) (by have:=((Mov.of q hBw)).size;omega) hb9) (by omega) (by omega) (by omega)
   go_wp2_with fail
   have cR6:=R6.cell
   refine bodyPost_ret (v:=.agg #[.int .i64 6,.string emp,.int .i64 0,.slice none 0 0]) ?_ rfl (by rw [HV.out];exact P)
   simp [results,Tryz.results156,go_sem,cR6]
  ·have hv:D=(⟨vk,vt,vc,ps,insRows is_ 0 text,ss⟩,toldR ((n2:Int)+1)):=by rw [HD.out];simp [h20]
   have HV:=hide hv
   clear HD hv
   have h20b:((n2:Int) == 20)=false:=by rw [beq_eq_false_iff_ne];omega
   clear h20
   (try clear cG fG);have cG:=G.cell;have fG:=G.frozen;(try clear cC fC);have cC:=C.cell;have fC:=C.frozen
   go_enter Tryz.func156,Tryz.ntmps156
   go_upto_region 1 with fail
   rw [←HWC.out]
   go_wp2_with fail
   have G1:=G.drew;have C1:=C.drew
   refine wp_region_x (l:=[11]) (S:=fun w'=>w'.cell? ⟨g,4,none⟩=some (.slice A2 n2 c2)∧w'.cell? ⟨w.heap.size,3,none⟩=some (.string text)) (by kernel_rfl) ⟨G1.cell 4,C1.cell 3⟩ (fun hS=>?_)
   refine wpAnyX_tq 0 ?_
   refine wpAnyX_tq 1 ?_
   refine wpAnyX_tq 2 ?_
   refine wpAnyX_tq 3 ?_
   refine wpAnyX_tq 4 ?_
   refine wpAnyX_tq 5 ?_
   refine wpAnyX_tq 6 ?_
   refine wpAnyX_oq 7 fun K hK=>?_
   go_wp2_with fail
   have G2:=(G.alloc (.cells #[.string text] 9)).drew;have C2:=(C.alloc (.cells #[.string text] 9)).drew;have R2:=(R.alloc (.cells #[.string text] 9)).drew;have N2:=(N.al (.cells #[.string text] 9)).dr
   have X2:Blk (wc.alloc (.cells #[.string text] 9)).drew wc.heap.size 9 #[.string text]:=Blk.new _ _ _
   have q2:Mov B w (wc.alloc (.cells #[.string text] 9)).drew:=((Mov.of q hBw).alloc hBc _).drew
   have hwl:(wc.alloc (.cells #[.string text] 9)).drew.heap.size=wc.heap.size+1:=by simp
   have HWL:=hide hwl
   clear hwl
   have hone:∀ u∈(#[Value.string text]:Array Value).toList,u.oneCell'=true:=by intro u hu;simp at hu;subst hu;rfl
   have hwB:B≤(wc.alloc (.cells #[.string text] 9)).drew.heap.size:=by rw [HWL.out];omega
   refine hK.out _ _ (Or.inr ⟨G2.cell 4,C2.cell 3⟩) (fun hS=>?_)
   replace hS:=hS.resolve_left (by decide)
   clear hK K G1 C1
   have N2p:Own (wc.alloc (.cells #[.string text] 9)).drew B 9 1 (.slice A2 n2 c2) (strRows is_):=N2.2.1
   have hbv:some wc.heap.size≠(Value.slice A2 n2 c2).ownBlock:=by
    intro e
    obtain ⟨cur,hcur⟩:=own_typed N.2.1 e.symm
    have:wc.heap.size<wc.heap.size:=(Array.getElem?_eq_some_iff.1 hcur).1
    omega
   have hins:=Insert_text A2 n2 c2 B 0 wc.heap.size (strRows is_) #[.string text] _ N2p (str_one _) (Nat.zero_le _) (by omega) X2 rfl hone hbv (by rw [HWL.out];omega)
   rw [show ((0:Nat):Int)=0 from rfl] at hins
   have HINS:=hide hins
   clear hins
   refine wpAnyX_oq 8 fun K hK=>?_
   go_wp2_with fail
   ((with_reducible refine HINS.out.mono ?_);rintro e w3 ⟨A',n',c',rfl,o3,g3⟩)
   go_wp2_with fail
   have G3:=blk_other G2 N2p g3;have C3:=blk_other C2 N2p g3;have R3:=blk_other R2 N2p g3
   have q3:=q2.trans (mov_grown N2p g3 hwB)
   have N3:VNew w3 B ⟨vk,vt,vc,ps,insRows is_ 0 text,ss⟩ (.slice A1 n1 c1) (.slice A' n' c') (.slice A3 n3 c3):=⟨own_other N2.1 N2p g3,by have:=o3;simp only [insRows,strRows,List.map_append,List.map_take,List.map_drop,List.map_cons,List.map_nil] at this ⊢;exact this,own_other N2.2.2 N2p g3⟩
   refine hK.out _ _ (Or.inr ⟨G3.cell 4,C3.cell 3⟩) (fun hS=>?_)
   replace hS:=hS.resolve_left (by decide)
   clear hK K G2 C2 R2 N2 q2 X2 o3 g3
   (try clear cG3 fG3);have cG3:=G3.cell;have fG3:=G3.frozen
   refine wpAnyX_ps 9 ?_
   refine wpAnyX_ps 10 ?_
   refine wpAnyX_oq 11 fun K hK=>?_
   go_wp2_with fail
   have G4:=G3.set' (i:=4) (u:=.slice A' n' c') rfl
   have R4:=R3.far (p:=⟨g,4,none⟩) (by simp;omega) (.slice A' n' c')
   have N4:=N3.st' G3 4 (.slice A' n' c')
   have q4:=q3.setV G3 hg 4 (.slice A' n' c')
   refine hK.out _ _ (Or.inl (by decide)) (fun hS=>?_)
   clear hK K hS G3 R3 N3 q3 cG3 fG3 cG fG cC fC
   refine wpAnyX_done (by kernel_rfl) ?_ _
   go_wp2_with fail
   refine (told_any ((n2:Int)+1) _).mono ?_
   rintro e w9 ⟨rfl,hb9⟩
   have R9:=(R4).below' hb9
   (try clear cR9 fR9);have cR9:=R9.cell;have fR9:=R9.frozen
   obtain ⟨P,R6⟩:=re_done (k0:=0) (t0:=emp) (m0:=((n2:Int)+1)) ((G4).below' hb9) R9 ((N4).bl hb9) (mov_post q4 (by have:=(q4).size;omega) hb9) (by omega) (by omega) (by omega)
   go_wp2_with fail
   have cR6:=R6.cell
   refine bodyPost_ret (v:=.agg #[.int .i64 0,.string emp,.int .i64 ((n2:Int)+1),.slice none 0 0]) ?_ rfl (by rw [HV.out];exact P)
   simp [results,Tryz.results156,go_sem,cR6]
 ·have hpos:0<n2:=hp (by omega)
  obtain ⟨m,hm⟩:∃ m,m=n2 - 1:=⟨_,rfl⟩
  have hml:m<is_.length:=by rw [HL.out];omega
  obtain ⟨y,hy⟩:∃ y,is_[m]?=some y:=⟨_,List.getElem?_eq_getElem hml⟩
  have hv:D=(⟨vk,vt,vc,ps,is_.take m,ss⟩,textR y):=by rw [HD.out,←hm,hy];simp
  have HV:=hide hv
  obtain ⟨b,hb1,hb2,hb3,-,hb5,hb6⟩:=N.2.1.block (by simp [strRows];omega)
  subst hb1
  have hcx:wc.cell? ⟨b,m,none⟩=some (.string y):=by have:=hb6 m [.string y] (by simp [strRows,hy]) 0 _ rfl;simpa using this
  have hw1:IntKind.i64.wrap ((n2:Int) - 1)=(m:Int):=by rw [IntWalk.i64_in _ (by omega)];omega
  have hz1:(0:Int)≤m:=by omega
  have hz2:(m:Int)<n2:=by omega
  have hnc:=N.2.1.sl'.nc
  have hcm:=N.2.1.sl'.cm
  unfold maxLen at hcm
  have st:=run_take (P:=Tryz.prog) Tryz.underlying93 (by kernel_rfl:(Tryz.prog.info? 9).map (·.size)=some 1) (some ⟨b,0,none⟩) n2 c2 m (by omega)
  have hsl:=N.2.1.sl'.take m (by omega) c2 (by omega) (Nat.le_refl _)
  have hsr:(strRows is_).take m=strRows (is_.take m):=by simp [strRows]
  rw [hsr] at hsl
  have HT2:=hide (own_tp N.2.1)
  have hbg:=own_not N.2.1 G;have hbr:=own_not N.2.1 R
  have hne1:=own_ne N.1 G;have hne3:=own_ne N.2.2 G;have hnr1:=own_ne N.1 R;have hnr3:=own_ne N.2.2 R
  have HN1:=hide hne1;have HN3:=hide hne3;have HR1:=hide hnr1;have HR3:=hide hnr3
  clear hne1 hne3 hnr1 hnr3
  have hNS:VSl wc ⟨vk,vt,vc,ps,is_.take m,ss⟩ A1 n1 c1 (some ⟨b,0,none⟩) m c2 A3 n3 c3:=⟨N.1.sl',hsl,N.2.2.sl'⟩
  have hB2:∀ a,(some ⟨b,0,none⟩:Option Addr)=some a→a.block≠g:=by rintro a ⟨⟩;exact hbg
  have hB3:∀ a,(some ⟨b,0,none⟩:Option Addr)=some a→a.block≠w.heap.size+1:=by rintro a ⟨⟩;exact hbr
  have HB2:=hide hB2;have HB3:=hide hB3
  clear hB2 hB3
  have HM:=hide hm
  clear HD hv hm hml hy hsr hb6 hp HL hsl
  (try clear cG fG);have cG:=G.cell;have fG:=G.frozen;(try clear cC fC);have cC:=C.cell;have fC:=C.frozen
  go_enter Tryz.func156,Tryz.ntmps156
  go_upto_region 1 with fail
  rw [←HWC.out]
  go_wp2_with fail
  have G1:=G.drew
  refine wp_region_x (l:=[19]) (S:=fun w'=>w'.cell? ⟨g,4,none⟩=some (.slice (some ⟨b,0,none⟩) n2 c2)∧w'.cell? ⟨b,m,none⟩=some (.string y)) (by kernel_rfl) ⟨G1.cell 4,hcx⟩ (fun hS=>?_)
  refine wpAnyX_tq 0 ?_
  refine wpAnyX_tq 1 ?_
  refine wpAnyX_tq 2 ?_
  refine wpAnyX_tq 3 ?_
  refine wpAnyX_tq 4 ?_
  refine wpAnyX_tq 5 ?_
  refine wpAnyX_tq 6 ?_
  refine wpAnyX_tq 7 ?_
  refine wpAnyX_tq 8 ?_
  refine wpAnyX_tq 9 ?_
  refine wpAnyX_tq 10 ?_
  refine wpAnyX_tq 11 ?_
  refine wpAnyX_tq 12 ?_
  refine wpAnyX_tq 13 ?_
  refine wpAnyX_tq 14 ?_
  refine wpAnyX_tq 15 ?_
  refine wpAnyX_tq 16 ?_
  refine wpAnyX_ps 17 ?_
  refine wpAnyX_ps 18 ?_
  (try clear cG1 fG1);have cG1:=G1.cell;have fG1:=G1.frozen
  refine wpAnyX_oq 19 fun K hK=>?_
  go_wp2_with fail
  have G4:=(G.set' (i:=4) (u:=.slice (some ⟨b,0,none⟩) m c2) rfl).drew
  have R4:=Blk.drew (R.far (p:=⟨g,4,none⟩) (by simp;omega) (.slice (some ⟨b,0,none⟩) m c2))
  have N4:=(hNS.far_ HN1.out HB2.out HN3.out 4 (.slice (some ⟨b,0,none⟩) m c2)).dr
  have q4:=((Mov.of q hBw).setV G hg 4 (.slice (some ⟨b,0,none⟩) m c2)).drew
  have T4:Tp (wc.setCell ⟨g,4,none⟩ (.slice (some ⟨b,0,none⟩) m c2)).drew A1 137∧Tp (wc.setCell ⟨g,4,none⟩ (.slice (some ⟨b,0,none⟩) m c2)).drew (some ⟨b,0,none⟩) 9∧Tp (wc.setCell ⟨g,4,none⟩ (.slice (some ⟨b,0,none⟩) m c2)).drew A3 139:=⟨(own_tp N.1).set g 4 _,HT2.out.set g 4 _,(own_tp N.2.2).set g 4 _⟩
  refine hK.out _ _ (Or.inl (by decide)) (fun hS=>?_)
  clear hK K hS cG fG cC fC cG1 fG1
  refine wpAnyX_done (by kernel_rfl) ?_ _
  generalize (wc.setCell ⟨g,4,none⟩ (Value.slice (some ⟨b,0,none⟩) m c2)).drew=w5 at G4 R4 N4 q4 T4 ⊢
  (try clear cR4 fR4);have cR4:=R4.cell;have fR4:=R4.frozen
  obtain ⟨P,R6⟩:=re_done2 (k0:=0) (t0:=y) (m0:=0) G4 R4 N4 HR1.out HB3.out HR3.out T4 q4 (by omega) (by omega) (by omega)
  go_wp2_with fail
  have cR6:=R6.cell
  refine bodyPost_ret (v:=.agg #[.int .i64 0,.string y,.int .i64 0,.slice none 0 0]) ?_ rfl (by rw [HV.out];exact P)
  simp [results,Tryz.results156,go_sem,cR6]
 ·have hpos:0<n2:=hp (by omega)
  have hml:0<is_.length:=by rw [HL.out];omega
  obtain ⟨y,hy⟩:∃ y,is_[0]?=some y:=⟨_,List.getElem?_eq_getElem hml⟩
  have hv:D=(⟨vk,vt,vc,ps,is_.drop 1,ss⟩,textR y):=by rw [HD.out,hy];simp
  have HV:=hide hv
  obtain ⟨b,hb1,hb2,hb3,-,hb5,hb6⟩:=N.2.1.block (by simp [strRows];omega)
  subst hb1
  have hcx:wc.cell? ⟨b,0,none⟩=some (.string y):=by have:=hb6 0 [.string y] (by simp [strRows,hy]) 0 _ rfl;simpa using this
  have hz1:(0:Int)<n2:=by omega
  have hnc:=N.2.1.sl'.nc
  have hcm:=N.2.1.sl'.cm
  unfold maxLen at hcm
  obtain ⟨d,hd⟩:∃ d,d=cutA (some ⟨b,0,none⟩) c2 1 1:=⟨_,rfl⟩
  obtain ⟨m1,hm1⟩:∃ m,m=n2 - 1:=⟨_,rfl⟩
  obtain ⟨m2,hm2⟩:∃ m,m=c2 - 1:=⟨_,rfl⟩
  have st:∀ w,(Instr.slice 93 (.slice (some ⟨b,0,none⟩) n2 c2) (some (.int .i64 1)) none none).run Tryz.prog w = .ok (.slice d m1 m2) w:=by
   rw [hd,hm1,hm2]
   exact run_cut (P:=Tryz.prog) Tryz.underlying93 (by kernel_rfl:(Tryz.prog.info? 9).map (·.size)=some 1) (some ⟨b,0,none⟩) n2 c2 1 (by omega)
  have hsl:=N.2.1.sl'.drop 1 (by omega) c2 (Nat.le_refl _) hnc
  have hsr:(strRows is_).drop 1=strRows (is_.drop 1):=by simp [strRows]
  rw [hsr,←hd,←hm1,←hm2] at hsl
  have hdb:∀ a,d=some a→a.block=b:=by rw [hd];exact cutA_block
  have hbg:=own_not N.2.1 G;have hbr:=own_not N.2.1 R
  have hne1:=own_ne N.1 G;have hne3:=own_ne N.2.2 G;have hnr1:=own_ne N.1 R;have hnr3:=own_ne N.2.2 R
  have HN1:=hide hne1;have HN3:=hide hne3;have HR1:=hide hnr1;have HR3:=hide hnr3
  clear hne1 hne3 hnr1 hnr3
  have hNS:VSl wc ⟨vk,vt,vc,ps,is_.drop 1,ss⟩ A1 n1 c1 d m1 m2 A3 n3 c3:=⟨N.1.sl',hsl,N.2.2.sl'⟩
  have hT2:Tp wc d 9:=fun a ha=>by rw [hdb a ha];exact own_tp N.2.1 _ rfl
  have HT2:=hide hT2
  clear hT2
  have hB2:∀ a,d=some a→a.block≠g:=fun a ha=>by rw [hdb a ha];exact hbg
  have hB3:∀ a,d=some a→a.block≠w.heap.size+1:=fun a ha=>by rw [hdb a ha];exact hbr
  have HB2:=hide hB2;have HB3:=hide hB3
  clear hB2 hB3
  clear HD hv hml hy hsr hb6 hp HL hd hm1 hm2 hsl hdb
  (try clear cG fG);have cG:=G.cell;have fG:=G.frozen;(try clear cC fC);have cC:=C.cell;have fC:=C.frozen
  go_enter Tryz.func156,Tryz.ntmps156
  go_upto_region 1 with fail
  rw [←HWC.out]
  go_wp2_with fail
  have G1:=G.drew
  refine wp_region_x (l:=[15]) (S:=fun w'=>w'.cell? ⟨g,4,none⟩=some (.slice (some ⟨b,0,none⟩) n2 c2)∧w'.cell? ⟨b,0,none⟩=some (.string y)) (by kernel_rfl) ⟨G1.cell 4,hcx⟩ (fun hS=>?_)
  refine wpAnyX_tq 0 ?_
  refine wpAnyX_tq 1 ?_
  refine wpAnyX_tq 2 ?_
  refine wpAnyX_tq 3 ?_
  refine wpAnyX_tq 4 ?_
  refine wpAnyX_tq 5 ?_
  refine wpAnyX_tq 6 ?_
  refine wpAnyX_tq 7 ?_
  refine wpAnyX_tq 8 ?_
  refine wpAnyX_tq 9 ?_
  refine wpAnyX_tq 10 ?_
  refine wpAnyX_tq 11 ?_
  refine wpAnyX_tq 12 ?_
  refine wpAnyX_ps 13 ?_
  refine wpAnyX_ps 14 ?_
  (try clear cG1 fG1);have cG1:=G1.cell;have fG1:=G1.frozen
  refine wpAnyX_oq 15 fun K hK=>?_
  go_wp2_with fail
  have G4:=(G.set' (i:=4) (u:=.slice d m1 m2) rfl).drew
  have R4:=Blk.drew (R.far (p:=⟨g,4,none⟩) (by simp;omega) (.slice d m1 m2))
  have N4:=(hNS.far_ HN1.out HB2.out HN3.out 4 (.slice d m1 m2)).dr
  have q4:=((Mov.of q hBw).setV G hg 4 (.slice d m1 m2)).drew
  have T4:Tp (wc.setCell ⟨g,4,none⟩ (.slice d m1 m2)).drew A1 137∧Tp (wc.setCell ⟨g,4,none⟩ (.slice d m1 m2)).drew d 9∧Tp (wc.setCell ⟨g,4,none⟩ (.slice d m1 m2)).drew A3 139:=⟨(own_tp N.1).set g 4 _,HT2.out.set g 4 _,(own_tp N.2.2).set g 4 _⟩
  refine hK.out _ _ (Or.inl (by decide)) (fun hS=>?_)
  clear hK K hS cG fG cC fC cG1 fG1
  refine wpAnyX_done (by kernel_rfl) ?_ _
  generalize (wc.setCell ⟨g,4,none⟩ (Value.slice d m1 m2)).drew=w5 at G4 R4 N4 q4 T4 ⊢
  (try clear cR4 fR4);have cR4:=R4.cell;have fR4:=R4.frozen
  obtain ⟨P,R6⟩:=re_done2 (k0:=0) (t0:=y) (m0:=0) G4 R4 N4 HR1.out HB3.out HR3.out T4 q4 (by omega) (by omega) (by omega)
  go_wp2_with fail
  have cR6:=R6.cell
  refine bodyPost_ret (v:=.agg #[.int .i64 0,.string y,.int .i64 0,.slice none 0 0]) ?_ rfl (by rw [HV.out];exact P)
  simp [results,Tryz.results156,go_sem,cR6]
end Go.Proofs.YtgmojjclobkpjaaGreatDoor

