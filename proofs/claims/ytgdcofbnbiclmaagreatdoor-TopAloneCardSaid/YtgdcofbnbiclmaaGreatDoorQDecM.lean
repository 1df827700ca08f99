import Derived.Test.YtgdcofbnbiclmaaGreatDoorQCrwP
namespace Go.Proofs.YtgdcofbnbiclmaaGreatDoor
set_option linter.all false
set_option maxHeartbeats 32000000
open Go.RowKit
theorem Clone_u8 (A:Option Addr) (n c:Nat) (rows:List (List Value)) (w:World) (h:Sl w 1 A n c rows) (h1:∀ r∈rows,∀ u∈r,u.oneCell'=true) (hb:n*1≤140737488355328) :
  Calls Tryz.prog 194 #[.slice A n c] w fun e w'=>∃ v,e = .returned v∧Own w' w.heap.size 5 1 v rows∧Below w.heap.size w w':=by
 have hS:=h
 obtain ⟨hl,hnc,hcm,hn0,hs,hr⟩:=h
 have hq:=fun w=>Lib.run_eql_slice_nil (P:=Tryz.prog) w 113 5 A n c 0 0 Tryz.underlying113
 cases A with
 | none=>
  obtain rfl:=hn0 rfl
  obtain rfl:n=0:=by omega
  obtain rfl:=List.eq_nil_of_length_eq_zero hl
  go_enter Tryz.func194,Tryz.ntmps194
  go_wp2_with fail
  go_ret
  exact ⟨_,rfl,Own.nil,below_by⟩
 | some a=>
  by_cases hn:n=0
  ·subst hn
   obtain rfl:=List.eq_nil_of_length_eq_zero hl
   go_enter Tryz.func194,Tryz.ntmps194
   go_wp2_with fail
   go_ret
   exact ⟨_,rfl,Own.empty _ _ _ (Nat.le_refl _),below_by⟩
  ·go_enter Tryz.func194,Tryz.ntmps194
   go_wp2_with (at_builtin;refine wpList_grow rfl _ _ _ rfl Tryz.underlying113 u8_info rfl (by decide) (rows:=[]) rfl rfl (by simp) Seg.nil (by simp) rfl hl hr (hs.alloc _) h1 (by omega) (by omega) (by rw [Nat.zero_add];omega) (by omega) ?_;intro v' w1 hown hb1)
   go_ret
   exact ⟨_,rfl,by simpa using hown.mono (by simp),bstep below_by hb1⟩
theorem whole_client {w2:World} {b:Nat} {x0 x1 x2 x3 x4 x5 x6:Value} (u0 u1 u2 u3 u4 u5 u6:Value) (R:Blk w2 b 142 #[x0,x1,x2,x3,x4,x5,x6]) :
  Blk (((((((w2.setCell ⟨b,0,none⟩ u0).setCell ⟨b,1,none⟩ u1).setCell ⟨b,2,none⟩ u2).setCell ⟨b,3,none⟩ u3).setCell ⟨b,4,none⟩ u4).setCell ⟨b,5,none⟩ u5).setCell ⟨b,6,none⟩ u6) b 142 #[u0,u1,u2,u3,u4,u5,u6]∧w2.grownBy (((((((w2.setCell ⟨b,0,none⟩ u0).setCell ⟨b,1,none⟩ u1).setCell ⟨b,2,none⟩ u2).setCell ⟨b,3,none⟩ u3).setCell ⟨b,4,none⟩ u4).setCell ⟨b,5,none⟩ u5).setCell ⟨b,6,none⟩ u6) (some b)∧(((((((w2.setCell ⟨b,0,none⟩ u0).setCell ⟨b,1,none⟩ u1).setCell ⟨b,2,none⟩ u2).setCell ⟨b,3,none⟩ u3).setCell ⟨b,4,none⟩ u4).setCell ⟨b,5,none⟩ u5).setCell ⟨b,6,none⟩ u6).heap.size=w2.heap.size:=by
 have R0:=R.set' (i:=0) (u:=u0) rfl
 have R1:=R0.set' (i:=1) (u:=u1) rfl
 have R2:=R1.set' (i:=2) (u:=u2) rfl
 have R3:=R2.set' (i:=3) (u:=u3) rfl
 have R4:=R3.set' (i:=4) (u:=u4) rfl
 have R5:=R4.set' (i:=5) (u:=u5) rfl
 have R6:=R5.set' (i:=6) (u:=u6) rfl
 exact ⟨R6,(grown_trans (grown_trans (grown_trans (grown_trans (grown_trans (grown_trans (grown_setRow_cell w2 b 0 u0) (grown_setRow_cell _ b 1 u1)) (grown_setRow_cell _ b 2 u2)) (grown_setRow_cell _ b 3 u3)) (grown_setRow_cell _ b 4 u4)) (grown_setRow_cell _ b 5 u5)) (grown_setRow_cell _ b 6 u6)),by simp⟩
def JE (W0 w1:World) (g bm:Nat) (now:Int) (w:World) (st:RS) (acc:List En):Prop:=
 Rd W0 w g st∧Keep2 w1 w g bm∧∃ A n c,Blk w bm 49 #[.int .i64 now,.slice A n c,.int .i64 0,.slice none 0 0]∧StOwn w w1.heap.size A n c acc
def JC (W0 w1:World) (g bm:Nat) (now next:Int) (E:Value) (w:World) (st:RS) (acc:List Cl):Prop:=
 Rd W0 w g st∧Keep2 w1 w g bm∧∃ A n c,Blk w bm 49 #[.int .i64 now,E,.int .i64 next,.slice A n c]∧ClOwn w w1.heap.size A n c acc
section
variable {W0 w w' w1:World} {g base n c:Nat} {st:RS} {A:Option Addr}
theorem StOwn.wr {l:List En} (h:StOwn w base A n c l) (R:Rd W0 w g st) (q:Wrote w w' g Nil Nil) (hg:g<base):StOwn w' base A n c l:=by
 obtain ⟨rows,k1,k2⟩:=h
 exact ⟨rows,k1.wr q hg,k2.fr (Fr.wr R q)⟩
theorem ClOwn.wr {l:List Cl} (h:ClOwn w base A n c l) (R:Rd W0 w g st) (q:Wrote w w' g Nil Nil) (hg:g<base):ClOwn w' base A n c l:=by
 obtain ⟨rows,k1,k2⟩:=h
 exact ⟨rows,k1.wr q hg,k2.fr (Fr.wr R q)⟩
theorem ClOwn.far {w w':World} {b B n c:Nat} {A:Option Addr} {l:List Cl} (h:ClOwn w B A n c l) (hg:w.grownBy w' (some b)) (f:Fr w w') (hne:∀ k,(Value.slice A n c).ownBlock=some k→k≠b):ClOwn w' B A n c l:=by
 obtain ⟨rows,k1,k2⟩:=h
 refine ⟨rows,⟨⟨k1.1.1,?_⟩,k1.2⟩,k2.fr f⟩
 rcases k1.1.2 with e1|⟨k,cap,cur,e1,e2,e3,e4⟩
 ·exact .inl e1
 ·refine .inr ⟨k,cap,cur,e1,e2,?_,e4⟩
  exact grown_blk (t:=142) e3 hg (hne k (by rw [e1];rfl))
theorem ClOwn.lt {w:World} {B n c:Nat} {A:Option Addr} {l:List Cl} (h:ClOwn w B A n c l):∀ k,(Value.slice A n c).ownBlock=some k→k<w.heap.size:=by
 obtain ⟨rows,k1,k2⟩:=h
 intro k hk
 rcases k1.1.2 with ⟨e1,_⟩|⟨k',cap,cur,e1,e2,e3,e4⟩
 ·rw [e1] at hk;cases hk
 ·rw [e1] at hk
  simp only [Value.ownBlock,Option.some.injEq] at hk
  subst hk
  exact Blk.lt (t:=142) e3
theorem JE.wr {bm:Nat} {now:Int} {st':RS} {acc:List En} (h:JE W0 w1 g bm now w st acc) (R:Rd W0 w' g st') (q:Wrote w w' g Nil Nil) (hg:g<w1.heap.size) (hne:bm≠g):JE W0 w1 g bm now w' st' acc:=by
 obtain ⟨R0,k,A,n,c,B,O⟩:=h
 exact ⟨R,k.wr q,A,n,c,B.wr q hne,O.wr R0 q hg⟩
theorem JC.wr {bm:Nat} {now next:Int} {E:Value} {st':RS} {acc:List Cl} (h:JC W0 w1 g bm now next E w st acc) (R:Rd W0 w' g st') (q:Wrote w w' g Nil Nil) (hg:g<w1.heap.size) (hne:bm≠g):JC W0 w1 g bm now next E w' st' acc:=by
 obtain ⟨R0,k,A,n,c,B,O⟩:=h
 exact ⟨R,k.wr q,A,n,c,B.wr q hne,O.wr R0 q hg⟩
theorem Keep2.sto {bm:Nat} {cs:Array Value} {l:List En} (h:Keep2 w w' g bm) (R:Rd W0 w g st) (B:Blk w bm 49 cs) (S:St w A n c l):St w' A n c l:=by
 have f:=h.fr R B
 have hB:∃ cs,Blk w g 284 cs:=by obtain ⟨⟨A,n,c,hB,_⟩,_⟩:=R;exact ⟨_,hB⟩
 obtain ⟨cg,hB⟩:=hB
 obtain ⟨⟨rows,k1,k2⟩,T⟩:=S
 have key:∀ k cs',Blk w k 84 cs'→Blk w' k 84 cs':=fun k cs' hb=>h.blk hb (blk_ne hb hB (by decide)) (blk_ne hb B (by decide))
 exact ⟨⟨rows,k1.kept h.size fun a ha _=>(by obtain ⟨cs',hc⟩:=T a ha;exact (key _ _ hc).trans hc.symm),k2.fr f⟩,fun a ha=>by obtain ⟨cs',hc⟩:=T a ha;exact ⟨cs',key _ _ hc⟩⟩
end
set_option maxRecDepth 100000 in
theorem decode1_any (W0 w1:World) (g br bm:Nat) (now:Int) (Br1:Blk w1 br 282 #[.pointer (some ⟨g,0,none⟩)]) (hbg:br≠g) (hbb:br≠bm) (hbl:bm≠g) (hW:W0.heap.size≤w1.heap.size) (hWb:W0.heap.size≤bm) (hg1:g<w1.heap.size) (hb1:bm<w1.heap.size)
  (w:World) (st:RS) (acc:List En) (hl:acc.length≤255) (h:JE W0 w1 g bm now w st acc) :
  Calls Tryz.prog 204 #[.pointer (some ⟨bm,0,none⟩),.pointer (some ⟨br,0,none⟩)] w fun e w'=>e = .returned (.tuple #[])∧JE W0 w1 g bm now w' (entR st).2 (acc ++ [(entR st).1]):=by
 obtain ⟨R0,K2,A,n,c,Bl,rows,O,E⟩:=h
 have Br:=K2.blk Br1 hbg hbb
 have hbL:=Bl.lt
 have hsz:=K2.size
 have hrl:rows.length=acc.length:=E.len.symm
 unfold entR
 simp only [bindR]
 have H0:=fun w' h=>rtext_any W0 g st w' h
 generalize textRd st=X0 at H0 ⊢
 obtain ⟨x0,s0⟩:=X0
 simp only at H0 ⊢
 have HC0:=hide H0
 clear H0
 have H1:=fun w' h=>rvalue_any W0 g s0 w' h
 generalize valueR s0=X1 at H1 ⊢
 obtain ⟨x1,s1⟩:=X1
 simp only at H1 ⊢
 have HC1:=hide H1
 clear H1
 have H2:=fun w' h=>rnumber_any W0 g s1 w' h
 generalize numR s1=X2 at H2 ⊢
 obtain ⟨x2,s2⟩:=X2
 simp only at H2 ⊢
 have HC2:=hide H2
 clear H2
 obtain ⟨xk,xt,xc,xp,xi,xs⟩:=x1
 replace R0:=R0.dr
 replace K2:=K2.below (Below.refl _ w).drew
 replace Bl:=Bl.drew
 replace Br:=Br.drew
 replace O:=Own.drew O
 replace E:=E.fr (Fr.of (Below.refl _ w).drew)
 go_enter Tryz.func204,Tryz.ntmps204
 go_wp2_with fail
 refine wp_region_x (l:=[14]) (S:=fun w'=>w'.cell? ⟨bm,1,none⟩=some (.slice A n c)∧w'.cell? ⟨br,0,none⟩=some (.pointer (some ⟨g,0,none⟩))) (by kernel_rfl) ⟨Bl.cell 1,Br.cell 0⟩ (fun hS=>?_)
 obtain ⟨wd,hwd⟩:∃ wd,wd=w.drew:=⟨_,rfl⟩
 rw [←hwd] at hS R0 K2 Bl Br O E ⊢
 have hsd:wd.heap.size=w.heap.size:=by rw [hwd];rfl
 rw [←hsd] at hbL hsz
 clear hwd hsd
 refine wpAnyX_tq 0 ?_
 refine wpAnyX_tq 1 ?_
 refine wpAnyX_tq 2 ?_
 refine wpAnyX_tq 3 ?_
 refine wpAnyX_tq 5 ?_
 refine wpAnyX_tq 7 ?_
 refine wpAnyX_oq 4 fun K hK=>?_
 go_wp2_with fail
 refine (HC0.out _ R0).mono ?_
 rintro e c0_ ⟨rfl,R1,q⟩
 go_wp2_with fail
 replace K2:=K2.wr q
 replace Bl:=Bl.wr q hbl
 replace Br:=Br.wr q hbg
 replace O:=O.wr q hg1
 replace E:=E.fr (Fr.wr R0 q)
 replace hbL:=Bl.lt
 replace hsz:=K2.size
 clear R0 q
 have R0:=R1
 clear R1
 refine hK.out _ _ (Or.inr ⟨Bl.cell 1,Br.cell 0⟩) (fun hS=>?_)
 replace hS:=hS.resolve_left (by decide)
 clear hK K
 refine wpAnyX_oq 6 fun K hK=>?_
 go_wp2_with fail
 refine (HC1.out _ R0).mono ?_
 rintro e c1_ ⟨A1,n1,c1,A2,n2,c2,A3,n3,c3,rfl,N,T,R1,q⟩
 go_wp2_with fail
 replace K2:=K2.wr q
 replace Bl:=Bl.wr q hbl
 replace Br:=Br.wr q hbg
 replace O:=O.wr q hg1
 replace E:=E.fr (Fr.wr R0 q)
 replace hbL:=Bl.lt
 replace hsz:=K2.size
 clear R0 q
 have R0:=R1
 clear R1
 refine hK.out _ _ (Or.inr ⟨Bl.cell 1,Br.cell 0⟩) (fun hS=>?_)
 replace hS:=hS.resolve_left (by decide)
 clear hK K
 refine wpAnyX_oq 8 fun K hK=>?_
 go_wp2_with fail
 refine (HC2.out _ R0).mono ?_
 rintro e c2_ ⟨rfl,R1,q⟩
 go_wp2_with fail
 replace N:=N.fr T (Fr.wr R0 q)
 replace T:=T.fr (Fr.wr R0 q)
 replace K2:=K2.wr q
 replace Bl:=Bl.wr q hbl
 replace Br:=Br.wr q hbg
 replace O:=O.wr q hg1
 replace E:=E.fr (Fr.wr R0 q)
 replace hbL:=Bl.lt
 replace hsz:=K2.size
 clear R0 q
 have R0:=R1
 clear R1
 refine hK.out _ _ (Or.inr ⟨Bl.cell 1,Br.cell 0⟩) (fun hS=>?_)
 replace hS:=hS.resolve_left (by decide)
 clear hK K
 refine wpAnyX_tq 9 ?_
 refine wpAnyX_oq 10 fun K hK=>?_
 go_wp2_with fail
 have B1:=Bl.alloc (.cells #[.string x0,.int .i64 xk,.string xt,.int .i64 xc,.slice A1 n1 c1,.slice A2 n2 c2,.slice A3 n3 c3,.int .i64 x2] 84)
 have C1:=Br.alloc (.cells #[.string x0,.int .i64 xk,.string xt,.int .i64 xc,.slice A1 n1 c1,.slice A2 n2 c2,.slice A3 n3 c3,.int .i64 x2] 84)
 have O1:=O.alloc (.cells #[.string x0,.int .i64 xk,.string xt,.int .i64 xc,.slice A1 n1 c1,.slice A2 n2 c2,.slice A3 n3 c3,.int .i64 x2] 84)
 have R1:=R0.alloc (.cells #[.string x0,.int .i64 xk,.string xt,.int .i64 xc,.slice A1 n1 c1,.slice A2 n2 c2,.slice A3 n3 c3,.int .i64 x2] 84)
 have qa:Below c2_.heap.size c2_ (c2_.alloc (.cells #[.string x0,.int .i64 xk,.string xt,.int .i64 xc,.slice A1 n1 c1,.slice A2 n2 c2,.slice A3 n3 c3,.int .i64 x2] 84)):=below_by
 have K1:=K2.below qa
 refine hK.out _ _ (Or.inr ⟨B1.cell 1,C1.cell 0⟩) (fun hS=>?_)
 replace hS:=hS.resolve_left (by decide)
 clear hK K
 refine wpAnyX_oq 11 fun K hK=>?_
 refine wpList_push_g rfl _ _ _ rfl Tryz.underlying44 ent_info_z rfl (by omega) (by rfl) O (H:=c2_.heap.size) rfl (by rfl) (row:=#[.string x0,.int .i64 xk,.string xt,.int .i64 xc,.slice A1 n1 c1,.slice A2 n2 c2,.slice A3 n3 c3,.int .i64 x2]) rfl (all_one rfl) ?p1 ?p2 ?p3 ?p4
 case p1=>rw [hrl];unfold maxLen;omega
 case p2=>rw [hrl];omega
 case p3=>omega
 case p4=>
 intro A9 n9 c9 w9 O9 gr9
 have B9:=blk_other B1 O1 gr9
 have C9:=blk_other C1 O1 gr9
 have R9:=R1.grew gr9 (fun k hk=>by have:=O1.ge hk;omega)
 have K9:=K1.grew gr9 (fun k hk=>Or.inr (O1.ge hk))
 have f9:=(Fr.of qa).trans (Fr.own O1 gr9)
 have E9:=(E.fr f9).app (Ens.one_ (x:=⟨x0,⟨xk,xt,xc,xp,xi,xs⟩,x2⟩) ⟨A1,n1,c1,A2,n2,c2,A3,n3,c3,rfl,N.fr T f9,T.fr f9⟩)
 refine hK.out _ _ (Or.inr ⟨B9.cell 1,C9.cell 0⟩) (fun hS=>?_)
 replace hS:=hS.resolve_left (by decide)
 clear hK K gr9 B1 C1 O1 R1 K1 O Bl Br R0 K2 f9 E N T qa
 refine wpAnyX_ps 12 ?_
 refine wpAnyX_ps 13 ?_
 clear hS
 (try clear cB9 fB9);have cB9:=B9.cell;have fB9:=B9.frozen
 refine wpAnyX_oq 14 fun K hK=>?_
 go_wp2_with fail
 have gr:=grown_setRow_cell w9 bm 1 (.slice A9 n9 c9)
 have Ba:=B9.set' (i:=1) (u:=.slice A9 n9 c9) rfl
 have Oa:=own_grew O9 B9 gr
 have Ea:=E9.fr (Fr.grown B9 gr)
 have Ra:=R9.grew gr (fun k hk=>by injection hk with hk;omega)
 have Ka:=K9.grew gr (fun k hk=>by injection hk with hk;omega)
 refine hK.out _ _ (Or.inl (by decide)) (fun hS=>?_)
 clear hK K hS gr cB9 fB9 R9 K9 B9 O9 C9 E9
 refine wpAnyX_done (by kernel_rfl) ?_ _
 go_wp2_with fail
 go_end0
 exact ⟨rfl,Ra,Ka,A9,n9,c9,Ba,_,Oa,Ea⟩
set_option maxRecDepth 100000 in
theorem decode2_any (W0 w1:World) (g br bm:Nat) (now next:Int) (EV:Value) (Br1:Blk w1 br 282 #[.pointer (some ⟨g,0,none⟩)]) (hbg:br≠g) (hbb:br≠bm) (hbl:bm≠g) (hW:W0.heap.size≤w1.heap.size) (hWb:W0.heap.size≤bm) (hg1:g<w1.heap.size) (hb1:bm<w1.heap.size)
  (w:World) (st:RS) (acc:List Cl) (hl:acc.length≤255) (h:JC W0 w1 g bm now next EV w st acc) :
  Calls Tryz.prog 207 #[.pointer (some ⟨br,0,none⟩),.pointer (some ⟨bm,0,none⟩)] w fun e w'=>e = .returned (.tuple #[])∧JC W0 w1 g bm now next EV w' (cliR st).2 (acc ++ [(cliR st).1]):=by
 obtain ⟨R0,K2,A,n,c,Bl,O⟩:=h
 have Br:=K2.blk Br1 hbg hbb
 have hbL:=Bl.lt
 have hbR:=Br.lt
 have hsz:=K2.size
 unfold cliR
 simp only [bindR]
 have H0:=fun w' h=>rnumber_any W0 g st w' h
 generalize numR st=X0 at H0 ⊢
 obtain ⟨x0,s0⟩:=X0
 simp only at H0 ⊢
 have HC0:=hide H0
 clear H0
 have H1:=fun w' h=>rnumber_any W0 g s0 w' h
 generalize numR s0=X1 at H1 ⊢
 obtain ⟨x1,s1⟩:=X1
 simp only at H1 ⊢
 have HC1:=hide H1
 clear H1
 have H2:=fun w' h=>rnumber_any W0 g s1 w' h
 generalize numR s1=X2 at H2 ⊢
 obtain ⟨x2,s2⟩:=X2
 simp only at H2 ⊢
 have HC2:=hide H2
 clear H2
 have H3:=fun w' h=>rsmall_any W0 g s2 w' h
 generalize smallR s2=X3 at H3 ⊢
 obtain ⟨x3,s3⟩:=X3
 simp only at H3 ⊢
 have HC3:=hide H3
 clear H3
 have H4:=fun w' h=>rtext_any W0 g s3 w' h
 generalize textRd s3=X4 at H4 ⊢
 obtain ⟨x4,s4⟩:=X4
 simp only at H4 ⊢
 have HC4:=hide H4
 clear H4
 have H5:=fun w' h=>rnumber_any W0 g s4 w' h
 generalize numR s4=X5 at H5 ⊢
 obtain ⟨x5,s5⟩:=X5
 simp only at H5 ⊢
 have HC5:=hide H5
 clear H5
 have H6:=fun w' h=>rtexts_any W0 g s5 w' h
 generalize textsR s5=X6 at H6 ⊢
 obtain ⟨x6,s6⟩:=X6
 simp only at H6 ⊢
 have HC6:=hide H6
 clear H6
 have hgz:g<w.heap.size:=by omega
 have HKO:=hide O.lt
 go_enter Tryz.func207,Tryz.ntmps207
 go_wp2_with fail
 have hsG:∀ st' w',(Rd W0 w' g st'∧Wrote w w' g Nil Nil)→w'.cell? ⟨br,0,none⟩=some (.pointer (some ⟨g,0,none⟩)):=fun _ _ q=>(Br.wr q.2 hbg).cell 0
 refine wp_region_x (l:=[]) (S:=fun w'=>w'.cell? ⟨br,0,none⟩=some (.pointer (some ⟨g,0,none⟩))) (by kernel_rfl) (Br.drew.cell 0) (fun hS=>?_)
 refine wpAnyX_tq 0 ?_
 refine wpAnyX_tq 2 ?_
 refine wpAnyX_tq 4 ?_
 have HSG:=hide hsG
 clear hsG hS
 refine wpX_startA (n:=5+left1 false) (listed:=(fun b_=>#[true,false,true,false,true,false,false,b_,false]) false) (j:=7) (d:=2) (t:=142) (z:=#[.int .i64 0,.int .i64 0,.int .i64 0,.int .i64 0,.string { data:=#[] },.int .i64 0,.slice none 0 0]) ?al1c ?alnc ?allc (fun al1=>?alrc);(case al1c=>exact ⟨⟨_,rfl,rfl,rfl,fun a w=>by simp [go_sem,execOp]⟩⟩);(case alnc=>kernel_rfl);(case allc=>kernel_rfl)
 refine' wpX_phaseA' (f:=4) (i:=1) (L:=(fun b_=>#[true,false,true,false,true,false,false,b_,false])) (L':=(fun b_=>#[true,true,true,false,true,false,false,b_,false])) (base:=w.heap.size) (G:=(fun w'=>Rd W0 w' g st∧Wrote w w' g Nil Nil)) (x:=undef) al1 ?an1c ?al1c ?aa1c ?ar1c ?ai1c ?ag1c ?ae11c ?ae31c ?ap11c (fun w' q=>HSG.out _ w' q) (fun w' o q=>⟨q.1.alloc o,q.2.alloc o⟩) (fun w' q=>q.2.size) ?aw1c ?am1c;(case an1c=>rfl);(case al1c=>rfl);(case aa1c=>rfl);(case ar1c=>kernel_rfl);(case ai1c=>rfl);(case ag1c=>rfl);(case ae11c=>rfl);(case ae31c=>(intros;rfl));(case ap11c=>(intros;rfl))
 (case aw1c=>exact ⟨R0.dr,(Wrote.refl w g Nil).post (Below.refl _ w).drew⟩)
 intro b_ x_ wp0 hG_ hx_ K_ hK_;(try simp only [Act.put,List.setIfInBounds_toArray,List.set_cons_zero,List.set_cons_succ,List.getElem_toArray,List.getElem_cons_zero,List.getElem_cons_succ])
 go_wp2_with fail
 refine (HC0.out _ hG_.1).mono ?_
 rintro e c0 ⟨rfl,Ra,qa⟩
 go_wp2_with fail
 have GA:Rd W0 c0 g s0∧Wrote w c0 g Nil Nil:=⟨Ra,hG_.2.trans qa⟩
 have hxA:=hx_.wr qa hgz
 have hSA:=HSG.out _ c0 GA
 refine hK_.out _ _ (Or.inr hSA) ?_
 clear hK_ K_ hG_ hx_ Ra qa
 refine' wpX_phaseB' (f:=3) (i:=3) (L:=(fun b_=>#[true,true,true,false,true,false,false,b_,false])) (L':=(fun b_=>#[true,true,true,true,true,false,false,b_,false])) (base:=w.heap.size) (G:=(fun w'=>Rd W0 w' g s0∧Wrote w w' g Nil Nil)) (b:=b_) (x:=x_) al1 ?an3c ?al3c ?aa3c ?ar3c ?ai3c ?ag3c ?ae13c ?ae33c ?ap13c (fun w' q=>HSG.out _ w' q) (fun w' o q=>⟨q.1.alloc o,q.2.alloc o⟩) (fun w' q=>q.2.size) ?aw3c hxA ?am3c;(case an3c=>rfl);(case al3c=>rfl);(case aa3c=>rfl);(case ar3c=>kernel_rfl);(case ai3c=>rfl);(case ag3c=>rfl);(case ae13c=>rfl);(case ae33c=>(intros;rfl));(case ap13c=>(intros;rfl))
 (case aw3c=>exact GA)
 clear hxA hSA GA
 intro b_ x_ wp1 hG_ hx_ K_ hK_;(try simp only [Act.put,List.setIfInBounds_toArray,List.set_cons_zero,List.set_cons_succ,List.getElem_toArray,List.getElem_cons_zero,List.getElem_cons_succ])
 go_wp2_with fail
 refine (HC1.out _ hG_.1).mono ?_
 rintro e c1 ⟨rfl,Ra,qa⟩
 go_wp2_with fail
 have GA:Rd W0 c1 g s1∧Wrote w c1 g Nil Nil:=⟨Ra,hG_.2.trans qa⟩
 have hxA:=hx_.wr qa hgz
 have hSA:=HSG.out _ c1 GA
 refine hK_.out _ _ (Or.inr hSA) ?_
 clear hK_ K_ hG_ hx_ Ra qa
 refine' wpX_phaseB' (f:=2) (i:=5) (L:=(fun b_=>#[true,true,true,true,true,false,false,b_,false])) (L':=(fun b_=>#[true,true,true,true,true,true,false,b_,false])) (base:=w.heap.size) (G:=(fun w'=>Rd W0 w' g s1∧Wrote w w' g Nil Nil)) (b:=b_) (x:=x_) al1 ?an5c ?al5c ?aa5c ?ar5c ?ai5c ?ag5c ?ae15c ?ae35c ?ap15c (fun w' q=>HSG.out _ w' q) (fun w' o q=>⟨q.1.alloc o,q.2.alloc o⟩) (fun w' q=>q.2.size) ?aw5c hxA ?am5c;(case an5c=>rfl);(case al5c=>rfl);(case aa5c=>rfl);(case ar5c=>kernel_rfl);(case ai5c=>rfl);(case ag5c=>rfl);(case ae15c=>rfl);(case ae35c=>(intros;rfl));(case ap15c=>(intros;rfl))
 (case aw5c=>exact GA)
 clear hxA hSA GA
 intro b_ x_ wp2 hG_ hx_ K_ hK_;(try simp only [Act.put,List.setIfInBounds_toArray,List.set_cons_zero,List.set_cons_succ,List.getElem_toArray,List.getElem_cons_zero,List.getElem_cons_succ])
 go_wp2_with fail
 refine (HC2.out _ hG_.1).mono ?_
 rintro e c2 ⟨rfl,Ra,qa⟩
 go_wp2_with fail
 have GA:Rd W0 c2 g s2∧Wrote w c2 g Nil Nil:=⟨Ra,hG_.2.trans qa⟩
 have hxA:=hx_.wr qa hgz
 have hSA:=HSG.out _ c2 GA
 refine hK_.out _ _ (Or.inr hSA) ?_
 clear hK_ K_ hG_ hx_ Ra qa
 refine' wpX_takeA' (f:=1) (i:=6) (v:=?xv6c) (L:=(fun b_=>#[true,true,true,true,true,true,false,b_,false])) (L':=(fun b_=>#[true,true,true,true,true,true,true,b_,false])) ?tan6c ?tal6c rfl (by kernel_rfl) ?tar6c (by kernel_rfl) ?tae36c (fun _ _ _ h=>h) (Or.inl ⟨by rfl,?xh6c⟩) ?taw6c ?xr6c;(case tan6c=>rfl);(case tal6c=>rfl);(case tar6c=>kernel_rfl);(case tae36c=>(intros;rfl));(case taw6c=>assumption);(case xh6c=>(intro w hSw;(try dsimp only at hSw);go_simp;(try with_reducible rfl)));(try simp only [Act.put,List.setIfInBounds_toArray,List.set_cons_zero,List.set_cons_succ,List.getElem_toArray,List.getElem_cons_zero,List.getElem_cons_succ])
 refine' wpX_layA' (f:=1) (L:=(fun b_=>#[true,true,true,true,true,true,true,b_,false])) (base:=w.heap.size) (G:=(fun w'=>Rd W0 w' g s2∧Wrote w w' g Nil Nil)) (b:=b_) (x:=x_) al1 ?anLc ?alLc ?aaLc ?arLc ?ae1Lc ?ap1Lc (fun w' q=>HSG.out _ w' q) (fun w' o q=>⟨q.1.alloc o,q.2.alloc o⟩) (fun w' q=>q.2.size) ?awLc hxA ?amLc;(case anLc=>rfl);(case alLc=>rfl);(case aaLc=>rfl);(case arLc=>kernel_rfl);(case ae1Lc=>rfl);(case ap1Lc=>(intros;rfl))
 (case awLc=>exact GA)
 clear hxA hSA GA
 intro vb w7 G7 hv7 V7
 clear al1
 (try clear cV7 fV7);have cV7:=V7.cell;have fV7:=V7.frozen
 refine wpAnyX_oq 8 fun K hK=>?_
 obtain ⟨V8,gr8,sz8⟩:=whole_client (.int .i64 x0) (.int .i64 x1) (.int .i64 x2) (.int .i64 0) (.string { data:=#[] }) (.int .i64 0) (.slice none 0 0) V7
 have Br8:=grown_blk (Br.wr G7.2 hbg) gr8 (by omega)
 have R8:=G7.1.grew gr8 (fun k hk=>by injection hk with hk;omega)
 have Q8:=G7.2.grew gr8 (fun k hk=>by injection hk with hk;omega)
 go_wp2_with fail
 refine hK.out _ _ (Or.inr (Br8.cell 0)) (fun hS=>?_)
 clear hK K hS cV7 fV7
 refine wpAnyX_done (by kernel_rfl) ?_ _
 obtain ⟨w8,hw8⟩:∃ w8,w8=(((((((w7.setCell ⟨vb,0,none⟩ (.int .i64 x0)).setCell ⟨vb,1,none⟩ (.int .i64 x1)).setCell ⟨vb,2,none⟩ (.int .i64 x2)).setCell ⟨vb,3,none⟩ (.int .i64 0)).setCell ⟨vb,4,none⟩ (.string { data:=#[] })).setCell ⟨vb,5,none⟩ (.int .i64 0)).setCell ⟨vb,6,none⟩ (.slice none 0 0)):=⟨_,rfl⟩
 rw [←hw8] at V8 Br8 R8 Q8 ⊢
 have Bl8:=grown_blk (Bl.wr G7.2 hbl) gr8 (by omega)
 have K8:=(K2.wr G7.2).grew gr8 (fun k hk=>by injection hk with hk;omega)
 have O8:=(O.wr R0 G7.2 hg1).far gr8 (Fr.grown V7 gr8) (fun k hk=>by have:=HKO.out k hk;omega)
 rw [←hw8] at Bl8 K8 O8
 clear hw8 gr8 sz8 V7 G7 Bl K2 O R0 Br HSG HC0 HC1 HC2 Q8
 have hb8:=Bl8.lt
 have hv8:=V8.lt
 go_wp2_with fail
 refine wp_region_x (l:=[]) (S:=fun w'=>w'.cell? ⟨br,0,none⟩=some (.pointer (some ⟨g,0,none⟩))) (by kernel_rfl) (Br8.drew.cell 0) (fun hS=>?_)
 obtain ⟨wd,hwd⟩:∃ wd,wd=w8.drew:=⟨_,rfl⟩
 have R0:=R8.dr
 have K2:=K8.below (Below.refl _ w8).drew
 have Bl:=Bl8.drew
 have Br:=Br8.drew
 have V:=V8.drew
 have O:=O8.dr
 rw [←hwd] at hS R0 K2 Bl Br V O ⊢
 have hsd:wd.heap.size=w8.heap.size:=by rw [hwd];rfl
 rw [←hsd] at hb8 hv8
 clear hwd hsd R8 K8 Bl8 Br8 V8 O8
 refine wpAnyX_tq 0 ?_
 refine wpAnyX_tq 2 ?_
 refine wpAnyX_tq 4 ?_
 refine wpAnyX_oq 1 fun K hK=>?_
 go_wp2_with fail
 refine (HC3.out _ R0).mono ?_
 rintro e c3_ ⟨rfl,R1,q⟩
 go_wp2_with fail
 replace K2:=K2.wr q
 replace Bl:=Bl.wr q hbl
 replace Br:=Br.wr q hbg
 replace V:=V.wr q (by omega)
 replace O:=O.wr R0 q hg1
 clear R0 q
 have R0:=R1
 clear R1
 refine hK.out _ _ (Or.inr (Br.cell 0)) (fun hS=>?_)
 replace hS:=hS.resolve_left (by decide)
 clear hK K
 refine wpAnyX_oq 3 fun K hK=>?_
 go_wp2_with fail
 refine (HC4.out _ R0).mono ?_
 rintro e c4_ ⟨rfl,R1,q⟩
 go_wp2_with fail
 replace K2:=K2.wr q
 replace Bl:=Bl.wr q hbl
 replace Br:=Br.wr q hbg
 replace V:=V.wr q (by omega)
 replace O:=O.wr R0 q hg1
 clear R0 q
 have R0:=R1
 clear R1
 refine hK.out _ _ (Or.inr (Br.cell 0)) (fun hS=>?_)
 replace hS:=hS.resolve_left (by decide)
 clear hK K
 refine wpAnyX_oq 5 fun K hK=>?_
 go_wp2_with fail
 refine (HC5.out _ R0).mono ?_
 rintro e c5_ ⟨rfl,R1,q⟩
 go_wp2_with fail
 replace K2:=K2.wr q
 replace Bl:=Bl.wr q hbl
 replace Br:=Br.wr q hbg
 replace V:=V.wr q (by omega)
 replace O:=O.wr R0 q hg1
 clear R0 q
 have R0:=R1
 clear R1
 refine hK.out _ _ (Or.inr (Br.cell 0)) (fun hS=>?_)
 replace hS:=hS.resolve_left (by decide)
 clear hK K
 refine wpAnyX_tq 6 ?_
 refine wpAnyX_ps 7 ?_
 clear hS
 (try clear cV fV);have cV:=V.cell;have fV:=V.frozen
 refine wpAnyX_oq 8 fun K hK=>?_
 have g0:=grown_trans (grown_trans (grown_trans (grown_setRow_cell c5_ vb 3 (.int .i64 x3)) (grown_setRow_cell _ vb 4 (.string x4))) (grown_setRow_cell _ vb 5 (.int .i64 x5))) (grown_setRow_cell _ vb 6 (.slice none 0 0))
 have Va:=(((V.set' (i:=3) (u:=.int .i64 x3) rfl).set' (i:=4) (u:=.string x4) rfl).set' (i:=5) (u:=.int .i64 x5) rfl).set' (i:=6) (u:=.slice none 0 0) rfl
 have Ra:=R0.grew g0 (fun k hk=>by injection hk with hk;omega)
 have Ka:=K2.grew g0 (fun k hk=>by injection hk with hk;omega)
 have Bla:=grown_blk Bl g0 (by omega)
 have Bra:=grown_blk Br g0 (by omega)
 have Oa:=O.far g0 (Fr.grown V g0) (fun k hk=>by have:=HKO.out k hk;omega)
 go_wp2_with fail
 refine hK.out _ _ (Or.inr (Bra.cell 0)) (fun hS=>?_)
 clear hK K hS cV fV
 refine wpAnyX_done (by kernel_rfl) ?_ _
 obtain ⟨wa,hwa⟩:∃ wa,wa=(((c5_.setCell ⟨vb,3,none⟩ (.int .i64 x3)).setCell ⟨vb,4,none⟩ (.string x4)).setCell ⟨vb,5,none⟩ (.int .i64 x5)).setCell ⟨vb,6,none⟩ (.slice none 0 0):=⟨_,rfl⟩
 rw [←hwa] at Va Ra Ka Bla Bra Oa ⊢
 clear hwa g0 R0 K2 Bl Br V O
 (try clear cBra fBra);have cBra:=Bra.cell;have fBra:=Bra.frozen
 go_wp2_with fail
 refine (HC6.out _ Ra).mono ?_
 rintro e wb ⟨Y,m,d,rfl,Tb,Rb,q⟩
 have Kb:=Ka.wr q
 have Blb:=Bla.wr q hbl
 have Vb:=Va.wr q (by omega)
 have Ob:=Oa.wr Ra q hg1
 clear Ra q Ka Bla Bra Va Oa cBra fBra
 have hvb:=Vb.lt
 have hbb:=Blb.lt
 have gr:=grown_setRow_cell wb vb 6 (.slice Y m d)
 have Vc:=Vb.set' (i:=6) (u:=.slice Y m d) rfl
 have Rc:=Rb.grew gr (fun k hk=>by injection hk with hk;omega)
 have Kc:=Kb.grew gr (fun k hk=>by injection hk with hk;omega)
 have Blc:=grown_blk Blb gr (by omega)
 have Oc:=Ob.far gr (Fr.grown Vb gr) (fun k hk=>by have:=HKO.out k hk;omega)
 have Tc:=Tb.fr (Fr.grown Vb gr)
 (try clear cVb fVb);have cVb:=Vb.cell;have fVb:=Vb.frozen
 go_upto_region 3 with fail
 obtain ⟨wc,hwc⟩:∃ wc,wc=wb.setCell ⟨vb,6,none⟩ (.slice Y m d):=⟨_,rfl⟩
 rw [←hwc] at Vc Rc Kc Blc Oc Tc ⊢
 clear hwc gr Rb Kb Blb Vb Ob Tb cVb fVb
 obtain ⟨rows,Oc,Ec⟩:=Oc
 have hrl:rows.length=acc.length:=Ec.len.symm
 have hkc:=Kc.size
 (try clear cBlc fBlc);have cBlc:=Blc.cell;have fBlc:=Blc.frozen;(try clear cVc fVc);have cVc:=Vc.cell;have fVc:=Vc.frozen
 go_wp2_with (at_builtin;refine wpList_push_g rfl _ _ _ rfl Tryz.underlying47 cli_info rfl (by omega) (by rfl) Oc (H:=wc.heap.size) rfl (by rfl) (row:=#[.int .i64 x0,.int .i64 x1,.int .i64 x2,.int .i64 x3,.string x4,.int .i64 x5,.slice Y m d]) rfl (all_one rfl) ?p1 ?p2 ?p3 ?p4)
 case p1=>rw [hrl];unfold maxLen;omega
 case p2=>rw [hrl];omega
 case p3=>exact hkc
 case p4=>
 intro A9 n9 c9 w9 O9 gr9
 have qa:Below wc.heap.size wc (wc.alloc (.cells #[.int .i64 x0,.int .i64 x1,.int .i64 x2,.int .i64 x3,.string x4,.int .i64 x5,.slice Y m d] 142)):=below_by
 have O1:=Oc.below qa
 have B9:=blk_other (Blc.below' qa) O1 gr9
 have R9:=(Rc.below qa).grew gr9 (fun k hk=>by have:=O1.ge hk;omega)
 have K9:=(Kc.below qa).grew gr9 (fun k hk=>Or.inr (O1.ge hk))
 have f9:=(Fr.of qa).trans (Fr.own O1 gr9)
 have E9:=(Ec.fr f9).app (Cls.one_ (x:=⟨x0,x1,x2,⟨x3,x4,x5,x6⟩⟩) ⟨Y,m,d,rfl,Tc.fr f9⟩)
 clear gr9 O1 Oc Ec Rc Kc Blc Tc f9 qa cBlc fBlc cVc fVc Vc
 have gr:=grown_setRow_cell w9 bm 3 (.slice A9 n9 c9)
 have HP:=hide (show JC W0 w1 g bm now next EV (w9.setCell ⟨bm,3,none⟩ (.slice A9 n9 c9)) s6 (acc ++ [⟨x0,x1,x2,⟨x3,x4,x5,x6⟩⟩]) from ⟨R9.grew gr (fun k hk=>by injection hk with hk;omega),K9.grew gr (fun k hk=>by injection hk with hk;omega),A9,n9,c9,B9.set' (i:=3) (u:=.slice A9 n9 c9) rfl,ClOwn.grown ⟨_,O9,E9⟩ B9 gr⟩)
 have hb9:=B9.lt
 clear gr O9 E9 R9 K9
 (try clear cB9 fB9);have cB9:=B9.cell;have fB9:=B9.frozen
 go_wp2_with fail
 go_end0
 exact ⟨rfl,HP.out⟩
theorem bytes_one_ {l:List Value} (h:U8s l):∀ r∈byteRows l,∀ u∈r,u.oneCell'=true:=by
 intro r hr u hu
 obtain ⟨v,hv,rfl⟩:=List.mem_map.1 hr
 rw [List.mem_singleton] at hu
 subst hu
 obtain ⟨n,rfl,_⟩:=h _ hv
 rfl
def DecMPost (r:Mach×Int) (w:World) (e:Ending) (w':World):Prop:=
 ∃ A n c B k d,e = .returned (.tuple #[.agg #[.int .i64 r.1.now,.slice A n c,.int .i64 r.1.next,.slice B k d],.int .i64 r.2])∧St w' A n c r.1.ents∧Ci w' B k d r.1.clis∧Below w.heap.size w w'
set_option maxRecDepth 100000 in
theorem Decode_any (A:Option Addr) (n c:Nat) (l:List Value) (w:World) (hS:Sl w 1 A n c (byteRows l)) (hu:U8s l) :
  Calls Tryz.prog 174 #[.slice A n c] w (DecMPost (decM l) w):=by
 have hm:l.length=n:=by rw [←hS.len,byteRows_length]
 subst hm
 have Rb0:=Blk.new w 49 #[.int .i64 0,.slice none 0 0,.int .i64 0,.slice none 0 0]
 have q0:Below w.heap.size w (w.alloc (.cells #[.int .i64 0,.slice none 0 0,.int .i64 0,.slice none 0 0] 49)):=below_by
 by_cases hsz:20000<l.length
 ·have hD:decM l=(zeroMach,1):=by unfold decM;rw [if_pos hsz]
  rw [hD]
  clear hD
  have hsz':(20000:Int)<(l.length:Int):=by omega
  have Rb:=Rb0
  have q:=q0
  clear Rb0 q0
  go_enter Tryz.func174,Tryz.ntmps174
  have HP:=hide (show DecMPost (zeroMach,1) w (.returned (.tuple #[.agg #[.int .i64 0,.slice none 0 0,.int .i64 0,.slice none 0 0],.int .i64 1])) _ from ⟨none,0,0,none,0,0,rfl,St.nil _,Ci.nil _,q⟩)
  have cZ9:=hide Rb.cell
  have hrl:=Rb.lt
  (try clear cRb fRb);have cRb:=Rb.cell;have fRb:=Rb.frozen
  go_wp2_with fail
  have cZ9:=cZ9.out
  refine bodyPost_ret (v:=.tuple #[.agg #[.int .i64 0,.slice none 0 0,.int .i64 0,.slice none 0 0],.int .i64 1]) ?_ rfl HP.out
  simp [results,Tryz.results174,go_sem,cZ9]
 ·have hsz':¬ ((20000:Int)<(l.length:Int)):=by omega
  have hD:decM l=decR l:=by unfold decM;rw [if_neg hsz]
  have hB:=codec_mach.bd (l,false) hu
  have hM:machR (l,false)=(⟨(numR (l,false)).1,(eachR entR (numR (l,false)).2).1,(numR (eachR entR (numR (l,false)).2).2).1,(eachR cliR (numR (eachR entR (numR (l,false)).2).2).2).1⟩,(eachR cliR (numR (eachR entR (numR (l,false)).2).2).2).2):=rfl
  have hD2:decR l=if endOf true (machR (l,false)).2≠0 then (zeroMach,endOf true (machR (l,false)).2) else if checkMach (machR (l,false)).1≠0 then (zeroMach,checkMach (machR (l,false)).1) else ((machR (l,false)).1,0):=rfl
  rw [hM] at hD2 hB
  rw [hD,hD2]
  clear hD hD2 hM
  generalize h0:numR (l,false)=X0 at hB ⊢
  obtain ⟨now,s0⟩:=X0
  simp only at hB ⊢
  generalize h1:eachR entR s0=X1 at hB ⊢
  obtain ⟨es,s1⟩:=X1
  simp only at hB ⊢
  generalize h2:numR s1=X2 at hB ⊢
  obtain ⟨next,s2⟩:=X2
  simp only at hB ⊢
  generalize h3:eachR cliR s2=X3 at hB ⊢
  obtain ⟨cs,s3⟩:=X3
  simp only at hB ⊢
  have HX0:=hide h0;have HX1:=hide h1;have HX2:=hide h2;have HX3:=hide h3
  clear h0 h1 h2 h3
  generalize hen:endOf true s3=en0
  have HEN:=hide hen
  clear hen
  generalize hcm:checkMach ⟨now,es,next,cs⟩=cm
  have HCM:=hide hcm
  clear hcm
  obtain ⟨RR,hRR⟩:∃ RR:Mach×Int,RR=(if en0≠0 then (zeroMach,en0) else if cm≠0 then (zeroMach,cm) else (⟨now,es,next,cs⟩,0)):=⟨_,rfl⟩
  rw [←hRR]
  have HRR:=hide hRR
  clear hRR
  have hon:=bytes_one_ hu
  have HON:=hide hon
  have HU:=hide hu
  clear hon hu
  have HCL:=hide (fun w' (h:Below w.heap.size w w')=>Clone_u8 A l.length c (byteRows l) w' (hS.below h) HON.out (by omega))
  clear hS
  go_enter Tryz.func174,Tryz.ntmps174
  go_wp2_with fail
  refine (HCL.out _ q0).mono ?_
  rintro e w1 ⟨v1,rfl,O1,b1⟩
  obtain ⟨A1,n1,c1,rfl⟩:=own_slice O1
  have S1:=O1.sl'
  obtain rfl:l.length=n1:=by rw [←S1.len,byteRows_length]
  have Rb1:=Rb0.bl b1
  have q1:=bstep q0 b1
  clear Rb0 q0 b1 O1 HCL
  have hq1:=q1.size
  have hr1:=Rb1.lt
  have R2:Rd w1 (((w1.alloc (.cells #[.slice A1 l.length c1,.bool false] 284)).alloc (.cells #[.pointer (some ⟨w1.heap.size,0,none⟩)] 282)).alloc (.cells #[.int .i64 0,.slice none 0 0,.int .i64 0,.slice none 0 0] 49)) w1.heap.size (l,false):=⟨⟨A1,l.length,c1,(by ((repeat' (first|(with_reducible assumption)|(with_reducible exact Blk.new _ _ _)|((with_reducible refine Blk.new' _ _ _ ?_);focus (simp;done))|(with_reducible refine Blk.set' (cs:=?_) ?_ ?_)|(with_reducible refine Blk.alloc ?_ _)|(with_reducible refine Blk.drew ?_)|(with_reducible refine Blk.drewN ?_ _)|(with_reducible refine Blk.below' ?_ (by with_reducible assumption))|((with_reducible refine Blk.far ?_ ?_ _);rotate_left;(focus first|(simp;done)|(simp;omega)|omega)))) <;> try rfl)),S1⟩,below_by,Nat.le_refl _,HU.out⟩
  have Br2:Blk (((w1.alloc (.cells #[.slice A1 l.length c1,.bool false] 284)).alloc (.cells #[.pointer (some ⟨w1.heap.size,0,none⟩)] 282)).alloc (.cells #[.int .i64 0,.slice none 0 0,.int .i64 0,.slice none 0 0] 49)) (w1.heap.size+1) 282 #[.pointer (some ⟨w1.heap.size,0,none⟩)]:=by ((repeat' (first|(with_reducible assumption)|(with_reducible exact Blk.new _ _ _)|((with_reducible refine Blk.new' _ _ _ ?_);focus (simp;done))|(with_reducible refine Blk.set' (cs:=?_) ?_ ?_)|(with_reducible refine Blk.alloc ?_ _)|(with_reducible refine Blk.drew ?_)|(with_reducible refine Blk.drewN ?_ _)|(with_reducible refine Blk.below' ?_ (by with_reducible assumption))|((with_reducible refine Blk.far ?_ ?_ _);rotate_left;(focus first|(simp;done)|(simp;omega)|omega)))) <;> try rfl)
  have Bm2:Blk (((w1.alloc (.cells #[.slice A1 l.length c1,.bool false] 284)).alloc (.cells #[.pointer (some ⟨w1.heap.size,0,none⟩)] 282)).alloc (.cells #[.int .i64 0,.slice none 0 0,.int .i64 0,.slice none 0 0] 49)) (w1.heap.size+1+1) 49 #[.int .i64 0,.slice none 0 0,.int .i64 0,.slice none 0 0]:=Blk.new' _ _ _ (by simp)
  have b2:Below w1.heap.size w1 (((w1.alloc (.cells #[.slice A1 l.length c1,.bool false] 284)).alloc (.cells #[.pointer (some ⟨w1.heap.size,0,none⟩)] 282)).alloc (.cells #[.int .i64 0,.slice none 0 0,.int .i64 0,.slice none 0 0] 49)):=below_by
  go_wp2_with fail
  obtain ⟨w2,hw2⟩:∃ w2,w2=(((w1.alloc (.cells #[.slice A1 l.length c1,.bool false] 284)).alloc (.cells #[.pointer (some ⟨w1.heap.size,0,none⟩)] 282)).alloc (.cells #[.int .i64 0,.slice none 0 0,.int .i64 0,.slice none 0 0] 49)):=⟨_,rfl⟩
  rw [←hw2] at R2 Br2 Bm2 b2 ⊢
  have Rb2:=Rb1.below' b2
  have q2:=bstep q1 b2
  clear hw2 b2 Rb1 S1 HU HON
  have hm2:=Bm2.lt
  have hw12:=q1.size
  have H0:=rnumber_any w1 w1.heap.size (l,false)
  rw [HX0.out] at H0
  refine (H0 w2 R2).mono ?_
  rintro e w3 ⟨rfl,R3,p3⟩
  clear H0
  have Q3:=(Keep2.refl w2 w1.heap.size (w1.heap.size+1+1)).wr p3
  have Br3:=Br2.wr p3 (by omega)
  have Bm3:=Bm2.wr p3 (by omega)
  have Rb3:=Rb2.wr p3 (by omega)
  clear p3 Br2 Bm2 Rb2 R2
  have gr:=grown_setRow_cell w3 (w1.heap.size+1+1) 0 (.int .i64 now)
  have Bm4:=Bm3.set' (i:=0) (u:=.int .i64 now) rfl
  have Br4:=grown_blk Br3 gr (by omega)
  have Rb4:=grown_blk Rb3 gr (by omega)
  have R4:=R3.grew gr (fun k hk=>by injection hk with hk;omega)
  have Q4:=Q3.grew gr (fun k hk=>by injection hk with hk;omega)
  (try clear cBm3 fBm3);have cBm3:=Bm3.cell;have fBm3:=Bm3.frozen
  have hl3:=Bm3.lt
  go_upto_region 6 with fail
  obtain ⟨w4,hw4⟩:∃ w4,w4=w3.setCell ⟨w1.heap.size+1+1,0,none⟩ (.int .i64 now):=⟨_,rfl⟩
  rw [←hw4] at Bm4 Br4 Rb4 R4 Q4 ⊢
  clear hw4 gr Bm3 Br3 Rb3 R3 Q3 cBm3 fBm3 hl3
  have hm4:=Bm4.lt
  (try clear cBr4 fBr4);have cBr4:=Br4.cell;have fBr4:=Br4.frozen
  go_wp2_with fail
  refine (each_any entR w1 w1.heap.size (JE w1 w4 w1.heap.size (w1.heap.size+1+1) now) (fun _ _ _ h=>h.1) (fun _ _ _ _ _ h R q=>h.wr R q (by omega) (by omega)) 204 #[.pointer (some ⟨w1.heap.size+1+1,0,none⟩),.pointer (some ⟨w1.heap.size+1,0,none⟩)] (run_enter Tryz.func204 (by kernel_rfl) (by kernel_rfl))
   (fun w st acc hl h=>decode1_any w1 w4 w1.heap.size (w1.heap.size+1) (w1.heap.size+1+1) now Br4 (by omega) (by omega) (by omega) (by omega) (by omega) (by omega) hm4 w st acc hl h) s0 w4 ⟨R4,Keep2.refl _ _ _,none,0,0,Bm4,[],Own.nil,trivial⟩).mono ?_
  rintro e w5 ⟨rfl,R5,K5,EA,en,ec,Bm5,O5⟩
  rw [HX1.out] at R5 O5
  simp only at R5 O5
  have S5:=St.of O5
  have Br5:=K5.blk Br4 (by omega) (by omega)
  have Rb5:=K5.blk Rb4 (by omega) (by omega)
  have hs5:=K5.size
  have T5:Below w.heap.size w w5:=⟨K5.os.trans (Q4.os.trans q2.os),K5.tape.trans (Q4.tape.trans q2.tape),K5.output.trans (Q4.output.trans q2.output),by have:=q2.size;have:=Q4.size;omega,fun k hk=>(K5.block k (by omega) (by omega) (by omega)).trans ((Q4.block k (by omega) (by omega) (by omega)).trans (q2.block k hk))⟩
  clear K5 O5 Bm4 Br4 Rb4 R4 Q4 q2 cBr4 fBr4
  (try clear cBr5 fBr5);have cBr5:=Br5.cell;have fBr5:=Br5.frozen
  have H1:=rnumber_any w1 w1.heap.size s1
  rw [HX2.out] at H1
  go_wp2_with fail
  refine (H1 w5 R5).mono ?_
  rintro e w6 ⟨rfl,R6,p6⟩
  clear H1
  have K6:=(Keep2.refl w5 w1.heap.size (w1.heap.size+1+1)).wr p6
  have S6:=K6.sto R5 Bm5 S5
  have Br6:=Br5.wr p6 (by omega)
  have Bm6:=Bm5.wr p6 (by omega)
  have Rb6:=Rb5.wr p6 (by omega)
  have T6:=T5.trans (p6.below (by omega) (by simp [Nil,Value.ownBlock]) (by omega))
  clear p6 Br5 Bm5 Rb5 R5 K6 S5 T5 cBr5 fBr5
  have gr:=grown_setRow_cell w6 (w1.heap.size+1+1) 2 (.int .i64 next)
  have Bm7:=Bm6.set' (i:=2) (u:=.int .i64 next) rfl
  have Br7:=grown_blk Br6 gr (by omega)
  have Rb7:=grown_blk Rb6 gr (by omega)
  have R7:=R6.grew gr (fun k hk=>by injection hk with hk;omega)
  have S7:=S6.grown Bm6 gr
  have T7:=below_grow T6 gr T6.size (by omega)
  (try clear cBm6 fBm6);have cBm6:=Bm6.cell;have fBm6:=Bm6.frozen
  have hl6:=Bm6.lt
  go_upto_region 8 with fail
  obtain ⟨w7,hw7⟩:∃ w7,w7=w6.setCell ⟨w1.heap.size+1+1,2,none⟩ (.int .i64 next):=⟨_,rfl⟩
  rw [←hw7] at Bm7 Br7 Rb7 R7 S7 T7 ⊢
  clear hw7 gr Bm6 Br6 Rb6 R6 S6 T6 cBm6 fBm6 hl6
  have hm7:=Bm7.lt
  (try clear cBr7 fBr7);have cBr7:=Br7.cell;have fBr7:=Br7.frozen
  go_wp2_with fail
  refine (each_any cliR w1 w1.heap.size (JC w1 w7 w1.heap.size (w1.heap.size+1+1) now next (.slice EA en ec)) (fun _ _ _ h=>h.1) (fun _ _ _ _ _ h R q=>h.wr R q (by omega) (by omega)) 207 #[.pointer (some ⟨w1.heap.size+1,0,none⟩),.pointer (some ⟨w1.heap.size+1+1,0,none⟩)] (run_enter Tryz.func207 (by kernel_rfl) (by kernel_rfl))
   (fun w st acc hl h=>decode2_any w1 w7 w1.heap.size (w1.heap.size+1) (w1.heap.size+1+1) now next (.slice EA en ec) Br7 (by omega) (by omega) (by omega) (by omega) (by omega) (by omega) hm7 w st acc hl h) s2 w7 ⟨R7,Keep2.refl _ _ _,none,0,0,Bm7,[],Own.nil,trivial⟩).mono ?_
  rintro e w8 ⟨rfl,R8,K8,CA,cn,cc,Bm8,O8⟩
  rw [HX3.out] at R8 O8
  simp only at R8 O8
  have C8:=Ci.of O8
  have S8:=K8.sto R7 Bm7 S7
  have Br8:=K8.blk Br7 (by omega) (by omega)
  have Rb:=K8.blk Rb7 (by omega) (by omega)
  have q:Below w.heap.size w w8:=⟨K8.os.trans T7.os,K8.tape.trans T7.tape,K8.output.trans T7.output,by have:=K8.size;have:=T7.size;omega,fun k hk=>(K8.block k (by omega) (by omega) (by omega)).trans (T7.block k hk)⟩
  have Bm:=Bm8
  clear K8 O8 Bm7 Br7 Rb7 R7 S7 T7 cBr7 fBr7 Bm8
  (try clear cBr8 fBr8);have cBr8:=Br8.cell;have fBr8:=Br8.frozen
  go_wp2_with fail
  refine (rend_any w1 w1.heap.size s3 true w8 R8).mono ?_
  rintro e w' ⟨rfl,rfl⟩
  rw [HEN.out]
  clear cBr8 fBr8
  by_cases he:en0=0
  ·subst he

   have hna:=S8.sl.len
   have hnc:=C8.sl.len
   have hb1:=hB.ents;have hb2:=hB.clis;have hb3:=hB.vals;have hb4:=hB.reps
   simp only at hb1 hb2 hb3 hb4
   have HK:=hide (CheckM_any ⟨now,es,next,cs⟩ EA CA en ec cn cc w8 S8.sl C8.sl (by omega) (by omega) (fun x hx=>by obtain ⟨a,b,d⟩:=hb3 x hx;exact ⟨by omega,by omega,by omega⟩) (fun x hx=>by have:=hb4 x hx;omega))
   clear hb3 hb4 hB
   have hml:=Bm.lt
   (try clear cBm fBm);have cBm:=Bm.cell;have fBm:=Bm.frozen
   go_wp2_with fail
   refine HK.out.mono ?_
   rintro e w9 ⟨rfl,b9⟩
   rw [HCM.out]
   replace S8:=S8.bl b9
   replace C8:=C8.bl b9
   replace Rb:=Rb.below' b9
   replace Bm:=Bm.below' b9
   replace q:=bstep q b9
   clear b9 HK cBm fBm Br8 R8
   by_cases hc:cm=0
   ·subst hc
    have hml:=Bm.lt
    obtain ⟨Z9,gr9,sz9⟩:=whole_mach (.int .i64 now) (.slice EA en ec) (.int .i64 next) (.slice CA cn cc) Rb
    have HP:=hide (show DecMPost RR w (.returned (.tuple #[.agg #[.int .i64 now,.slice EA en ec,.int .i64 next,.slice CA cn cc],.int .i64 0])) _ from by rw [HRR.out,if_neg (by simp),if_neg (by simp)];exact ⟨EA,en,ec,CA,cn,cc,rfl,S8.grown Rb gr9,C8.grown Rb gr9,below_grow q gr9 q.size (Nat.le_refl _)⟩)
    have cZ9:=hide Z9.cell
    have hrl:=Rb.lt
    clear Z9 gr9 sz9
    (try clear cRb fRb);have cRb:=Rb.cell;have fRb:=Rb.frozen;(try clear cBm fBm);have cBm:=Bm.cell;have fBm:=Bm.frozen
    go_wp2_with fail
    have cZ9:=cZ9.out
    refine bodyPost_ret (v:=.tuple #[.agg #[.int .i64 now,.slice EA en ec,.int .i64 next,.slice CA cn cc],.int .i64 0]) ?_ rfl HP.out
    simp [results,Tryz.results174,go_sem,cZ9]
   ·have hcb:(cm == 0)=false:=by simpa using hc
    obtain ⟨Z9,gr9,sz9⟩:=whole_mach (.int .i64 0) (.slice none 0 0) (.int .i64 0) (.slice none 0 0) Rb
    have HP:=hide (show DecMPost RR w (.returned (.tuple #[.agg #[.int .i64 0,.slice none 0 0,.int .i64 0,.slice none 0 0],.int .i64 cm])) _ from by rw [HRR.out,if_neg (by simp),if_pos hc];exact ⟨none,0,0,none,0,0,rfl,St.nil _,Ci.nil _,below_grow q gr9 q.size (Nat.le_refl _)⟩)
    have cZ9:=hide Z9.cell
    have hrl:=Rb.lt
    clear Z9 gr9 sz9
    (try clear cRb fRb);have cRb:=Rb.cell;have fRb:=Rb.frozen
    go_wp2_with fail
    have cZ9:=cZ9.out
    refine bodyPost_ret (v:=.tuple #[.agg #[.int .i64 0,.slice none 0 0,.int .i64 0,.slice none 0 0],.int .i64 cm]) ?_ rfl HP.out
    simp [results,Tryz.results174,go_sem,cZ9]
  ·have hcb:(en0 == 0)=false:=by simpa using he
   obtain ⟨Z9,gr9,sz9⟩:=whole_mach (.int .i64 0) (.slice none 0 0) (.int .i64 0) (.slice none 0 0) Rb
   have HP:=hide (show DecMPost RR w (.returned (.tuple #[.agg #[.int .i64 0,.slice none 0 0,.int .i64 0,.slice none 0 0],.int .i64 en0])) _ from by rw [HRR.out,if_pos he];exact ⟨none,0,0,none,0,0,rfl,St.nil _,Ci.nil _,below_grow q gr9 q.size (Nat.le_refl _)⟩)
   have cZ9:=hide Z9.cell
   have hrl:=Rb.lt
   clear Z9 gr9 sz9
   (try clear cRb fRb);have cRb:=Rb.cell;have fRb:=Rb.frozen
   go_wp2_with fail
   have cZ9:=cZ9.out
   refine bodyPost_ret (v:=.tuple #[.agg #[.int .i64 0,.slice none 0 0,.int .i64 0,.slice none 0 0],.int .i64 en0]) ?_ rfl HP.out
   simp [results,Tryz.results174,go_sem,cZ9]
theorem Encode_own {m:Mach} (hok:MachOk m) (A B:Option Addr) (na ca nb cb:Nat) (w:World) (hE:St w A na ca m.ents) (hC:Ci w B nb cb m.clis) :
  Calls Tryz.prog 173 #[.agg #[.int .i64 m.now,.slice A na ca,.int .i64 m.next,.slice B nb cb]] w fun e w'=>∃ A n c,e = .returned (.tuple #[.slice A n c,.int .i64 0])∧Own w' w.heap.size 5 1 (.slice A n c) (byteRows (encB m))∧Below w.heap.size w w':=by
 refine (Encode_any hok A B na ca nb cb w hE hC).mono ?_
 rintro e w' ⟨A,n,c,h1,h2,h3⟩
 exact ⟨A,n,c,h1,Own.of_row h2 (Nat.le_refl _),h3⟩
theorem wpList_load_blk {P:Program} {ops:Array Oper} {rest:List Oper} {op:Oper} {a:Act} {w:World} {Q:Exit→Act→World→Prop} (hgd:op.guard=none) (ty:TypeId) (x:Operand) (ho:op.op = .load ty x)
  {b:Nat} {cs:Array Value} (hx:a.eval x = .pointer (some ⟨b,0,none⟩)) (hB:Blk w b ty cs) {d:TypeDesc} (hu:P.underlying ty=some d) (hd:(match d with | .struct _ | .array _ _=>true|_=>false)=true) (hi:(P.info? ty).map (·.size)=some cs.size)
  (h:wpList P ops Q rest (a.put op.dst (.agg cs)) w):wpList P ops Q (op :: rest) a w:=by
 have hrun:=run_loadVar_row (P:=P) w b ty ty cs (0,0) d hB hu hd hi
 refine wpList_plain hgd fun _ hK=>?_
 unfold Oper.wp execOp
 simp only [ho,hx,Instr.loadAt,Instr.sureAddr,Sem.run_bind,Sem.run_pure,Result.andThen_ok,hrun]
 exact hK _ _ h
theorem Check_rec {r:RK} (hr:r.Ok) {row:List Value} (w:World) (h:RecAt w r row):Calls Tryz.prog 171 #[.agg row.toArray] w fun e w'=>e = .returned (.int .i64 0)∧Below w.heap.size w w':=by
 cases r with
 | mark t f=>rw [show row=markCells t f from h];exact CheckMark_ok t f hr.1 hr.2.1 hr.2.2 w
 | line i x=>rw [show row=lineCells i x from h];exact CheckLine_ok i x hr.1 hr.2 w
 | load i t m=>
  obtain ⟨A,n,c,B,k,d,rfl,hE,hC⟩:=h
  have hok:=hr.2.2
  have h0:csM i t m=0:=by unfold csM;rw [hr.1,hr.2.1,if_pos (by rfl),ok_mach hok]
  rw [←h0]
  exact CheckLoad_any i t m A B n c k d w hE.sl hC.sl (by have:=hE.sl.len;have:=hok.sto.few;omega) (by have:=hC.sl.len;have:=hok.few;omega) (fun x hx=>by obtain ⟨a,b,d⟩:=hok.sto.small x hx;exact ⟨by omega,by omega,by omega⟩) (fun x hx=>by have:=rep_to (hok.cli x hx).rep;exact ⟨by have:=this.text;omega,by have:=this.few;omega⟩)
theorem tape_size:(Tryz.prog.info? 115).map (·.size)=some 2:=by kernel_rfl
set_option maxRecDepth 100000 in
theorem topen_any (l:List Value) (hu:U8s l) (A:Option Addr) (n c:Nat) (s:Int) (w:World) (hS:Sl w 1 A n c (byteRows l)) (h0:0≤s) (h1:s≤l.length) (h2:l.length≤400000) :
  Calls Tryz.prog 168 #[.agg #[.slice A n c,.int .i64 s]] w fun e w'=>∃ Y m d,e = .returned (.tuple #[.agg #[.slice Y m d,.int .i64 s],.bool true])∧Own w' w.heap.size 5 1 (.slice Y m d) (byteRows l)∧Below w.heap.size w w':=by
 have hm:l.length=n:=by rw [←hS.len,byteRows_length]
 have HCL:=hide (fun w' (h:Below w.heap.size w w')=>Clone_u8 A n c (byteRows l) w' (hS.below h) (bytes_one_ hu) (by omega))
 have c1:¬ (s<0):=by omega
 have c2:¬ ((n:Int)<s):=by omega
 have c3:¬ ((400000:Int)<(n:Int)):=by omega
 clear hu hS
 have T0:=(Blk.new w 115 #[.slice A n c,.int .i64 s]).alloc (.cells #[.slice none 0 0,.int .i64 0] 115)
 have R0:Blk ((w.alloc (.cells #[.slice A n c,.int .i64 s] 115)).alloc (.cells #[.slice none 0 0,.int .i64 0] 115)) (w.heap.size+1) 115 #[.slice none 0 0,.int .i64 0]:=Blk.new' _ _ _ (by simp)
 have q0:Below w.heap.size w ((w.alloc (.cells #[.slice A n c,.int .i64 s] 115)).alloc (.cells #[.slice none 0 0,.int .i64 0] 115)):=below_by
 go_enter Tryz.func168,Tryz.ntmps168
 (try clear cT0 fT0);have cT0:=T0.cell;have fT0:=T0.frozen
 go_wp2_with fail
 obtain ⟨w0,hw0⟩:∃ w0,w0=(w.alloc (.cells #[.slice A n c,.int .i64 s] 115)).alloc (.cells #[.slice none 0 0,.int .i64 0] 115):=⟨_,rfl⟩
 rw [←hw0] at T0 R0 q0 ⊢
 clear hw0 cT0 fT0
 refine wp_region_x (l:=[]) (S:=fun w'=>w'.cell? ⟨w.heap.size,0,none⟩=some (.slice A n c)∧w'.cell? ⟨w.heap.size,1,none⟩=some (.int .i64 s)) (by kernel_rfl) ⟨T0.drew.cell 0,T0.drew.cell 1⟩ (fun hS=>?_)
 replace T0:=T0.drew;replace R0:=R0.drew;replace q0:=q0.drew
 obtain ⟨wd,hwd⟩:∃ wd,wd=w0.drew:=⟨_,rfl⟩
 rw [←hwd] at hS T0 R0 q0 ⊢
 clear hwd
 refine wpAnyX_tq 0 ?_
 refine wpAnyX_tq 1 ?_
 refine wpAnyX_tq 3 ?_
 refine wpAnyX_tq 4 ?_
 refine wpAnyX_oq 2 fun K hK=>?_
 go_wp2_with fail
 refine (HCL.out _ q0).mono ?_
 rintro e w1 ⟨v,rfl,o1,b1⟩
 obtain ⟨Y,m,d,rfl⟩:=own_slice o1
 go_wp2_with fail
 replace T0:=T0.below' b1;replace R0:=R0.below' b1
 have q1:=bstep q0 b1
 refine hK.out _ _ (Or.inr ⟨T0.cell 0,T0.cell 1⟩) (fun hS=>?_)
 replace hS:=hS.resolve_left (by decide)
 clear hK K
 refine wpAnyX_tq 5 ?_
 refine wpAnyX_oq 6 fun K hK=>?_
 refine wpList_store_blk rfl 115 _ _ rfl (cells:=#[.slice Y m d,.int .i64 s]) rfl rfl R0 rfl tape_size (all_one rfl) ?_
 intro w9 Z9 gr9 sz9
 have T9:=grown_blk T0 gr9 (by omega)
 have o9:=(own_grew o1 R0 gr9).mono (q0.size)
 have q9:=below_grow q1 gr9 q1.size (by omega)
 refine hK.out _ _ (Or.inr ⟨T9.cell 0,T9.cell 1⟩) (fun hS=>?_)
 replace hS:=hS.resolve_left (by decide)
 clear hK K
 refine wpAnyX_oq 7 fun K hK=>?_
 go_wp2_with fail
 refine hK.out _ _ (Or.inr ⟨T9.cell 0,T9.cell 1⟩) (fun _=>?_)
 clear hK K
 refine wpAnyX_done (by kernel_rfl) ?_ _
 clear gr9 sz9 R0 T0 o1 b1 q0 q1 hS T9
 (try clear cZ9 fZ9);have cZ9:=Z9.cell;have fZ9:=Z9.frozen
 go_wp2_with fail
 refine bodyPost_ret (v:=.tuple #[.agg #[.slice Y m d,.int .i64 s],.bool true]) ?_ rfl ⟨Y,m,d,rfl,o9,q9⟩
 simp [results,Tryz.results168,go_sem, *]
theorem disk_size:(Tryz.prog.info? 124).map (·.size)=some 11:=by kernel_rfl
set_option maxRecDepth 100000 in
theorem TapeNew_any (w:World):Calls Tryz.prog 48 #[] w fun e w'=>e = .returned (.agg #[.int .i64 0,.int .i64 (-1),.int .i64 0,.int .i64 0,.int .i64 0,.slice none 0 0,.int .i64 1,.slice none 0 0,.int .i64 0,.int .i64 0,.slice none 0 0])∧Below w.heap.size w w':=by
 have R0:=Blk.new w 124 #[.int .i64 0,.int .i64 0,.int .i64 0,.int .i64 0,.int .i64 0,.slice none 0 0,.int .i64 0,.slice none 0 0,.int .i64 0,.int .i64 0,.slice none 0 0]
 have q0:Below w.heap.size w (w.alloc (.cells #[.int .i64 0,.int .i64 0,.int .i64 0,.int .i64 0,.int .i64 0,.slice none 0 0,.int .i64 0,.slice none 0 0,.int .i64 0,.int .i64 0,.slice none 0 0] 124)):=below_by
 go_enter Tryz.func48,Tryz.ntmps48
 go_wp2_with fail
 refine (New_any _).mono ?_
 rintro e w1 ⟨rfl,b1⟩
 replace R0:=R0.below' b1
 have q1:=bstep q0 b1
 go_wp2_with (refine wpList_store_blk rfl 124 _ _ rfl (cells:=#[.int .i64 0,.int .i64 (-1),.int .i64 0,.int .i64 0,.int .i64 0,.slice none 0 0,.int .i64 1,.slice none 0 0,.int .i64 0,.int .i64 0,.slice none 0 0]) rfl rfl R0 rfl disk_size (all_one rfl) ?_;intro w9 Z9 gr9 sz9)
 have q9:=below_grow q1 gr9 q1.size (Nat.le_refl _)
 clear gr9 sz9 R0
 go_wp2_with fail
 have hlv:(loadVar 124 ⟨w.heap.size,0,none⟩).run Tryz.prog w9 = .ok (.agg #[.int .i64 0,.int .i64 (-1),.int .i64 0,.int .i64 0,.int .i64 0,.slice none 0 0,.int .i64 1,.slice none 0 0,.int .i64 0,.int .i64 0,.slice none 0 0]) w9:=run_loadVar_row w9 _ _ _ _ (0,0) _ Z9 Tryz.underlying124 rfl disk_size
 refine bodyPost_ret (v:=.agg #[.int .i64 0,.int .i64 (-1),.int .i64 0,.int .i64 0,.int .i64 0,.slice none 0 0,.int .i64 1,.slice none 0 0,.int .i64 0,.int .i64 0,.slice none 0 0]) ?_ rfl ⟨rfl,q9⟩
 simp only [results,Tryz.results48]
 simp [asAddr,Act.put,hlv]
end Go.Proofs.YtgdcofbnbiclmaaGreatDoor

