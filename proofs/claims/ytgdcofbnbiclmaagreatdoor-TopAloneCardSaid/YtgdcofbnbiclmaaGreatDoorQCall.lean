import Derived.Test.YtgdcofbnbiclmaaGreatDoorQCommand
import Derived.Test.YtgdcofbnbiclmaaGreatDoorRows
import Derived.Test.YtgdcofbnbiclmaaGreatDoorQBase
import Derived.ProofKit
import Derived.Test.YtgdcofbnbiclmaaGreatDoorQOwn
import Derived.Deep.RegionHeld3
namespace Go.Proofs.YtgdcofbnbiclmaaGreatDoor
set_option linter.all false
set_option maxHeartbeats 32000000
open Go.RowKit
def zeroCall (seq kind:Int) (key field text:ByteArray) (n:Int):Bool:=
 seq == 0 && kind == 0 && key.toList == [] && field.toList == [] && text.toList == [] && n == 0
def checkCall (client seq kind:Int) (key field text:ByteArray) (n:Int):Int:=
 if (client == 0)=true then (if zeroCall seq kind key field text n=true then 0 else 8)
 else if numberOk client=false∨numberOk seq=false then 2 else checkCommand kind key field text n

theorem CheckCall_any (client seq kind:Int) (key field text:ByteArray) (n:Int) (w:World) :
  Calls Tryz.prog 57 #[.agg #[.int .i64 client,.int .i64 seq,.int .i64 kind,.string key,.string field,.string text,.int .i64 n]] w fun e w'=>e = .returned (.int .i64 (checkCall client seq kind key field text n))∧Below w.heap.size w w':=by
 by_cases hc:(client == 0)=true
 ·have hc':client=0:=by simpa using hc
  subst hc'
  go_enter Tryz.func57,Tryz.ntmps57
  go_wp2_with fail
  all_goals go_ret
  all_goals refine ⟨ret_int ?_,below_by⟩
  all_goals simp_all [checkCall,zeroCall]
 ·have hc:(client == 0)=false:=by simpa using hc
  go_enter Tryz.func57,Tryz.ntmps57
  go_wp2_with (first
   | (go_at_call 77;refine (numberOk_any _ _).mono ?_;rintro e w' ⟨rfl,rfl⟩)
   | (go_at_call 78;refine (CheckCommand_any _ _ _ _ _ _).mono ?_;rintro e w1 ⟨rfl,hb1⟩))
  all_goals go_ret
  all_goals refine ⟨ret_int ?_,below_by⟩
  all_goals (unfold checkCall;simp only [hc];simp_all)

theorem tmod_lt (n m:Int) (hm:0<m) : -m<n.tmod m∧n.tmod m<m:=by
 have h:=Int.natAbs_tmod n m
 have h2:n.natAbs % m.natAbs<m.natAbs:=Nat.mod_lt _ (by omega)
 omega
theorem emp_size:emp.size=0:=rfl
theorem emp_list:emp.toList=[]:=by unfold emp;simp
theorem cmd_ok (kind key field n:Int) (text:ByteArray) :
  checkCommand (cmdOf kind key field n text).kind (cmdOf kind key field n text).key (cmdOf kind key field n text).field (cmdOf kind key field n text).text (cmdOf kind key field n text).n=0:=by
 have p1:=picked_lo kind 22 (by omega)
 have p2:=picked_hi kind 22 (by omega)
 have q1:=picked_lo n 60 (by omega)
 have q2:=picked_hi n 60 (by omega)
 have q3:=picked_lo n 12 (by omega)
 have q4:=picked_hi n 12 (by omega)
 have t1:=tmod_lt n 1073741824 (by omega)
 have s1:=some_size n
 have s2:=some_size key
 have s3:=some_size field
 have s4:=cut_size text 6
 generalize hp:picked kind 22=p at *
 have hk:(cmdOf kind key field n text).kind=1+p:=by simp [cmdOf,hp]
 have hy:(cmdOf kind key field n text).key=if 1+p=22 then emp else some_ key:=by simp [cmdOf,hp]
 have hf:(cmdOf kind key field n text).field=if cmdField (1+p)=true then some_ field else emp:=by simp [cmdOf,hp]
 have hx:(cmdOf kind key field n text).text=if cmdText (1+p)=true then (if (picked n 3 == 0)=true then some_ n else cut_ text 6) else emp:=by simp [cmdOf,hp]
 have hn:(cmdOf kind key field n text).n=if 1+p=3 then n.tmod 1073741824 else if 1+p=20 then picked n 60 else if 1+p=14 then picked n 12 - 6 else 0:=by simp [cmdOf,hp]
 rw [hk,hy,hf,hx,hn]
 have hT:(if (picked n 3 == 0)=true then some_ n else cut_ text 6).size≤6:=by split <;> omega
 generalize (if (picked n 3 == 0)=true then some_ n else cut_ text 6)=T at *
 have hb:bare (1+p) (if 1+p=22 then emp else some_ key) (if cmdField (1+p)=true then some_ field else emp) (if cmdText (1+p)=true then T else emp)
   (if 1+p=3 then n.tmod 1073741824 else if 1+p=20 then picked n 60 else if 1+p=14 then picked n 12 - 6 else 0)=true:=by
  have h22:p=0∨p=1∨p=2∨p=3∨p=4∨p=5∨p=6∨p=7∨p=8∨p=9∨p=10∨p=11∨p=12∨p=13∨p=14∨p=15∨p=16∨p=17∨p=18∨p=19∨p=20∨p=21:=by omega
  rcases h22 with rfl|rfl|rfl|rfl|rfl|rfl|rfl|rfl|rfl|rfl|rfl|rfl|rfl|rfl|rfl|rfl|rfl|rfl|rfl|rfl|rfl|rfl <;> simp [bare,cmdText,cmdField,cmdN,cmdKey,emp_list]
 unfold checkCommand
 rw [if_neg (by omega),if_neg (by rw [hb];simp)]
 have c1:¬ ((cmdKey (1+p)=true∧fieldOk (if 1+p=22 then emp else some_ key)=false)∨(cmdField (1+p)=true∧fieldOk (if cmdField (1+p)=true then some_ field else emp)=false)∨textOk (if cmdText (1+p)=true then T else emp)=false):=by
  rintro (⟨h1,h2⟩|⟨h1,h2⟩|h2)
  ·have:¬ 1+p=22:=by simpa [cmdKey] using h1
   rw [if_neg this] at h2;simp [fieldOk,s2] at h2
  ·rw [if_pos h1] at h2;simp [fieldOk,s3] at h2
  ·by_cases hc:cmdText (1+p)=true
   ·rw [if_pos hc] at h2;simp [textOk] at h2;omega
   ·rw [if_neg hc] at h2;simp [textOk,emp_size] at h2
 rw [if_neg c1,if_neg]
 simp only [countOk,Bool.not_eq_false,Bool.and_eq_true,decide_eq_true_eq]
 (repeat' split) <;> omega
end Go.Proofs.YtgdcofbnbiclmaaGreatDoor
namespace Go.Proofs.YtgdcofbnbiclmaaGreatDoor
set_option linter.all false
set_option maxHeartbeats 32000000
open Go.ChangeShapes Go.WideShapes Go.ChangeAt Go.RowKit
theorem Tryz.own:ownKnob Tryz.prog.godebug=none:=by kernel_rfl
theorem Tryz.laidOut:laidOutB Tryz.prog=true:=by kernel_rfl

theorem trodAll_below {H:Type} {enc:TypeId×Value→H} {P:Program} (hl:laidOutB P=true) {W W':World} (hb:Below W.heap.size W W') :
  ∀ (ts:List TypeId) (vs:List Value) (ds:List (DataW H)) (ps:List MemPlace),(∀ t∈ts,P.readableRec t=true∧t<P.types.size) →
   DataW.TrodAll enc P W 0 (fun _=>true) true ts vs ds ps→(∀ x∈ps,x.block<W.heap.size) →
   DataW.TrodAll enc P W' 0 (fun b=>decide (b<W.heap.size)) true ts vs ds ps
 | [],[],[],_,_,h,_=>h
 | t :: ts,v :: vs,d :: ds,_,hr,h,hlt=>by
  obtain ⟨p,q,h1,h2,rfl⟩:=h
  exact ⟨p,q,Below.trod hl (hr t (by simp)).1 (hr t (by simp)).2 h1 hb (fun x hx=>hlt x (by simp [hx])),
   trodAll_below hl hb ts vs ds q (fun t ht=>hr t (by simp [ht])) h2 (fun x hx=>hlt x (by simp [hx])),rfl⟩
 | [],[],_ :: _,_,_,h,_=>h.elim
 | [],_ :: _,_,_,_,h,_=>h.elim
 | _ :: _,[],_,_,_,h,_=>h.elim
 | _ :: _,_ :: _,[],_,_,h,_=>h.elim

def readOk (P:Program) (ts:List TypeId):Bool:=ts.all fun t=>P.readableRec t && decide (t<P.types.size)
theorem readOk_of {P:Program} {ts:List TypeId} (h:readOk P ts=true):∀ t∈ts,P.readableRec t=true∧t<P.types.size:=by
 intro t ht
 have:=List.all_eq_true.1 h t ht
 simp only [Bool.and_eq_true,decide_eq_true_eq] at this
 exact this

theorem post_law {H:Type} {enc:TypeId×Value→H} {P:Program} (hl:laidOutB P=true) {f:Func} {s:ChangeSpec} {W W':World} {args:Array Value} {ds gs:List (DataW H)} {before:List MemPlace} {tb:TypeId}
  (hW:DataW.Whole enc P f.params.toList s.vars false W args.toList ds gs before) (hvars:s.vars=[]) (hr:readOk P f.params.toList=true)
  (hres:f.resultTypes=#[tb]) (htb:P.underlying tb=some .bool)
  (h1:gs=[]→(s.fn H (ds ++ gs)).results=[.lit (.bool true)]) (h2:gs=[]→(s.fn H (ds ++ gs)).args=ds) (h3:gs=[]→(s.fn H (ds ++ gs)).vars=[])
  (hb:Below W.heap.size W W'):s.post enc P f false true false false W args (.bool true) W':=by
 have hlt:∀ p∈before,p.block<W.heap.size:=fun p hp=>hW.lt p hp
 have hW':=hW
 obtain ⟨p,q,hA,hV,hpq,_,_⟩:=hW
 rw [hvars] at hV
 have hg:gs=[]∧q=[]:=by
  cases gs with
  | nil=>exact ⟨rfl,hV⟩
  | cons g gs=>exact hV.elim
 obtain ⟨hg,hq⟩:=hg
 refine ⟨ds,gs,before,[],p,[],hW',?_,?_,?_,hb.frame _,fun h=>by cases h⟩
 ·rw [h1 hg,hres]
  exact trodAll_mk1 (shut_bool htb _)
 ·rw [h2 hg]
  exact trodAll_below hl hb _ _ _ _ (readOk_of hr) hA (fun x hx=>hlt x (by rw [hpq];simp [hx]))
 ·rw [hvars,h3 hg];exact rfl

inductive Atom where
 | int (k:IntKind)
 | str
 | bool
 deriving DecidableEq

def Fit:Atom→Value→Prop
 | .int k,v=>∃ n,v = .int k n∧(Lit.int k n).wf=true
 | .str,v=>∃ s:ByteArray,v = .string s∧s.size≤maxLen
 | .bool,v=>∃ b,v = .bool b
def Fits:List Atom→List Value→Prop
 | [],[]=>True
 | a :: l,v :: vs=>Fit a v∧Fits l vs
 | _,_=>False

def structAtoms (P:Program) (f:TypeId→Option (List Atom)):List Field→Nat→Option (List Atom)
 | [],_=>some []
 | fd :: fs,off=>
  match f fd.type with
  | some l=>
   if fd.offset=off∧l.length=P.cellsOf fd.type then
    match structAtoms P f fs (off+l.length) with
    | some r=>some (l ++ r)
    | none=>none
   else none
  | none=>none
def atoms (P:Program):Nat→TypeId→Option (List Atom)
 | 0,_=>none
 | n+1,t=>
  match P.underlying t with
  | some .bool=>some [.bool]
  | some (.int k)=>some [.int k]
  | some .string=>some [.str]
  | some (.struct fs)=>
   match structAtoms P (atoms P n) fs.toList 0 with
   | some l=>if l.length=P.cellsOf t then some l else none
   | none=>none
  | _=>none

theorem Fits.append:∀ {l r:List Atom} {cs:List Value} {k:Nat},l.length=k→Fits l (cs.take k)→Fits r (cs.drop k)→Fits (l ++ r) cs
 | [],r,cs,_,hk,_,h2=>by subst hk;simpa using h2
 | a :: l,r,[],_,hk,h1,_=>by subst hk;simp [Fits] at h1
 | a :: l,r,c :: cs,_,hk,h1,h2=>by
  subst hk
  simp only [List.length_cons,List.take_succ_cons,List.drop_succ_cons] at h1 h2
  exact ⟨h1.1,Fits.append rfl h1.2 h2⟩

theorem Fits.length:∀ {l:List Atom} {cs:List Value},Fits l cs→cs.length=l.length
 | [],[],_=>rfl
 | _ :: _,_ :: _,h=>by simp [Fits.length h.2]
 | [],_ :: _,h=>h.elim
 | _ :: _,[],h=>h.elim

section
variable {H:Type} {enc:TypeId×Value→H} {P:Program} {w:World} {base:Nat} {spare:Nat→Bool} {held:Bool}
theorem structAtoms_fits {f:TypeId→Option (List Atom)} {cs:List Value} {n:Nat}
  (hf:∀ t l cs x,f t=some l→DataW.trod enc P w base spare held n t cs=some x→Fits l cs) :
  ∀ (fs:List Field) (off:Nat) (l:List Atom),structAtoms P f fs off=some l→(∀ fd∈fs,∃ x,DataW.trod enc P w base spare held n fd.type ((cs.drop fd.offset).take (P.cellsOf fd.type))=some x) →
   (cs.drop off).length=l.length→Fits l (cs.drop off)
 | [],off,l,h,_,hl=>by
  simp only [structAtoms,Option.some.injEq] at h
  subst h
  rw [List.eq_nil_of_length_eq_zero hl]
  trivial
 | fd :: fs,off,l,h,hx,hl=>by
  unfold structAtoms at h
  split at h
  ·rename_i l1 h1
   split at h
   ·rename_i hc
    split at h
    ·rename_i r h2
     simp only [Option.some.injEq] at h
     subst h
     obtain ⟨x,hx1⟩:=hx fd (by simp)
     rw [hc.1,←hc.2] at hx1
     have i1:=hf _ _ _ _ h1 hx1
     have i2:=structAtoms_fits hf fs (off+l1.length) r h2 (fun g hg=>hx g (by simp [hg])) (by
      rw [←List.drop_drop,List.length_drop,hl,List.length_append];omega)
     rw [←List.drop_drop] at i2
     exact Fits.append rfl i1 i2
    ·cases h
   ·cases h
  ·cases h

theorem atoms_fits:∀ (m:Nat) (t:TypeId) (l:List Atom) (fuel:Nat) (cs:List Value) (x:DataW H×List MemPlace),atoms P m t=some l→DataW.trod enc P w base spare held fuel t cs=some x→Fits l cs
 | 0,_,_,_,_,_,h,_=>by simp [atoms] at h
 | m+1,t,l,fuel,cs,x,h,hx=>by
  unfold atoms at h
  split at h
  ·rename_i ht
   obtain ⟨b,rfl,_⟩:=DataW.trod_bool ht hx
   simp only [Option.some.injEq] at h
   subst h
   exact ⟨⟨b,rfl⟩,trivial⟩
  ·rename_i k ht
   obtain ⟨n,rfl,_,hw⟩:=DataW.trod_int ht hx
   simp only [Option.some.injEq] at h
   subst h
   exact ⟨⟨n,rfl,hw⟩,trivial⟩
  ·rename_i ht
   obtain ⟨s,rfl,_,hs⟩:=DataW.trod_string ht hx
   simp only [Option.some.injEq] at h
   subst h
   exact ⟨⟨s,rfl,hs⟩,trivial⟩
  ·rename_i fs ht
   split at h
   ·rename_i l1 h1
    split at h
    ·rename_i hlen
     simp only [Option.some.injEq] at h
     subst h
     obtain ⟨xs,n,rfl,_,hcs,hxl,hf⟩:=DataW.trod_struct ht hx
     have:=structAtoms_fits (cs:=cs) (n:=n) (fun t l cs x h hx=>atoms_fits m t l n cs x h hx) fs.toList 0 l1 h1 (fun fd hfd=>by
      obtain ⟨j,hj,rfl⟩:=List.getElem_of_mem hfd
      have hj':j<fs.size:=by simpa using hj
      have hh:=hf j fs.toList[j] (by rw [←Array.getElem?_toList];exact List.getElem?_eq_getElem hj)
      rw [hh,List.getElem?_eq_getElem (by omega)]
      exact ⟨_,rfl⟩) (by simp [hcs,hlen])
     simpa using this
    ·cases h
   ·cases h
  ·cases h

theorem add_plain {a:Addr} {n:Nat} (ha:a.spot=none):a.add n=⟨a.block,a.off+n,none⟩:=by
 unfold Addr.add
 split
 ·rename_i h;subst h;cases a;simp_all
 ·rfl
theorem cell_spot {a:Addr} {v:Value} (h:w.cell? a=some v):a.spot=none:=by
 unfold World.cell? at h
 split at h
 ·cases hs:a.spot with
  | none=>rfl
  | some s=>rw [hs] at h;simp at h
 ·cases h
theorem cell_lt {a:Addr} {v:Value} (h:w.cell? a=some v):a.block<w.heap.size:=by
 rcases Nat.lt_or_ge a.block w.heap.size with hl|hl
 ·exact hl
 ·unfold World.cell? at h;rw [Array.getElem?_eq_none hl] at h;cases h

theorem seg_of_slice {t e:TypeId} {l:List Atom} {fuel:Nat} {v:Value} {x:DataW H×List MemPlace} (m:Nat) (hs:P.underlying t=some (.slice e)) (ha:atoms P m e=some l) (hl:l.length=P.cellsOf e) (h0:0<l.length)
  (h:DataW.trod enc P w base spare held fuel t [v]=some x) :
  ∃ A n c rows,v = .slice A n c∧(∀ r∈rows,Fits l r)∧Sl w l.length A n c rows:=by
 rcases DataW.trod_slice hs h with ⟨hv,_⟩|⟨a,len,cap,elems,rest,n,_,hv,_,_,hlc,hcm,hel,hcell,_⟩
 ·injection hv with hv
  exact ⟨none,0,0,[],hv,by simp,Sl.nil_ w _⟩
 ·injection hv with hv
  have hrow:∀ i,i<len→∃ cs,w.cells? base (a.add (i*P.cellsOf e)) (P.cellsOf e)=some cs∧Fits l cs:=by
   intro i hi
   have:=hcell i hi
   rw [List.getElem?_eq_getElem (by omega)] at this
   obtain ⟨cs,h1,h2⟩:=Option.bind_eq_some_iff.1 this
   exact ⟨cs,h1,atoms_fits m e l n cs _ ha h2⟩
  have hfit:∀ r∈(List.range len).map fun i=>(w.cells? base (a.add (i*P.cellsOf e)) (P.cellsOf e)).getD [],Fits l r:=by
   intro r hr
   obtain ⟨i,hi,rfl⟩:=List.mem_map.1 hr
   obtain ⟨cs,h1,h2⟩:=hrow i (List.mem_range.1 hi)
   rw [h1]
   exact h2
  refine ⟨some a,len,cap,(List.range len).map fun i=>(w.cells? base (a.add (i*P.cellsOf e)) (P.cellsOf e)).getD [],hv,hfit,by simp,hlc,hcm,by simp,?_,fun r hr=>(hfit r hr).length⟩
  ·intro hn
   have hn:0<len:=by simpa using hn
   have key:∀ i,i<len→∀ j,j<l.length→∃ u,w.cell? ((a.add (i*P.cellsOf e)).add j)=some u∧((w.cells? base (a.add (i*P.cellsOf e)) (P.cellsOf e)).getD [])[j]?=some u:=by
    intro i hi j hj
    obtain ⟨cs,h1,h2⟩:=hrow i hi
    obtain ⟨_,hcl,hat⟩:=World.cells?_some h1
    have hj':j<cs.length:=by rw [h2.length];exact hj
    refine ⟨cs[j],?_,?_⟩
    ·rw [hat j (by omega),List.getElem?_eq_getElem hj']
    ·rw [h1];simp [hj']
   have hspot:a.spot=none:=by
    obtain ⟨u,h1,_⟩:=key 0 hn 0 h0
    rw [Nat.zero_mul] at h1
    exact cell_spot (by simpa [Addr.add] using h1)
   refine ⟨a.block,a.off,?_,?_,?_⟩
   ·cases a;simp_all
   ·obtain ⟨u,h1,_⟩:=key 0 hn 0 h0
    have:=cell_lt h1
    rw [add_plain hspot] at this
    simpa [Addr.add] using this
   ·intro i r hr j u hu
    rw [List.getElem?_map] at hr
    have hi:i<len:=by
     rcases Nat.lt_or_ge i len with h'|h'
     ·exact h'
     ·rw [List.getElem?_eq_none (by simpa using h')] at hr;cases hr
    rw [List.getElem?_range hi] at hr
    injection hr with hr
    simp only at hr
    have hj:j<l.length:=by
     obtain ⟨cs,h1,h2⟩:=hrow i hi
     rw [h1] at hr
     rw [←h2.length]
     rcases Nat.lt_or_ge j cs.length with h'|h'
     ·exact h'
     ·rw [←hr] at hu;simp only [Option.getD_some] at hu;rw [List.getElem?_eq_none h'] at hu;cases hu
    obtain ⟨u',h1,h2⟩:=key i hi j hj
    rw [←hr,h2] at hu
    injection hu with hu
    subst hu
    rw [add_plain hspot,hl,←Nat.add_assoc] at *
    have e:(⟨a.block,a.off+i*P.cellsOf e,none⟩:Addr).add j=⟨a.block,a.off+i*P.cellsOf e+j,none⟩:=add_plain rfl
    rw [e] at h1
    exact h1
end

theorem i64_bounds {x:Int} (h:(Lit.int .i64 x).wf=true) : -9223372036854775808≤x∧x≤9223372036854775807:=by
 simpa [Lit.wf,IntKind.min,IntKind.max,IntKind.signed,IntKind.bits] using h
def I64 (x:Int):Prop:=-9223372036854775808≤x∧x≤9223372036854775807
structure RawD where
 kind:Int
 key:Int
 field:Int
 n:Int
 text:ByteArray
def RawD.ok (r:RawD):Prop:=I64 r.kind∧I64 r.key∧I64 r.field∧I64 r.n∧r.text.size≤maxLen
def RawD.cells (r:RawD):List Value:=[.int .i64 r.kind,.int .i64 r.key,.int .i64 r.field,.int .i64 r.n,.string r.text]
def rawAtoms:List Atom:=[.int .i64,.int .i64,.int .i64,.int .i64,.str]
theorem fits_cons {a:Atom} {l:List Atom}:∀ {v:List Value},Fits (a :: l) v→∃ c cs,v=c :: cs∧Fit a c∧Fits l cs
 | [],h=>h.elim
 | c :: cs,h=>⟨c,cs,rfl,h.1,h.2⟩
theorem fits_nil:∀ {v:List Value},Fits [] v→v=[]
 | [],_=>rfl
 | _ :: _,h=>h.elim
theorem fits_raw {l:List Value} (h:Fits rawAtoms l):∃ r:RawD,l=r.cells∧r.ok:=by
 obtain ⟨_,_,rfl,⟨a,rfl,ha⟩,h_1⟩:=fits_cons h
 obtain ⟨_,_,rfl,⟨b,rfl,hb⟩,h_2⟩:=fits_cons h_1
 obtain ⟨_,_,rfl,⟨c,rfl,hc⟩,h_3⟩:=fits_cons h_2
 obtain ⟨_,_,rfl,⟨d,rfl,hd⟩,h_4⟩:=fits_cons h_3
 obtain ⟨_,_,rfl,⟨s,rfl,hs⟩,h_5⟩:=fits_cons h_4
 obtain rfl:=fits_nil h_5
 exact ⟨⟨a,b,c,d,s⟩,rfl,i64_bounds ha,i64_bounds hb,i64_bounds hc,i64_bounds hd,hs⟩
structure DeedD where
 client:Int
 off:Int
 wait:Int
 raw:RawD
def DeedD.cells (d:DeedD):List Value:=[.int .i64 d.client,.int .i64 d.off,.int .i64 d.wait,.int .i64 d.raw.kind,.int .i64 d.raw.key,.int .i64 d.raw.field,.int .i64 d.raw.n,.string d.raw.text]
theorem rows_map {α:Type} {l:List Atom} {cells:α→List Value} {ok:α→Prop} (hf:∀ {c:List Value},Fits l c→∃ d,c=cells d∧ok d) :
  ∀ rows:List (List Value),(∀ r∈rows,Fits l r)→∃ ds:List α,rows=ds.map cells∧∀ d∈ds,ok d
 | [],_=>⟨[],rfl,by simp⟩
 | r :: rows,h=>by
  obtain ⟨d,rfl,hd⟩:=hf (h r (by simp))
  obtain ⟨ds,rfl,hds⟩:=rows_map hf rows fun r hr=>h r (by simp [hr])
  exact ⟨d :: ds,rfl,by intro x hx;rcases List.mem_cons.1 hx with rfl|hx;exact hd;exact hds x hx⟩

def rawRows (l:List RawD):List (List Value):=l.map RawD.cells
structure RawAt (w:World) (b o:Nat) (r:RawD):Prop where
 c0:w.cell? ⟨b,o,none⟩=some (.int .i64 r.kind)
 c1:w.cell? ⟨b,o+1,none⟩=some (.int .i64 r.key)
 c2:w.cell? ⟨b,o+2,none⟩=some (.int .i64 r.field)
 c3:w.cell? ⟨b,o+3,none⟩=some (.int .i64 r.n)
 c4:w.cell? ⟨b,o+4,none⟩=some (.string r.text)
theorem Sl.raw {w:World} {A:Option Addr} {n c:Nat} {l:List RawD} (h:Sl w 5 A n c (rawRows l)) {k:Nat} (hk:k<l.length) :
  ∃ b off,A=some ⟨b,off,none⟩∧b<w.heap.size∧RawAt w b (off+k*5) l[k]:=by
 obtain ⟨b,off,e,hb,hc⟩:=h.seg.at_ (i:=k) (by simpa [rawRows] using hk)
 have hc':∀ j u,l[k].cells[j]?=some u→w.cell? ⟨b,off+k*5+j,none⟩=some u:=by
  intro j u hu
  rw [Nat.add_assoc]
  exact hc j u (by simpa [rawRows] using hu)
 exact ⟨b,off,e,hb,hc' 0 _ rfl,hc' 1 _ rfl,hc' 2 _ rfl,hc' 3 _ rfl,hc' 4 _ rfl⟩
end Go.Proofs.YtgdcofbnbiclmaaGreatDoor
namespace Go.Proofs.YtgdcofbnbiclmaaGreatDoor
set_option linter.all false
set_option maxHeartbeats 32000000
open Go.RowKit
structure Itm where
 term:Int
 time:Int
 nop:Bool
 client:Int
 seq:Int
 cmd:Cmd
def Itm.cells (x:Itm):List Value:=[.int .i64 x.term,.int .i64 x.time,.bool x.nop,.int .i64 x.client,.int .i64 x.seq,.int .i64 x.cmd.kind,.string x.cmd.key,.string x.cmd.field,.string x.cmd.text,.int .i64 x.cmd.n]
def zeroCmd:Cmd:={ kind:=0,key:=emp,field:=emp,text:=emp,n:=0 }
def cmdR (r:RawD):Cmd:=cmdOf r.kind r.key r.field r.n r.text
def itemOf (d:DeedD) (term time:Int):Itm:=
 if (picked d.client 5 == 0)=true then { term:=1+picked term 1000,time:=picked time 100000,nop:=true,client:=0,seq:=0,cmd:=zeroCmd }
 else if (picked d.client 5 == 1)=true then { term:=1+picked term 1000,time:=picked time 100000,nop:=false,client:=0,seq:=0,cmd:=zeroCmd }
 else { term:=1+picked term 1000,time:=picked time 100000,nop:=false,client:=picked d.client 50+1,seq:=1+picked d.off 100,cmd:=cmdR d.raw }
end Go.Proofs.YtgdcofbnbiclmaaGreatDoor

