import Derived.Test.YtgdcofbnbiclmaaGreatDoorQTapP
import Derived.Test.YtgdcofbnbiclmaaGreatDoorQRest
namespace Go.Proofs.YtgdcofbnbiclmaaGreatDoor
set_option linter.all false
set_option maxHeartbeats 32000000
open Go.RowKit
structure Dk where
 term:Int
 who:Int
 si:Int
 st:Int
 m:Mach
 b:Int
 bt:Int
 L:List Itm
def newMach:Mach:=⟨0,[],1,[]⟩
def newDk:Dk:=⟨0,-1,0,0,newMach,0,0,[]⟩
def lineP (b bt:Int) (L:List Itm) (i:Int) (x:Itm):List Itm×Int:=
 if i≤b then (L,0) else if b+L.length+1<i then (L,10)
 else if checkLog b bt (L.take (i - b - 1).toNat ++ [x])=0 then (L.take (i - b - 1).toNat ++ [x],0) else (L,10)
def stepD (d:Dk):RK→Dk×Int
 | .mark t f=>({ d with term:=t,who:=f },0)
 | .line i x=>({ d with L:=(lineP d.b d.bt d.L i x).1 },(lineP d.b d.bt d.L i x).2)
 | .load i t m=>if d.si<i then ({ d with si:=i,st:=t,m:=m,b:=i,bt:=t,L:=restL d.b d.bt d.L i t },0) else (d,0)
def foldG:Dk→List RK→Dk×Int
 | d,[]=>(d,0)
 | d,r :: l=>if (stepD d r).2=0 then foldG (stepD d r).1 l else stepD d r
structure Dk.Ok (d:Dk):Prop where
 log:checkLog d.b d.bt d.L=0
 mach:MachOk d.m
 si0:0≤d.si
 si1:d.si≤1048576
theorem new_ok:newDk.Ok:=⟨rfl,mach_ok (by decide +kernel),by decide,by decide⟩
theorem lineP_ok {b bt i:Int} {L:List Itm} {x:Itm} (h:checkLog b bt L=0):checkLog b bt (lineP b bt L i x).1=0:=by
 unfold lineP
 split
 ·exact h
 split
 ·exact h
 split
 ·assumption
 ·exact h
theorem stepD_ok {d:Dk} {r:RK} (h:d.Ok) (hr:r.Ok):(stepD d r).1.Ok:=by
 cases r with
 | mark t f=>exact ⟨h.log,h.mach,h.si0,h.si1⟩
 | line i x=>exact ⟨lineP_ok h.log,h.mach,h.si0,h.si1⟩
 | load i t m=>
  obtain ⟨h1,h2,h3⟩:=hr
  have n1:=number_iff.1 h1
  have n2:=number_iff.1 h2
  simp only [stepD]
  split
  ·exact ⟨rest_good h.log n1.1 n1.2 n2.1 n2.2,h3,by show 0≤i;omega,by show i≤1048576;omega⟩
  ·exact h
theorem foldG_step {R:Dk×Int} {d:Dk} {l:List RK} {k:Nat} (hk:k<l.length) (h:Hid (R=foldG d (l.drop k))) :
  Hid (R=if (stepD d l[k]).2=0 then foldG (stepD d l[k]).1 (l.drop (k+1)) else stepD d l[k]):=by
 have:=h.out
 rw [List.drop_eq_getElem_cons hk] at this
 exact this
theorem foldG_end {R:Dk×Int} {d:Dk} {l:List RK} {k:Nat} (hk:l.length≤k) (h:Hid (R=foldG d (l.drop k))):R=(d,0):=by
 have:=h.out
 rw [List.drop_eq_nil_of_le hk] at this
 exact this
def linesFrom:Int→List Itm→List RK
 | _,[]=>[]
 | i,x :: l=>.line i x :: linesFrom (i+1) l
end Go.Proofs.YtgdcofbnbiclmaaGreatDoor

