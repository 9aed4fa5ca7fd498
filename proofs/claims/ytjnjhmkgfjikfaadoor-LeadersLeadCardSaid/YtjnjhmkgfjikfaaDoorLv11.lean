/- Part 11: words and walks under the laws of the whole. -/
import Derived.Test.YtjnjhmkgfjikfaaDoorLv8
set_option linter.unusedVariables false
set_option linter.unusedSimpArgs false
set_option maxHeartbeats 4000000
set_option maxRecDepth 100000
namespace Go.Proofs.YtjnjhmkgfjikfaaDoor
open Go.RowKit
open Go.RowKit Go.ChangeShapes Go.WideShapes Go.ChangeAt
def InI (n:Int):Prop:=-9223372036854775808<=n/\n<=9223372036854775807
def rawV (r:Scu.Raw):List Value:=[.int .i64 r.kind,.int .i64 r.a,.int .i64 r.b,.int .i64 r.c]
def RawIn (r:Scu.Raw):Prop:=InI r.kind/\InI r.a/\InI r.b/\InI r.c
def RawE (_:World) (_:Nat) (cs:List Value) (r:Scu.Raw):Prop:=cs=rawV r/\RawIn r
theorem zEo {n:Int} (h:(Lit.int .i64 n).wf=true):InI n:=by
 have h':IntKind.i64.min<=n/\n<=9223372036854775807:=by simpa [Lit.wf] using h
 have hm:IntKind.i64.min = -9223372036854775808:=by decide
 unfold InI
 omega
theorem zFo:Tryd.prog.cellsOf 61=4:=by kernel_rfl
theorem zIf:Tryd.prog.bytesOf 61=32:=by kernel_rfl
section
variable {H:Type} {enc:TypeId × Value->H} {w:World} {base:Nat} {spare:Nat->Bool} {held:Bool} {n:Nat}
theorem zJz {cs:List Value} {x:DataW H × List MemPlace} (h:DataW.trod enc Tryd.prog w base spare held n 61 cs=some x):∃ r,RawE w w.heap.size cs r:=by
 obtain ⟨xs,m,_,Hc,hl,Hb,hf⟩:=DataW.trod_struct Tryd.underlying61 h
 rw [zFo] at hl
 match cs,hl with
 | [c0,c1,c2,c3],_ =>
   have Ha:xs.length=4:=Hb
   match xs,Ha with
   | [z0,z1,z2,z3],_ =>
     obtain ⟨n0,h0,_,w0⟩:=DataW.trod_int Tryd.underlying3 (hf 0 _ rfl)
     obtain ⟨n1,h1,_,w1⟩:=DataW.trod_int Tryd.underlying3 (hf 1 _ rfl)
     obtain ⟨n2,h2,_,w2⟩:=DataW.trod_int Tryd.underlying3 (hf 2 _ rfl)
     obtain ⟨n3,h3,_,w3⟩:=DataW.trod_int Tryd.underlying3 (hf 3 _ rfl)
     simp [zHw] at h0 h1 h2 h3
     subst h0 h1 h2 h3
     exact ⟨⟨n0,n1,n2,n3⟩,rfl,zEo w0,zEo w1,zEo w2,zEo w3⟩
def IsRaws (w:World) (B:Nat) (v:Value) (l:List Scu.Raw):Prop:=IsRow 61 4 32 RawE w B v l
theorem zEp {v:Value} {d:DataW H} {p:List MemPlace} {b0:Nat} (hv:Value.okWide Tryd.prog w .any b0 22 v) (h:DataW.Trod enc Tryd.prog w base spare held 22 v d p)
 (hw:∀ k ∈ d.weights Tryd.prog 22,k<=reachBytes):∃ y,IsRaws w w.heap.size v y:=by
 obtain ⟨a,len,cap,rfl⟩:=okWide_slice Tryd.underlying22 hv
 obtain ⟨fuel,hf⟩:=h
 exact zJm (⟨0,0,0,0⟩:Scu.Raw) Tryd.underlying22 zFo zIf (by omega) (fun h _=>zJz h) hf hw
end
theorem IsRaws.below {w w':World} {B:Nat} {v:Value} {l:List Scu.Raw} (h:IsRaws w B v l) (hb:Below w.heap.size w w'):IsRaws w' B v l:=IsRow.same (Ts:=[61]) h (by simp) (Same.below hb) (fun _ _ h=>h)
theorem IsRaws.same {w w':World} {B:Nat} {v:Value} {l:List Scu.Raw} {Ts:List TypeId} (h:IsRaws w B v l) (ht:61 ∈ Ts) (hs:Same Ts B w w'):IsRaws w' B v l:=IsRow.same (Ts:=Ts) h ht hs (fun _ _ h=>h)
theorem zFp {w:World} {B:Nat} {v:Value} {l:List Scu.Raw} (h:IsRaws w B v l) {k:Nat} (hk:k < l.length) :
 ∃ g o c,v=.slice (some ⟨g,o,none⟩) l.length c/\g < w.heap.size/\(∀ j u,(rawV l[k])[j]? = some u->w.cell? ⟨g,o+(k*4+j),none⟩=some u)/\RawIn l[k]:=by
 obtain ⟨⟨A,c,css,rfl,hc,hl,hm,hr,h6⟩,_⟩:=h
 obtain ⟨g,o,cs,rfl,hg,_,Ha,rfl,Hb⟩:=zCo hl hm (by omega) hr h6 hk
 exact ⟨g,o,c,rfl,hg,Ha,Hb⟩
theorem IsRaws.form' {w:World} {B:Nat} {v:Value} {l:List Scu.Raw} (h:IsRaws w B v l):∃ A c,v=.slice A l.length c/\l.length<=c:=by
 obtain ⟨A,c,_,e,hc,_⟩:=h.ex
 exact ⟨A,c,e,hc⟩
theorem IsRaws.cell_at {w:World} {B g o c:Nat} {l:List Scu.Raw} (h:IsRaws w B (.slice (some ⟨g,o,none⟩) l.length c) l) {k:Nat} (hk:k < l.length) (j:Nat) (hj:j < 4):w.cell? ⟨g,o+k*4+j,none⟩=(rawV l[k])[j]?:=by
 obtain ⟨g',o',c',e,_,hc,_⟩:=zFp h hk
 cases e
 have hl:(rawV l[k])[j]? = some ((rawV l[k])[j]'(by simpa [rawV] using hj)):=mH _
 rw [hl,Nat.add_assoc]
 exact hc j _ hl
theorem zAy (n many:Int) (hn:InI n) (hm:1<=many) (Hb:many<=9223372036854775807) (w:World) :
 Calls Tryd.prog 6 #[.int .i64 n,.int .i64 many] w fun e w'=>e=.returned (.int .i64 (Scu.picked n many))/\w=w':=by
 obtain ⟨h0,h1⟩:=hn
 have HR:=mA (show Scu.picked n many=if n < 0 then (-(n+1)) % many else n % many by unfold Scu.picked;split <;> rfl)
 have Hc:¬ many=0:=by omega
 by_cases h:n < 0
 ·have Ha:=mA (show Scu.picked n many=(-(n+1)) % many by rw [HR.out,if_pos h])
  go_enter Tryd.func6,Tryd.ntmps6
  go_wp2
  go_ret
  refine ⟨?_,rfl⟩
  rw [Ha.out]
  show Ending.returned (.int .i64 (-((n+1).tmod many)))=_
  rw [<- Int.neg_tmod,Int.tmod_eq_emod_of_nonneg (by omega)]
 have Ha:=mA (show Scu.picked n many=n % many by rw [HR.out,if_neg h])
 go_enter Tryd.func6,Tryd.ntmps6
 go_wp2
 go_ret
 refine ⟨?_,rfl⟩
 rw [Ha.out]
 rfl
end Go.Proofs.YtjnjhmkgfjikfaaDoor
