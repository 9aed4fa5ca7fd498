/- Part 15: words and walks under the laws of the whole. -/
import Derived.Test.YtjnjhmkgfjikfaaDoorLv14
set_option linter.unusedVariables false
set_option linter.unusedSimpArgs false
set_option maxHeartbeats 4000000
set_option maxRecDepth 100000
namespace Go.Proofs.YtjnjhmkgfjikfaaDoor
open Go.RowKit
def TellRet (w:World) (r:Scu.Replica) (ms:List Scu.Message) (c:Int) (e:Ending):Prop:=∃ lu hv wv gv nv ov,e=.returned (.tuple #[.agg #[.int .i64 r.me,.int .i64 r.kept.view,.int .i64 r.kept.normal,.bool r.kept.calm,lu,.int .i64 r.kept.commit,hv,wv,gv,nv],ov,.int .i64 c])/\IsRep w 0 lu hv wv gv nv r/\IsRow 43 8 80 MsgE w 0 ov ms
theorem zIp (w:World) (c:Int):TellRet w Scu.replica0 [] c (.returned (.tuple #[.agg #[.int .i64 0,.int .i64 0,.int .i64 0,.bool false,.slice none 0 0,.int .i64 0,.slice none 0 0,.slice none 0 0,.slice none 0 0,.slice none 0 0],.slice none 0 0,.int .i64 c])):=by
 exact ⟨_,_,_,_,_,_,rfl,⟨IsStrs.nil_,⟨⟨none,0,rfl,mC _,Rd.nil⟩,by simp [Scu.replica0,R47]⟩,⟨⟨none,0,rfl,mC _,Rd.nil⟩,by simp [Scu.replica0,R47]⟩,IsRow.nil_,⟨⟨none,0,rfl,mC _,Rd.nil⟩,by simp [Scu.replica0,R47]⟩⟩,IsRow.nil_⟩
def TellN (b:Nat) (w:World) (r:Scu.Replica) (ms:List Scu.Message) (c:Int) (e:Ending):Prop:=∃ lu hv wv gv nv ov,e=.returned (.tuple #[.agg #[.int .i64 r.me,.int .i64 r.kept.view,.int .i64 r.kept.normal,.bool r.kept.calm,lu,.int .i64 r.kept.commit,hv,wv,gv,nv],ov,.int .i64 c])/\IsRep w 0 lu hv wv gv nv r/\IsRow 43 8 80 MsgE w 0 ov ms/\∀ g,ov.ownBlock=some g->b<=g
theorem zAp (b:Nat) (w:World) (c:Int):TellN b w Scu.replica0 [] c (.returned (.tuple #[.agg #[.int .i64 0,.int .i64 0,.int .i64 0,.bool false,.slice none 0 0,.int .i64 0,.slice none 0 0,.slice none 0 0,.slice none 0 0,.slice none 0 0],.slice none 0 0,.int .i64 c])):=by
 obtain ⟨a1,a2,a3,a4,a5,a6,h1,h2,h3⟩:=zIp w c
 refine ⟨a1,a2,a3,a4,a5,a6,h1,h2,h3,fun g hg=>?_⟩
 simp only [Ending.returned.injEq,Value.tuple.injEq,Array.mk.injEq,List.cons.injEq] at h1
 obtain ⟨_,h1,_⟩:=h1
 subst h1
 cases hg
theorem zEf (lv hv wv gv nv:Value) (r:Scu.Replica) (h0:0<=r.kept.view) (w:World) (b:Bool) (hb:Scu.leads r=b) :
 Calls Tryd.prog 15 #[.agg #[.int .i64 r.me,.int .i64 r.kept.view,.int .i64 r.kept.normal,.bool r.kept.calm,lv,.int .i64 r.kept.commit,hv,wv,gv,nv]] w fun e w'=>e=.returned (.bool b)/\Below w.heap.size w w':=by
 subst hb
 exact zIb lv hv wv gv nv r h0 w
theorem zCe {r:Scu.Replica} (h:Scu.repFault r=0):Rep3 r:=by
 obtain ⟨h1,h2,h3,h4,h5,_⟩:=Scu.repFault_ok h
 exact ⟨h2,h3,h4,h5,h1.1,h1.2⟩
theorem zAu {r:Scu.Replica} (h:Scu.repFault r=0):0<=r.kept.view:=(Scu.keptFault_ok (Scu.repFault_ok h).2.2.2.2.2.2.2).1
end Go.Proofs.YtjnjhmkgfjikfaaDoor
