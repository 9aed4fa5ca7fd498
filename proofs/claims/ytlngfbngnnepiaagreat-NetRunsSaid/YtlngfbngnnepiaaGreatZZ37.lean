/- Part 37: words and walks under the laws of the whole. -/
import Derived.Test.YtlngfbngnnepiaaGreatZZ29
import Derived.Test.YtlngfbngnnepiaaGreatZZ35
import Derived.Test.YtlngfbngnnepiaaGreatZZ36
set_option linter.unusedVariables false
set_option linter.unusedSimpArgs false
set_option maxHeartbeats 4000000
set_option maxRecDepth 100000
namespace Go.Proofs.YtlngfbngnnepiaaGreat
open Go.RowKit
abbrev fAt:Bool->FuncId
 | false=>24
 | true=>15
abbrev fBy:Bool->FuncId
 | false=>23
 | true=>15
abbrev fMsg:Bool->FuncId
 | false=>25
 | true=>15
abbrev fAct:Bool->FuncId
 | false=>9
 | true=>15
abbrev fTick:Bool->FuncId
 | false=>53
 | true=>39
abbrev fAlarm:Bool->FuncId
 | false=>54
 | true=>40
abbrev fTake:Bool->FuncId
 | false=>50
 | true=>35
abbrev fHear:Bool->FuncId
 | false=>56
 | true=>41
def AskQ (w:World) (rr:Scu.Replica) (ms:List Scu.Message) (f:Int) (e:Ending) (w':World):Prop :=
 (∃ E0 m0 z0 E1 z1 E2 z2 E3 z3 E4 z4 Ao co,e=.returned (.tuple #[.agg #[.int .i64 rr.me,.int .i64 rr.kept.view,.int .i64 rr.kept.normal,.bool rr.kept.calm,.slice E0 m0 z0,.int .i64 rr.kept.commit,.slice E1 rr.have_.length z1,.slice E2 rr.wants.length z2,.slice E3 rr.gives.length z3,.slice E4 rr.given.length z4],.slice Ao ms.length co,.int .i64 f])/\IsRep w' 0 (.slice E0 m0 z0) (.slice E1 rr.have_.length z1) (.slice E2 rr.wants.length z2) (.slice E3 rr.gives.length z3) (.slice E4 rr.given.length z4) rr/\IsRow 99 8 80 MsgE w' 0 (.slice Ao ms.length co) ms/\∀ g,(Value.slice Ao ms.length co).ownBlock=some g->w.heap.size<=g)/\Below w.heap.size w w'
section
variable (s:Bool) (lv hv wv gv nv:Value) (r:Scu.Replica) (w:World) (B:Nat) (hr:IsRep w B lv hv wv gv nv r) (rr:Scu.Replica) (ms:List Scu.Message) (f:Int)
include hr
theorem zWc (h:Scu.tick r=(rr,ms,f)):Calls Tryz.prog (fTick s) #[.agg #[.int .i64 r.me,.int .i64 r.kept.view,.int .i64 r.kept.normal,.bool r.kept.calm,lv,.int .i64 r.kept.commit,hv,wv,gv,nv]] w (AskQ w rr ms f):=by
 cases s
 ·exact zZi lv hv wv gv nv r w B hr rr ms f h
 exact (zUp lv hv wv gv nv r w B hr rr ms f h).mono fun _ _ h=>zIi h.1 h.2
theorem zXv (h:Scu.alarm r=(rr,ms,f)):Calls Tryz.prog (fAlarm s) #[.agg #[.int .i64 r.me,.int .i64 r.kept.view,.int .i64 r.kept.normal,.bool r.kept.calm,lv,.int .i64 r.kept.commit,hv,wv,gv,nv]] w (AskQ w rr ms f):=by
 cases s
 ·exact zXl lv hv wv gv nv r w B hr rr ms f h
 exact (zSk lv hv wv gv nv r w B hr rr ms f h).mono fun _ _ h=>zIi h.1 h.2
theorem zWd (e:Scu.Str) (he:e.size<=R47) (h:Scu.take r e=(rr,ms,f)):Calls Tryz.prog (fTake s) #[.agg #[.int .i64 r.me,.int .i64 r.kept.view,.int .i64 r.kept.normal,.bool r.kept.calm,lv,.int .i64 r.kept.commit,hv,wv,gv,nv],.string e] w (AskQ w rr ms f):=by
 cases s
 ·exact zZj lv hv wv gv nv r e he w B hr rr ms f h
 exact (zXt lv hv wv gv nv r e he w B hr rr ms f h).mono fun _ _ h=>zIi h.1 h.2
theorem zZm (xv:Value) (m:Scu.Message) (hx:IsStrs w B xv m.log) (h:Scu.hear r m=(rr,ms,f)) :
 Calls Tryz.prog (fHear s) #[.agg #[.int .i64 r.me,.int .i64 r.kept.view,.int .i64 r.kept.normal,.bool r.kept.calm,lv,.int .i64 r.kept.commit,hv,wv,gv,nv],.agg #[.int .i64 m.kind,.int .i64 m.from_,.int .i64 m.tq,.int .i64 m.view,.int .i64 m.normal,.int .i64 m.commit,.int .i64 m.n,xv]] w (AskQ w rr ms f):=by
 cases s
 ·exact zZk lv hv wv gv nv xv r m w B hr hx rr ms f h
 have:=zSl lv hv wv gv nv xv r m w B hr hx;rw [h] at this;exact this.mono fun _ _ h=>zIi h.1 h.2
end
structure AcS (s:Bool) (w W:World) (base gx:Nat) (x:Scu.Net) (a:Scu.Act) (rv sv fv cv tv:Value):Prop where
 net:NetG s W base gx x rv sv fv cv tv
 ab:Blk W w.heap.size 57 #[.int .i64 a.kind,.int .i64 a.c,.int .i64 a.r,.int .i64 a.k,.int .i64 a.n,.int .i64 a.op.kind,.int .i64 a.op.at_,.int .i64 a.op.snap,.string a.op.data]
 fr:Fr base w W
 le:base<=w.heap.size
theorem AcS.below {s:Bool} {w W W':World} {base gx:Nat} {x:Scu.Net} {a:Scu.Act} {rv sv fv cv tv:Value} (h:AcS s w W base gx x a rv sv fv cv tv) (hb:Below W.heap.size W W'):AcS s w W' base gx x a rv sv fv cv tv:=⟨h.net.below hb,h.ab.same hb,h.fr.trans (Fr.of hb (mD h.le h.fr.size)),h.le⟩
theorem zEs {b0 b1:Bool} {v hi Ha:Int} (h0:decide (v < 0)=b0) (h1:decide (Ha<=v)=b1) (h:Ha=hi+1):inB v 0 hi=(!b0 && !b1):=by
 subst h0;subst h1;subst h;rw [Bool.eq_iff_iff];simp only [inB,Bool.and_eq_true,decide_eq_true_eq,Bool.not_eq_true',decide_eq_false_iff_not]
 omega
theorem pr2 {α β:Type} {a b:α} {c d:β} (h:(a,c)=(b,d)):b=a/\d=c:=⟨(Prod.mk.inj h).1.symm,(Prod.mk.inj h).2.symm⟩
theorem boxedE {Wd W' x1 X W3:World} {gb:Nat} {rr:Scu.Replica} {ms:List Scu.Message} {E0:Option Addr} {m0 z0:Nat} {E1:Option Addr} {z1:Nat} {E2:Option Addr} {z2:Nat} {E3:Option Addr} {z3:Nat} {E4:Option Addr} {z4:Nat} {Ao:Option Addr} {co:Nat} {b0 b1 b2 b3 b4 b5 b6 b7 b8 b9:Value}
 (hW:W3=X.setCells gb 0 [.int .i64 rr.me,.int .i64 rr.kept.view,.int .i64 rr.kept.normal,.bool rr.kept.calm,.slice E0 m0 z0,.int .i64 rr.kept.commit,.slice E1 rr.have_.length z1,.slice E2 rr.wants.length z2,.slice E3 rr.gives.length z3,.slice E4 rr.given.length z4]) (h1:IsRep x1 0 (.slice E0 m0 z0) (.slice E1 rr.have_.length z1) (.slice E2 rr.wants.length z2) (.slice E3 rr.gives.length z3) (.slice E4 rr.given.length z4) rr/\IsRow 99 8 80 MsgE x1 0 (.slice Ao ms.length co) ms/\∀ g,(Value.slice Ao ms.length co).ownBlock=some g->W'.heap.size<=g)
 (h0:Below Wd.heap.size Wd W') (hX:Below Wd.heap.size Wd X) (hB:Blk X gb 47 #[b0,b1,b2,b3,b4,b5,b6,b7,b8,b9]) (hg:Wd.heap.size<=gb) (hx:Below x1.heap.size x1 X) :
 Below Wd.heap.size Wd W3/\Blk W3 gb 47 #[.int .i64 rr.me,.int .i64 rr.kept.view,.int .i64 rr.kept.normal,.bool rr.kept.calm,.slice E0 m0 z0,.int .i64 rr.kept.commit,.slice E1 rr.have_.length z1,.slice E2 rr.wants.length z2,.slice E3 rr.gives.length z3,.slice E4 rr.given.length z4] /\
  IsRep W3 0 (.slice E0 m0 z0) (.slice E1 rr.have_.length z1) (.slice E2 rr.wants.length z2) (.slice E3 rr.gives.length z3) (.slice E4 rr.given.length z4) rr/\IsRow 99 8 80 MsgE W3 0 (.slice Ao ms.length co) ms/\(∀ g,(Value.slice Ao ms.length co).ownBlock=some g->Wd.heap.size<=g)/\Wd.heap.size<=gb:=by
 subst hW;obtain ⟨a,b,c,d⟩:=zSf h1.1 h1.2.1 hX hB hg hx;exact ⟨a,b,c,d,fun g hq=>mD h0.size (h1.2.2 g hq),hg⟩
theorem zFw {s:Bool} {W:World} {base gx:Nat} {x:Scu.Net} {rv sv fv cv tv v:Value} (hN:NetG s W base gx x rv sv fv cv tv) (h:∀ g,v.ownBlock=some g->W.heap.size<=g):∀ g,v.ownBlock=some g->fv.ownBlock≠some g:=fun g hg e=>by
 have h1:=h g hg;obtain ⟨_,Ha⟩:=hN.fly;have h2:=(Ha.lt g e).2;omega
end Go.Proofs.YtlngfbngnnepiaaGreat
namespace Scu
def newRep (c:Nat):Replica:=(repNew (c:Int) keptNew).1
def newCust (c:Nat):Customer:=⟨(c:Int)+1,1,req0⟩
def made (k c:Nat):Net:=⟨(List.range k).map newRep,List.replicate k stageNew,[],(List.range c).map newCust,[]⟩
theorem steps_take {x:Net} {l:List Act} {k:Nat} (hk:k < l.length) {y:Net} {cs:List Int} (h:steps x (l.take k)=(y,cs)):steps x (l.take (k+1))=((act y l[k]).1,cs ++ [(act y l[k]).2]):=by
 rw [List.take_succ_eq_append_getElem hk,zLt,h];rfl
end Scu
namespace Go.Proofs.YtlngfbngnnepiaaGreat
open Go.RowKit
def actV (a:Scu.Act):List Value:=[.int .i64 a.kind,.int .i64 a.c,.int .i64 a.r,.int .i64 a.k,.int .i64 a.n,.int .i64 a.op.kind,.int .i64 a.op.at_,.int .i64 a.op.snap,.string a.op.data]
def ActE (_:World) (_:Nat) (cs:List Value) (a:Scu.Act):Prop:=cs=actV a
theorem zXw:ElT 22 57 9 80:=by
 obtain ⟨i,h1,h2,h3,h4⟩:=info_parts (P:=Tryz.prog) (e:=57) (z:=.agg #[.int .i64 0,.int .i64 0,.int .i64 0,.int .i64 0,.int .i64 0,.int .i64 0,.int .i64 0,.int .i64 0,.string ByteArray.empty]) (size:=9) (bytes:=80) (by kernel_rfl);exact ⟨Tryz.underlying22,by omega,i,_,h1,h2,h3,h4,rfl⟩
abbrev IsActs (w:World) (v:Value) (l:List Scu.Act):Prop:=IsRow 57 9 80 ActE w 0 v l
theorem IsActs.below {w w':World} {v:Value} {l:List Scu.Act} (h:IsActs w v l) (hb:Below w.heap.size w w'):IsActs w' v l :=
 IsRow.same h (Ts:=[57]) (by simp) (Same.below hb) (fun _ _ h=>h)
section
variable {s:Bool} {w w' P w4:World} {base gx:Nat} {x:Scu.Net} {rv sv fv cv tv v4:Value} {Ts:List TypeId} {B:Nat}
theorem NetG.pushRep (h:NetG s P base gx x rv sv fv cv tv) {css:List (List Value)} (hf:OwnR 47 10 160 RepE P base rv x.replicas css) {cs:List Value} {m:Scu.Replica} (hx:RepE P 0 cs m) (hm:(x.replicas.length+1)*160<=R47)
 (h4:w4.ownsRow base 47 10 v4 (x.replicas.length+1) (css.flatten ++ cs)) (hg:P.grownBy w4 rv.ownBlock) (hb:base<=P.heap.size) :
 NetG s (w4.setCell ⟨gx,0,none⟩ v4) base gx { x with replicas:=x.replicas ++ [m] } v4 sv fv cv tv/\Fr base P (w4.setCell ⟨gx,0,none⟩ v4):=by
 have Hb:Same [NT s,39,99,55,71,9,3,4,42,30,31] 0 P w4:=Same.own hf.row hg (mE _) (by cases s <;> decide);have Ha:=zAc h.box Hb (by simp);have Hc:Same [47,39,99,55,71,9,3,4,42,30,31] 0 w4 (w4.setCell ⟨gx,0,none⟩ v4):=Same.set_ Ha (mE _) (by cases s <;> decide) 0 v4;have hs:Same [39,99,55,71,9,3,4,42,30,31] 0 P (w4.setCell ⟨gx,0,none⟩ v4):=(Hb.mono (by simp) (mC _)).trans (Hc.mono (by simp) (mC _));have hp:=hf.push hm hx.len (hx.same (Ts:=[9,3,4,42]) (by simp) (Hb.mono (by simp) (mC _))) h4 (fun _ _ hx=>hx.same (Ts:=[9,3,4,42]) (by simp) (Hb.mono (by simp) (mC _)));refine ⟨⟨Ha.set_ 0 v4,zCa ⟨_,hp⟩ Hc (by simp) (by simp),zBp h.slots hs (by simp) (by simp),zDs h.fly hs (by simp) (by simp),zCl h.cust hs (by simp),zCc h.told hs (by simp),h.lx⟩,?_⟩;exact ⟨((mG base P).grown hg hb (fun q hq=>(hf.row.lt q hq).1)).setCell (p:=⟨gx,0,none⟩) h.lx v4,hs.mono (by simp) (mC _)⟩
theorem NetG.pushSlot (h:NetG s P base gx x rv sv fv cv tv) {css:List (List Value)} (hf:OwnR 39 1 24 RowE P base sv x.slots css) {cs:List Value} {m:List Scu.Str} (hx:RowE P 0 cs m) (hm:(x.slots.length+1)*24<=R47)
 (h4:w4.ownsRow base 39 1 v4 (x.slots.length+1) (css.flatten ++ cs)) (hg:P.grownBy w4 sv.ownBlock) (hb:base<=P.heap.size) :
 NetG s (w4.setCell ⟨gx,1,none⟩ v4) base gx { x with slots:=x.slots ++ [m] } rv v4 fv cv tv/\Fr base P (w4.setCell ⟨gx,1,none⟩ v4):=by
 have Hb:Same [NT s,47,99,55,71,9,3,4,42,30,31] 0 P w4:=Same.own hf.row hg (mE _) (by cases s <;> decide);have Ha:=zAc h.box Hb (by simp);have Hc:Same [47,39,99,55,71,9,3,4,42,30,31] 0 w4 (w4.setCell ⟨gx,1,none⟩ v4):=Same.set_ Ha (mE _) (by cases s <;> decide) 1 v4;have hs:Same [47,99,55,71,9,3,4,42,30,31] 0 P (w4.setCell ⟨gx,1,none⟩ v4):=(Hb.mono (by simp) (mC _)).trans (Hc.mono (by simp) (mC _));have hp:=hf.push hm hx.len (hx.same (Ts:=[9]) (by simp) (Hb.mono (by simp) (mC _))) h4 (fun _ _ hx=>hx.same (Ts:=[9]) (by simp) (Hb.mono (by simp) (mC _)));refine ⟨⟨Ha.set_ 1 v4,zCa h.reps hs (by simp) (by simp),zBp ⟨_,hp⟩ Hc (by simp) (by simp),zDs h.fly hs (by simp) (by simp),zCl h.cust hs (by simp),zCc h.told hs (by simp),h.lx⟩,?_⟩;exact ⟨((mG base P).grown hg hb (fun q hq=>(hf.row.lt q hq).1)).setCell (p:=⟨gx,1,none⟩) h.lx v4,hs.mono (by simp) (mC _)⟩
theorem NetG.pushCust (h:NetG s P base gx x rv sv fv cv tv) {css:List (List Value)} (hf:OwnR 55 8 72 CustE P base cv x.clients css) {u:Scu.Customer} (hm:(x.clients.length+1)*72<=R47)
 (h4:w4.ownsRow base 55 8 v4 (x.clients.length+1) (css.flatten ++ custV u)) (hg:P.grownBy w4 cv.ownBlock) (hb:base<=P.heap.size) :
 NetG s (w4.setCell ⟨gx,3,none⟩ v4) base gx { x with clients:=x.clients ++ [u] } rv sv fv v4 tv/\Fr base P (w4.setCell ⟨gx,3,none⟩ v4):=by
 have Hb:Same [NT s,47,39,71,99,9,3,4,42,30,31] 0 P w4:=Same.own hf.row hg (mE _) (by cases s <;> decide);have Ha:=zAc h.box Hb (by simp);have Hc:Same [47,39,99,55,71,9,3,4,42,30,31] 0 w4 (w4.setCell ⟨gx,3,none⟩ v4):=Same.set_ Ha (mE _) (by cases s <;> decide) 3 v4;have hs:Same [47,39,71,99,9,3,4,42,30,31] 0 P (w4.setCell ⟨gx,3,none⟩ v4):=(Hb.mono (by simp) (mC _)).trans (Hc.mono (by simp) (mC _));have hp:=hf.push hm (x:=u) (cs:=custV u) rfl rfl h4 (fun _ _ hx=>hx);refine ⟨⟨Ha.set_ 3 v4,zCa h.reps hs (by simp) (by simp),zBp h.slots hs (by simp) (by simp),zDs h.fly hs (by simp) (by simp),zCl ⟨_,hp⟩ Hc (by simp),zCc h.told hs (by simp),h.lx⟩,?_⟩;exact ⟨((mG base P).grown hg hb (fun q hq=>(hf.row.lt q hq).1)).setCell (p:=⟨gx,3,none⟩) h.lx v4,hs.mono (by simp) (mC _)⟩
theorem NetG.other {g:Nat} {cs:Array Value} (h:NetG s w base gx x rv sv fv cv tv) (hB:Blk w g 30 cs) (i:Nat) (u:Value):NetG s (w.setCell ⟨g,i,none⟩ u) base gx x rv sv fv cv tv :=
 h.same (Same.set_ hB (mE _) (by cases s <;> decide) i u)
end
structure OutW (w:World) (rv sv fv cv tv ov:Value) (o:Scu.Outcome):Prop where
 reps:IsRow 47 10 160 RepE w 0 rv o.replicas
 slots:IsRow 39 1 24 RowE w 0 sv o.slots
 fly:IsRow 99 8 80 MsgE w 0 fv o.flying
 cust:IsRow 55 8 72 CustE w 0 cv o.clients
 told:IsRow 71 9 88 ToldE w 0 tv o.told
 codes:IsOnes 31 8 (Value.int .i64) w 0 ov o.codes
theorem OutW.below {w w':World} {rv sv fv cv tv ov:Value} {o:Scu.Outcome} (h:OutW w rv sv fv cv tv ov o) (hb:Below w.heap.size w w'):OutW w' rv sv fv cv tv ov o :=
 ⟨IsRow.same h.reps (Ts:=[47,9,3,4,42]) (by simp) (Same.below hb) (fun _ _ h=>h.same (Ts:=[9,3,4,42]) (by simp) (Same.below hb)),
  IsRow.same h.slots (Ts:=[39,9]) (by simp) (Same.below hb) (fun _ _ h=>h.same (Ts:=[9]) (by simp) (Same.below hb)),IsMs.below h.fly hb,
  IsRow.same h.cust (Ts:=[55]) (by simp) (Same.below hb) (fun _ _ h=>h),IsRow.same h.told (Ts:=[71]) (by simp) (Same.below hb) (fun _ _ h=>h),h.codes.below hb⟩
structure RunG (s:Bool) (w W:World) (gq:Nat) (y:Scu.Net) (rv sv fv cv tv ov:Value) (codes:List Int):Prop where
 net:NetG s W w.heap.size (w.heap.size+1) y rv sv fv cv tv
 res:Blk W w.heap.size 30 #[.slice none 0 0,.slice none 0 0,.slice none 0 0,.slice none 0 0,.slice none 0 0,.slice none 0 0]
 out:Blk W gq 30 #[.slice none 0 0,.slice none 0 0,.slice none 0 0,.slice none 0 0,.slice none 0 0,ov]
 codes:W.ownsRow w.heap.size 31 1 ov codes.length (codes.map (Value.int .i64))
 low:Below w.heap.size w W
 gq:w.heap.size+1 < gq
theorem RunG.below {s:Bool} {w W W':World} {gq:Nat} {y:Scu.Net} {rv sv fv cv tv ov:Value} {codes:List Int} (h:RunG s w W gq y rv sv fv cv tv ov codes) (hb:Below W.heap.size W W'):RunG s w W' gq y rv sv fv cv tv ov codes :=
 ⟨h.net.below hb,h.res.same hb,h.out.same hb,zHa (B:=0) (Ts:=[31]) h.codes (by simp) (Same.below hb),h.low.trans (hb.mono h.low.size),h.gq⟩
theorem RunG.acted {s:Bool} {w W W':World} {gq:Nat} {y y':Scu.Net} {rv sv fv cv tv rv' sv' fv' cv' tv' ov:Value} {codes:List Int} (h:RunG s w W gq y rv sv fv cv tv ov codes) (hn:NetG s W' w.heap.size (w.heap.size+1) y' rv' sv' fv' cv' tv') (hf:Fr w.heap.size W W'):RunG s w W' gq y' rv' sv' fv' cv' tv' ov codes :=
 ⟨hn,zAc h.res hf.2 (by simp),zAc h.out hf.2 (by simp),zHa h.codes (by simp) hf.2,h.low.trans hf.1,h.gq⟩
theorem RunG.push {s:Bool} {w P w4:World} {gq:Nat} {y:Scu.Net} {rv sv fv cv tv ov v4:Value} {codes:List Int} {f:Int} (h:RunG s w P gq y rv sv fv cv tv ov codes)
 (h4:w4.ownsRow w.heap.size 31 1 v4 (codes.length+1) (codes.map (Value.int .i64) ++ [.int .i64 f])) (hg:P.grownBy w4 ov.ownBlock):RunG s w (w4.setCell ⟨gq,5,none⟩ v4) gq y rv sv fv cv tv v4 (codes ++ [f]):=by
 have Ha:Same [30,NT s,47,39,99,55,71,9,3,4,42] 0 P w4:=Same.own h.codes hg (mE _) (by cases s <;> decide);have ho:=zAc h.out Ha (by simp);have hr:=zAc h.res Ha (by simp);refine ⟨(h.net.same (Ha.mono (by simp) (mC _))).other ho 5 v4,?_,ho.set_ 5 v4,?_,(h.low.grown hg h.low.size (fun q hq=>(h.codes.lt q hq).1)).setCell (p:=⟨gq,5,none⟩) (Nat.le_of_lt (Nat.lt_of_succ_lt h.gq)) v4,h.gq⟩
 ·have:w.heap.size≠gq:=by have:=h.gq;omega
  unfold Blk at hr ⊢;rw [<- hr];exact Below.heap_setCell w4 ⟨gq,5,none⟩ v4 w.heap.size this
 rw [List.length_append,List.map_append];exact zHa (B:=0) (Ts:=[31]) h4 (by simp) (Same.set_ ho (mE _) (by cases s <;> decide) 5 v4)
theorem Same.low {Ts:List TypeId} {w W W':World} (h:Same Ts 0 w W) (hb:Below w.heap.size W W'):Same Ts 0 w W' :=
 ⟨mD h.size hb.size,fun g hg hh=>(hb.block g hg).trans (h.keep g hg hh)⟩
structure RunDG (s:Bool) (w W0 W:World) (gq:Nat) (rs:List Scu.Replica) (ss:List (List Scu.Str)) (r t:Nat) (orv osv ov:Value):Prop where
 same:Same [NT s,47,39,99,55,71,9,3,4,42,31] 0 W0 W
 res:Blk W w.heap.size 30 #[.slice none 0 0,.slice none 0 0,.slice none 0 0,.slice none 0 0,.slice none 0 0,.slice none 0 0]
 out:Blk W gq 30 #[orv,osv,.slice none 0 0,.slice none 0 0,.slice none 0 0,ov]
 reps:∃ css,OwnR 47 10 160 RepE W W0.heap.size orv (rs.take r) css
 slots:∃ css,OwnR 39 1 24 RowE W W0.heap.size osv (ss.take t) css
 low:Below w.heap.size w W
section
variable {s:Bool} {w W0 W W' P w4:World} {gq r t:Nat} {rs:List Scu.Replica} {ss:List (List Scu.Str)} {orv osv ov v4:Value}
theorem RunDG.below (h:RunDG s w W0 W gq rs ss r t orv osv ov) (hb:Below W.heap.size W W'):RunDG s w W0 W' gq rs ss r t orv osv ov :=
 ⟨h.same.low (hb.mono h.same.size),h.res.same hb,h.out.same hb,zCa h.reps (Ts:=[47,9,3,4,42]) (Same.below hb) (by simp) (by simp),zBp h.slots (Ts:=[39,9]) (Same.below hb) (by simp) (by simp),h.low.trans (hb.mono h.low.size)⟩
theorem RunDG.push (h:RunDG s w W0 P gq rs ss r t orv osv ov) (Hf:w.heap.size < gq) (hw:w.heap.size<=W0.heap.size) {n:Nat} {css:List (List Value)} (hf:OwnR 47 10 160 RepE P W0.heap.size orv (rs.take r) css) (hn:n=(rs.take r).length) {cs:List Value} {m:Scu.Replica} (hx:RepE P 0 cs m) (hm:(n+1)*160<=R47)
 (h4:w4.ownsRow W0.heap.size 47 10 v4 (n+1) (css.flatten ++ cs)) (hg:P.grownBy w4 orv.ownBlock) (hr:r < rs.length) (Hg:rs[r]=m) :
 RunDG s w W0 (w4.setCell ⟨gq,0,none⟩ v4) gq rs ss (r+1) t v4 osv ov:=by
 subst hn;subst Hg;have Ha:Same [30,39,9,3,4,42] 0 P w4:=Same.own hf.row hg (mE _) (by cases s <;> decide);have Hb:=zAc h.out Ha (by simp);have Hc:=zAc h.res Ha (by simp);have He:Below W0.heap.size P w4:=(mG _ P).grown hg h.same.size (fun q hq=>(hf.row.lt q hq).1);have Hd:Same [NT s,47,39,99,55,71,9,3,4,42,31] 0 w4 (w4.setCell ⟨gq,0,none⟩ v4):=Same.set_ Hb (mE _) (by cases s <;> decide) 0 v4;have hp:=hf.push hm hx.len (hx.same (Ts:=[9,3,4,42]) (by simp) (Ha.mono (by simp) (mC _))) h4 (fun _ _ hx=>hx.same (Ts:=[9,3,4,42]) (by simp) (Ha.mono (by simp) (mC _)));rw [<- List.take_succ_eq_append_getElem hr] at hp;obtain ⟨c2,Hh⟩:=zCa ⟨_,hp⟩ Hd (by simp) (by simp);refine ⟨(h.same.low He).trans Hd,?_,Hb.set_ 0 v4,⟨_,Hh⟩,zBp (zBp h.slots Ha (by simp) (by simp)) Hd (by simp) (by simp),((h.low.trans (He.mono hw))).setCell (p:=⟨gq,0,none⟩) (Nat.le_of_lt Hf) v4⟩;unfold Blk at Hc ⊢;rw [<- Hc];exact Below.heap_setCell w4 ⟨gq,0,none⟩ v4 w.heap.size (by show w.heap.size≠gq;omega)
theorem RunDG.pushS (h:RunDG s w W0 P gq rs ss r t orv osv ov) (Hf:w.heap.size < gq) (hw:w.heap.size<=W0.heap.size) {n:Nat} {css:List (List Value)} (hf:OwnR 39 1 24 RowE P W0.heap.size osv (ss.take t) css) (hn:n=(ss.take t).length) {cs:List Value} {m:List Scu.Str} (hx:RowE P 0 cs m) (hm:(n+1)*24<=R47)
 (h4:w4.ownsRow W0.heap.size 39 1 v4 (n+1) (css.flatten ++ cs)) (hg:P.grownBy w4 osv.ownBlock) (hr:t < ss.length) (Hg:ss[t]=m) :
 RunDG s w W0 (w4.setCell ⟨gq,1,none⟩ v4) gq rs ss r (t+1) orv v4 ov:=by
 subst hn;subst Hg;have Ha:Same [30,47,9,3,4,42] 0 P w4:=Same.own hf.row hg (mE _) (by cases s <;> decide);have Hb:=zAc h.out Ha (by simp);have Hc:=zAc h.res Ha (by simp);have He:Below W0.heap.size P w4:=(mG _ P).grown hg h.same.size (fun q hq=>(hf.row.lt q hq).1);have Hd:Same [NT s,47,39,99,55,71,9,3,4,42,31] 0 w4 (w4.setCell ⟨gq,1,none⟩ v4):=Same.set_ Hb (mE _) (by cases s <;> decide) 1 v4;have hp:=hf.push hm hx.len (hx.same (Ts:=[9]) (by simp) (Ha.mono (by simp) (mC _))) h4 (fun _ _ hx=>hx.same (Ts:=[9]) (by simp) (Ha.mono (by simp) (mC _)));rw [<- List.take_succ_eq_append_getElem hr] at hp;refine ⟨(h.same.low He).trans Hd,?_,Hb.set_ 1 v4,zCa (zCa h.reps Ha (by simp) (by simp)) Hd (by simp) (by simp),zBp ⟨_,hp⟩ Hd (by simp) (by simp),((h.low.trans (He.mono hw))).setCell (p:=⟨gq,1,none⟩) (Nat.le_of_lt Hf) v4⟩;unfold Blk at Hc ⊢;rw [<- Hc];exact Below.heap_setCell w4 ⟨gq,1,none⟩ v4 w.heap.size (by show w.heap.size≠gq;omega)
end
open Go.RowKit
theorem zLn {W:World} {t:TypeId} {u:Value} : Src1 (W.alloc (.cells #[u] t)) 1 (.slice (some ⟨W.heap.size,0,none⟩) 1 1) 1 [u]:=zTn
theorem zIs {W:World} {t:TypeId} {cs:List Value} {m:Nat} (hm:cs.length=m):Src1 (W.alloc (.cells cs.toArray t)) m (.slice (some ⟨W.heap.size,0,none⟩) 1 1) 1 cs:=zRo hm
theorem zUq {u:Value} (h:u.oneCell'=true):∀ v ∈ [u],v.oneCell'=true:=by
 intro v hv;rw [List.mem_singleton] at hv;subst hv;exact h
theorem zUr (u:Scu.Customer):∀ v ∈ custV u,v.oneCell'=true:=by
 intro v hv;simp only [custV,List.mem_cons,List.not_mem_nil,or_false] at hv
 rcases hv with rfl | rfl | rfl | rfl | rfl | rfl | rfl | rfl <;> rfl
theorem zJs {w:World} {base:Nat} {v:Value} {xs:List Int} (h:w.ownsRow base 31 1 v xs.length (xs.map (Value.int .i64))) (hl:xs.length<=300):IsOnes 31 8 (Value.int .i64) w 0 v xs:=by
 obtain ⟨A,c,rfl,hc,_,hr,_⟩:=zAi h;exact ⟨⟨A,c,rfl,hc,hr⟩,by unfold R47;omega⟩
theorem zXx {W:World} {g:Nat} {cs:Array Value} (hB:Blk W g 30 cs) (a b c d e f:Value):Same [47,39,99,55,71,9,3,4,42,31] 0 W ((((((W.setCell ⟨g,0,none⟩ a).setCell ⟨g,1,none⟩ b).setCell ⟨g,2,none⟩ c).setCell ⟨g,3,none⟩ d).setCell ⟨g,4,none⟩ e).setCell ⟨g,5,none⟩ f):=by
 have h0:=hB.set_ 0 a;have h1:=h0.set_ 1 b;have h2:=h1.set_ 2 c;have h3:=h2.set_ 3 d;have h4:=h3.set_ 4 e;exact (((((Same.set_ hB (mE _) (by decide) 0 a).trans (Same.set_ h0 (mE _) (by decide) 1 b)).trans (Same.set_ h1 (mE _) (by decide) 2 c)).trans (Same.set_ h2 (mE _) (by decide) 3 d)).trans (Same.set_ h3 (mE _) (by decide) 4 e)).trans (Same.set_ h4 (mE _) (by decide) 5 f)
theorem zSm {w W:World} {g:Nat} (hl:Below w.heap.size w W) (hg:w.heap.size<=g) (a b c d e f:Value):Below w.heap.size w ((((((W.setCell ⟨g,0,none⟩ a).setCell ⟨g,1,none⟩ b).setCell ⟨g,2,none⟩ c).setCell ⟨g,3,none⟩ d).setCell ⟨g,4,none⟩ e).setCell ⟨g,5,none⟩ f) :=
 (((((hl.setCell (p:=⟨g,0,none⟩) hg a).setCell (p:=⟨g,1,none⟩) hg b).setCell (p:=⟨g,2,none⟩) hg c).setCell (p:=⟨g,3,none⟩) hg d).setCell (p:=⟨g,4,none⟩) hg e).setCell (p:=⟨g,5,none⟩) hg f
theorem zXy {s:Bool} {W7 W8 Wf:World} {base b7 gx:Nat} {x:Scu.Net} {codes:List Int} {rv sv fv cv tv ov rv7 sv7:Value} {cs1 cs2:List (List Value)} (h1:OwnR 47 10 160 RepE W8 b7 rv x.replicas cs1) (h2:OwnR 39 1 24 RowE W8 b7 sv x.slots cs2)
 (hN:NetG s W7 base gx x rv7 sv7 fv cv tv) (hc:W7.ownsRow base 31 1 ov codes.length (codes.map (Value.int .i64))) (Hb:codes.length<=300) (hs:Same [47,39,99,55,71,9,3,4,42,31] 0 W8 Wf) (Ha:Same [47,39,99,55,71,9,3,4,42,31] 0 W7 Wf):OutW Wf rv sv fv cv tv ov (Scu.outOf (x,codes)):=by
 obtain ⟨f1,hf⟩:=hN.fly;obtain ⟨f2,hu⟩:=hN.cust;obtain ⟨f3,ht⟩:=hN.told;exact ⟨IsRow.same h1.is (by simp) hs (fun _ _ h=>h.same (by simp) hs),IsRow.same h2.is (by simp) hs (fun _ _ h=>h.same (by simp) hs),IsRow.same hf.is (by simp) Ha (fun _ _ h=>h.same (by simp) Ha),IsRow.same hu.is (by simp) Ha (fun _ _ h=>h),IsRow.same ht.is (by simp) Ha (fun _ _ h=>h),zJs (zHa hc (by simp) Ha) Hb⟩
theorem NetG.box4 {s:Bool} {P w4:World} {base gx B n m:Nat} {x:Scu.Net} {rv sv fv cv tv v:Value} {t:TypeId} {xs:List Value} (h:NetG s P base gx x rv sv fv cv tv) (hr:P.ownsRow B t n v m xs) (hg:P.grownBy w4 v.ownBlock) (ht:NT s≠t):Blk w4 gx (NT s) #[rv,sv,fv,cv,tv] :=
 zAc h.box (Ts:=[NT s]) (Same.own hr hg (mE _) (by simpa using fun e=>ht e.symm)) (by simp)
theorem at_c (s:Bool) (a:Scu.Act) (w:World) (base gx:Nat) (x:Scu.Net) (rv sv fv cv tv:Value) (hN:NetG s w base gx x rv sv fv cv tv) (hb:base<=w.heap.size) (n:Nat) (hC:Scu.Came n x) (hn:n<=900) (hk:a.kind=4\/a.kind=5\/a.kind=9) (y:Scu.Net) (f:Int) (hy:Scu.actAt x a=(y,f)):Calls Tryz.prog (fAt s) #[.pointer (some ⟨gx,0,none⟩),.agg #[.int .i64 a.kind,.int .i64 a.c,.int .i64 a.r,.int .i64 a.k,.int .i64 a.n,.int .i64 a.op.kind,.int .i64 a.op.at_,.int .i64 a.op.snap,.string a.op.data]] w fun e w'=>e=.returned (.int .i64 f)/\NetGE s w' base gx y/\Fr base w w':=by
 obtain ⟨i0,h0⟩:=mK (decide (a.r < 0));obtain ⟨i1,h1⟩:=mK (decide (3<=a.r));have Ho:=zEs h0 h1 (hi:=2) rfl;obtain ⟨B0,e0,B1,e1,B2,e2,B3,e3,B4,e4,rfl,rfl,rfl,rfl,rfl⟩:=hN.forms;have Hj:=zAa w (.cells (aN a) 57);have HS:=mA (show AcS s w (w.alloc (.cells (aN a) 57)) base gx x a _ _ _ _ _ from ⟨hN.below Hj,Blk.new w 57 (aN a),Fr.of Hj hb,hb⟩);have HC:=mA hC;by_cases hr:a.r < 0\/3<=a.r
 ·have HE:=mA (show y=x/\f=6 by unfold Scu.actAt at hy;rw [if_pos hr] at hy;exact pr2 hy);have Kf:i0=true\/i0=false/\i1=true:=by rw [<- h0,<- h1];simp only [decide_eq_true_eq,decide_eq_false_iff_not];omega
  clear hy hr hC hN Hj;rcases Kf with rfl | ⟨rfl,rfl⟩;all_goals
   cases s
   case' false =>
    change Calls Tryz.prog 24 _ _ _;go_enter Tryz.func24,Tryz.ntmps24
   case' true =>
    change Calls Tryz.prog 15 _ _ _;go_enter Tryz.func15,Tryz.ntmps15
   all_goals
    go_upto_region 1 with fail
    obtain ⟨Wd,Hf⟩:=mJ (w.alloc (.cells (aN a) 57));rw [<- Hf] at HS ⊢;clear Hf;obtain ⟨a0,a1,a2,a3,a4,a5,a6,a7,a8⟩:=cz9 HS.out.ab;have al:=HS.out.ab.lt;obtain ⟨d0,d1,d2,d3,d4⟩:=cz5 HS.out.net.box;have dl:=HS.out.net.box.lt;rcases hk with hk | hk | hk;all_goals
     rw [hk] at a0;clear hk;go_wp2_with (first | (go_at_call 12;refine (zAt _ _ _ _).mono ?_;rintro en w9 ⟨rfl,rfl⟩;rw [Ho];dsimp only [Bool.not_true,Bool.not_false,Bool.false_and,Bool.and_false,Bool.and_true]) | fail)
     go_ret
     exact ⟨zAb (zAd HE.out.2.symm),by rw [HE.out.1];exact HS.out.net.e,HS.out.fr⟩
 obtain ⟨r,Hw⟩:=Int.eq_ofNat_of_zero_le (show 0<=a.r by omega);obtain ⟨rfl,rfl⟩:i0=false/\i1=false:=by rw [<- h0,<- h1];simp only [decide_eq_false_iff_not];omega
 have Hx:r < x.replicas.length:=by have:=hC.rlen.1;omega
 have Kc:r < 3:=by omega
 have Kg:(r:Int) < (x.replicas.length:Int):=by omega
 have hg:x.replicas.getD r Scu.replica0=x.replicas[r]:=by rw [mI,mH Hx];rfl
 unfold Scu.actAt at hy;rw [if_neg hr,Hw,Int.toNat_natCast,hg] at hy;rw [Hw] at h0 h1 Ho;have HK:=mA Hw;obtain ⟨gr,cr,lu0,Kh,wv0,gv0,nv0,er,-,gl0,Hy,Ka,-⟩:=hN.repAt Hx;obtain ⟨rfl,rfl⟩:=slq er;obtain ⟨rk,Kd⟩:=mK (x.replicas[r]);rw [Kd] at Ka Hy hy;obtain ⟨F0,p0,q0,F1,q1,F2,q2,F3,q3,F4,q4,rfl,rfl,rfl,rfl,rfl⟩:=Hy.forms;have Kb:=mA Hy;have Hp:=mA (rgb Hj gl0 Ka);have HL:=mA Hj;have gl:gr < (w.alloc (.cells (aN a) 57)).heap.size:=mF gl0 Hj.size;clear Hw hr hg hC hN Hy Ka er Kd Hj gl0;rcases hk with hk | hk | hk;case' inr.inr =>
  have HE:=mA (show Scu.crash x r=(y,f) by rw [if_pos hk] at hy;exact hy);have Hn:=mA hk;clear hy hk;cases s
  case' false =>
   change Calls Tryz.prog 24 _ _ _;go_enter Tryz.func24,Tryz.ntmps24
  case' true =>
   change Calls Tryz.prog 15 _ _ _;go_enter Tryz.func15,Tryz.ntmps15
  all_goals
   go_upto_region 1 with fail
   obtain ⟨Wd,Hf⟩:=mJ (w.alloc (.cells (aN a) 57));rw [<- Hf] at HS ⊢;clear Hf;obtain ⟨a0,a1,a2,a3,a4,a5,a6,a7,a8⟩:=cz9 HS.out.ab;have al:=HS.out.ab.lt;obtain ⟨d0,d1,d2,d3,d4⟩:=cz5 HS.out.net.box;have dl:=HS.out.net.box.lt;rw [HK.out] at a2;rw [Hn.out] at a0;go_wp2_with (first | (go_at_call 12;refine (zAt _ _ _ _).mono ?_;rintro en w9 ⟨rfl,rfl⟩;rw [Ho];dsimp only [Bool.not_true,Bool.not_false,Bool.false_and,Bool.and_false,Bool.and_true]) | fail)
   refine (zSc _ r Wd base gx x _ _ _ _ _ HS.out.net (mD hb HS.out.fr.size) Hx (by rw [HC.out.rlen.2];exact Kc) HC.out.rlen.1 y f HE.out).mono ?_;rintro en w9 ⟨rfl,Hq,Hr⟩;have HT:=mA (mB Hq (HS.out.fr.trans Hr));clear Hq Hr;go_wp2
   go_ret
   exact ⟨zAb rfl,HT.out.1,HT.out.2⟩
 case' inl =>
  obtain ⟨rr,ms,fr,hd⟩:∃ rr ms fr,Scu.tick rk=(rr,ms,fr):=⟨_,_,_,rfl⟩;have HA:=mA (fun W' (h:Below w.heap.size w W')=>zWc s _ _ _ _ _ rk W' 0 (Kb.out.below h) rr ms fr hd);have HB:=mA trivial;have HE:=mA (show (if fr≠0 then (x,fr) else Scu.settle x r rr ms (-1))=(y,f) by rw [if_neg (show ¬ a.kind=9 by rw [hk];decide),if_neg (show ¬ a.kind=5 by rw [hk];decide),hd] at hy;exact hy)
 case' inr.inl =>
  obtain ⟨rr,ms,fr,hd⟩:∃ rr ms fr,Scu.alarm rk=(rr,ms,fr):=⟨_,_,_,rfl⟩;have HA:=mA (fun W' (h:Below w.heap.size w W')=>zXv s _ _ _ _ _ rk W' 0 (Kb.out.below h) rr ms fr hd);obtain ⟨rr0,ms0,fr0,Ke⟩:∃ rr ms fr,Scu.tick rk=(rr,ms,fr):=⟨_,_,_,rfl⟩;have HB:=mA (fun W' (h:Below w.heap.size w W')=>zWc s _ _ _ _ _ rk W' 0 (Kb.out.below h) rr0 ms0 fr0 Ke);have HE:=mA (show (if fr≠0 then (x,fr) else Scu.settle x r rr ms (-1))=(y,f) by rw [if_neg (show ¬ a.kind=9 by rw [hk];decide),if_pos hk,hd] at hy;exact hy);clear Ke
 all_goals
  have Hn:=mA hk;clear hd hy hk;cases s
  case' false =>
   change Calls Tryz.prog 24 _ _ _;go_enter Tryz.func24,Tryz.ntmps24
   go_upto_region 1 with fail
   obtain ⟨Wd,Hf⟩:=mJ (w.alloc (.cells (aN a) 57));rw [<- Hf] at HS Hp HL gl ⊢;clear Hf;obtain ⟨a0,a1,a2,a3,a4,a5,a6,a7,a8⟩:=cz9 HS.out.ab;rw [Hn.out] at a0;rw [HK.out] at a2;have al:=HS.out.ab.lt;have dl:=HS.out.net.box.lt;go_wp2_with (first | (go_at_call 12;refine (zAt _ _ _ _).mono ?_;rintro en w9 ⟨rfl,rfl⟩;rw [Ho];dsimp only [Bool.not_true,Bool.not_false,Bool.false_and,Bool.and_false,Bool.and_true]) | fail)
   clear a0 a1 a2 a3 a4 a5 a6 a7 a8;have Hb:Below Wd.heap.size Wd Wd.drew:=(mG _ _).drew;refine rgF (Below Wd.heap.size Wd) [] [0,1,2,3,4,5,6,7,8] Hb ?_;iterate 9
    (refine tkc (v:=?_) rfl (Or.inl ⟨by rfl,?_⟩) ?_;rotate_left;(intro wv Hd;(obtain ⟨d0,-⟩:=cz3 (HS.out.net.box.same Hd);obtain ⟨-,-,a2,-⟩:=cz9 (HS.out.ab.same Hd);rw [HK.out] at a2;obtain ⟨p0,p1,p2,p3,p4,p5,p6,p7,p8,p9⟩:=rg10 (rgb Hd gl Hp.out));go_simp;with_reducible rfl);(try simp only [Act.put,zp1,zp2,zp3]))
   refine tkz (fun He=>?_);refine al2 9 14 (fun KA Hh=>?_) (fun KA Hh=>?_);case' _ =>
    go_simp;have Hk:=Hb;first
    | refine (HB.out _ (HL.out.trans (Hb.mono HL.out.size))).mono ?_
    | refine (HA.out _ (HL.out.trans (Hb.mono HL.out.size))).mono ?_
    rintro en x1 ⟨⟨E0,m0,z0,E1,z1,E2,z2,E3,z3,E4,z4,Ao,co,rfl,hq⟩,k1⟩;have Ha:=Hb.trans k1;refine Hh _ _ ⟨.inr Ha,?_⟩;refine puT ?_;refine tkFs 16 [10,11,12,13] Ha (shF He 9) ?_;iterate 4
     (refine tkc (v:=?_) rfl (Or.inl ⟨by rfl,?_⟩) ?_;rotate_left;(intro wv Hd;skip;go_simp;with_reducible rfl);(try simp only [Act.put,zp1,zp2,zp3]))
    refine tkz (fun He=>?_);refine alF 14 (fun KB Hl=>?_);go_simp;have Hc:=Ha.alloc Ha.size (.cells zR 47);refine Hl _ _ ⟨.inr Hc,?_⟩;refine puT ?_;have HZ:=mA (Blk.new x1 47 zR);have Hm:=zAa x1 (.cells zR 47);have Hg:=Ha.size
   rotate_left
   case' _ =>
    go_simp;have Ha:=Hb.alloc (mC _) (.cells zR 47);have Hk:=Ha;refine Hh _ _ ⟨.inr Ha,?_⟩;refine puT ?_;refine alF 9 (fun KB Hl=>?_);go_simp;first
    | refine (HB.out _ (HL.out.trans (Ha.mono HL.out.size))).mono ?_
    | refine (HA.out _ (HL.out.trans (Ha.mono HL.out.size))).mono ?_
    rintro en x1 ⟨⟨E0,m0,z0,E1,z1,E2,z2,E3,z3,E4,z4,Ao,co,rfl,hq⟩,k1⟩;have HZ:=mA ((Blk.new' (w:=Wd.drew) (g:=Wd.heap.size) (t:=47) (cs:=zR) rfl).same k1);have Hc:=Ha.trans (k1.mono Ha.size);refine Hl _ _ ⟨.inr Hc,?_⟩;refine puT ?_;refine tkFs 16 [10,11,12,13] Hc (shF (shF He 14) 9) ?_;iterate 4
     (refine tkc (v:=?_) rfl (Or.inl ⟨by rfl,?_⟩) ?_;rotate_left;(intro wv Hd;skip;go_simp;with_reducible rfl);(try simp only [Act.put,zp1,zp2,zp3]))
    refine tkz (fun He=>?_);have Hm:=mG x1.heap.size x1;have Hg:=mC Wd.heap.size
   all_goals
    have HP:=mA hq;clear hq;refine alF 15 (fun KC Hs=>?_);rw [if_pos (by rfl)];refine wp_store_mid 47 _ _ rfl _ 0 #[_,_,_,_,_,_,_,_,_,_] rfl rfl (zBu HZ.out) (by kernel_rfl) (by simp [Value.oneCell']) ?_;refine Hs _ _ ⟨.inr (zAr Hg _ 0 _ _ Hc),genF fun W3 Hi=>?_⟩;have HQ:=mA (boxedE Hi HP.out Hk Hc HZ.out Hg Hm);clear Hi;refine puT ?_;refine alF 16 (fun KD Ht=>?_);go_simp;refine Ht _ _ ⟨.inr HQ.out.1,?_⟩;refine puT ?_;refine alF 17 (fun KE Hu=>?_);go_simp;refine Hu _ _ ⟨.inr HQ.out.1,zAe (by kernel_rfl) ?_ _⟩;refine puT ?_;change Exit.then _ _ _ _ W3
  case' true =>
   change Calls Tryz.prog 15 _ _ _;go_enter Tryz.func15,Tryz.ntmps15
   go_upto_region 1 with fail
   obtain ⟨Wd,Hf⟩:=mJ (w.alloc (.cells (aN a) 57));rw [<- Hf] at HS Hp HL gl ⊢;clear Hf;obtain ⟨a0,a1,a2,a3,a4,a5,a6,a7,a8⟩:=cz9 HS.out.ab;rw [Hn.out] at a0;rw [HK.out] at a2;have al:=HS.out.ab.lt;have dl:=HS.out.net.box.lt;go_wp2_with (first | (go_at_call 12;refine (zAt _ _ _ _).mono ?_;rintro en w9 ⟨rfl,rfl⟩;rw [Ho];dsimp only [Bool.not_true,Bool.not_false,Bool.false_and,Bool.and_false,Bool.and_true]) | fail)
   clear a0 a1 a2 a3 a4 a5 a6 a7 a8;have Hb:Below Wd.heap.size Wd Wd.drew:=(mG _ _).drew;refine rgF (Below Wd.heap.size Wd) [] [0,1,2,3,4,5,6,7] Hb ?_;iterate 8
    (refine tkc (v:=?_) rfl (Or.inl ⟨by rfl,?_⟩) ?_;rotate_left;(intro wv Hd;(obtain ⟨d0,-⟩:=cz3 (HS.out.net.box.same Hd);obtain ⟨-,-,a2,-⟩:=cz9 (HS.out.ab.same Hd);rw [HK.out] at a2;obtain ⟨p0,p1,p2,p3,p4,p5,p6,p7,p8,p9⟩:=rg10 (rgb Hd gl Hp.out));go_simp;with_reducible rfl);(try simp only [Act.put,zp1,zp2,zp3]))
   refine tkz (fun He=>?_);refine al2 8 13 (fun KA Hh=>?_) (fun KA Hh=>?_);case' _ =>
    go_simp;have Hk:=Hb;first
    | refine (HB.out _ (HL.out.trans (Hb.mono HL.out.size))).mono ?_
    | refine (HA.out _ (HL.out.trans (Hb.mono HL.out.size))).mono ?_
    rintro en x1 ⟨⟨E0,m0,z0,E1,z1,E2,z2,E3,z3,E4,z4,Ao,co,rfl,hq⟩,k1⟩;have Ha:=Hb.trans k1;refine Hh _ _ ⟨.inr Ha,?_⟩;refine puT ?_;refine tkFs 16 [9,10,11,12] Ha (shF He 8) ?_;iterate 4
     (refine tkc (v:=?_) rfl (Or.inl ⟨by rfl,?_⟩) ?_;rotate_left;(intro wv Hd;skip;go_simp;with_reducible rfl);(try simp only [Act.put,zp1,zp2,zp3]))
    refine tkz (fun He=>?_);refine alF 13 (fun KB Hl=>?_);go_simp;have Hc:=Ha.alloc Ha.size (.cells zR 47);refine Hl _ _ ⟨.inr Hc,?_⟩;refine puT ?_;have HZ:=mA (Blk.new x1 47 zR);have Hm:=zAa x1 (.cells zR 47);have Hg:=Ha.size
   rotate_left
   case' _ =>
    go_simp;have Ha:=Hb.alloc (mC _) (.cells zR 47);have Hk:=Ha;refine Hh _ _ ⟨.inr Ha,?_⟩;refine puT ?_;refine alF 8 (fun KB Hl=>?_);go_simp;first
    | refine (HB.out _ (HL.out.trans (Ha.mono HL.out.size))).mono ?_
    | refine (HA.out _ (HL.out.trans (Ha.mono HL.out.size))).mono ?_
    rintro en x1 ⟨⟨E0,m0,z0,E1,z1,E2,z2,E3,z3,E4,z4,Ao,co,rfl,hq⟩,k1⟩;have HZ:=mA ((Blk.new' (w:=Wd.drew) (g:=Wd.heap.size) (t:=47) (cs:=zR) rfl).same k1);have Hc:=Ha.trans (k1.mono Ha.size);refine Hl _ _ ⟨.inr Hc,?_⟩;refine puT ?_;refine tkFs 16 [9,10,11,12] Hc (shF (shF He 13) 8) ?_;iterate 4
     (refine tkc (v:=?_) rfl (Or.inl ⟨by rfl,?_⟩) ?_;rotate_left;(intro wv Hd;skip;go_simp;with_reducible rfl);(try simp only [Act.put,zp1,zp2,zp3]))
    refine tkz (fun He=>?_);have Hm:=mG x1.heap.size x1;have Hg:=mC Wd.heap.size
   all_goals
    have HP:=mA hq;clear hq;refine alF 14 (fun KC Hs=>?_);rw [if_pos (by rfl)];refine wp_store_mid 47 _ _ rfl _ 0 #[_,_,_,_,_,_,_,_,_,_] rfl rfl (zBu HZ.out) (by kernel_rfl) (by simp [Value.oneCell']) ?_;refine Hs _ _ ⟨.inr (zAr Hg _ 0 _ _ Hc),genF fun W3 Hi=>?_⟩;have HQ:=mA (boxedE Hi HP.out Hk Hc HZ.out Hg Hm);clear Hi;refine puT ?_;refine alF 15 (fun KD Ht=>?_);go_simp;refine Ht _ _ ⟨.inr HQ.out.1,?_⟩;refine puT ?_;refine alF 16 (fun KE Hu=>?_);go_simp;refine Hu _ _ ⟨.inr HQ.out.1,zAe (by kernel_rfl) ?_ _⟩;refine puT ?_;change Exit.then _ _ _ _ W3
   all_goals
    have HI:=mA (HS.out.below HQ.out.1);have a0:=(cz1 HI.out.ab);rw [Hn.out] at a0;have al:=HI.out.ab.lt;try
     have hB:=HB.out w (mG _ _);clear hB;go_upto_region 46 with fail
     clear a0 al;go_wp2_with fail
     have Hb:Below Wd.heap.size Wd W3.drew:=HQ.out.1.drew;refine rgF (Below Wd.heap.size Wd) [] [0,1,2,3,4,5,6,7] Hb ?_;iterate 8
      (refine tkc (v:=?_) rfl (Or.inl ⟨by rfl,?_⟩) ?_;rotate_left;(intro wv Hd;(obtain ⟨d0,-⟩:=cz3 (HS.out.net.box.same Hd);obtain ⟨-,-,a2,-⟩:=cz9 (HS.out.ab.same Hd);rw [HK.out] at a2;obtain ⟨p0,p1,p2,p3,p4,p5,p6,p7,p8,p9⟩:=rg10 (rgb Hd gl Hp.out));go_simp;with_reducible rfl);(try simp only [Act.put,zp1,zp2,zp3]))
     refine tkz (fun He=>?_);refine alF 8 (fun KA Hh=>?_);go_simp;have Hk:=Hb;refine (HA.out _ (HL.out.trans (Hb.mono HL.out.size))).mono ?_;rintro en x1 ⟨⟨E0,m0,z0,E1,z1,E2,z2,E3,z3,E4,z4,Ao,co,rfl,hq⟩,k1⟩;have HZ:=mA (HQ.out.2.1.drew.same k1);have Hc:=Hb.trans (k1.mono Hb.size);refine Hh _ _ ⟨.inr Hc,?_⟩;refine puT ?_;refine tkFs 16 [9,10,11,12] Hc (shF He 8) ?_;iterate 4
      (refine tkc (v:=?_) rfl (Or.inl ⟨by rfl,?_⟩) ?_;rotate_left;(intro wv Hd;skip;go_simp;with_reducible rfl);(try simp only [Act.put,zp1,zp2,zp3]))
     refine tkz (fun He=>?_);have Hm:=mG x1.heap.size x1;have Hg:=HQ.out.2.2.2.2.2;have HP:=mA hq;clear hq;refine alF 13 (fun KC Hs=>?_);rw [if_pos (by rfl)];refine wp_store_mid 47 _ _ rfl _ 0 #[_,_,_,_,_,_,_,_,_,_] rfl rfl (zBu HZ.out) (by kernel_rfl) (by simp [Value.oneCell']) ?_;refine Hs _ _ ⟨.inr (zAr Hg _ 0 _ _ Hc),genF fun W3 Hi=>?_⟩;have HQ:=mA (boxedE Hi HP.out Hk Hc HZ.out Hg Hm);clear Hi;refine puT ?_;refine alF 14 (fun KD Ht=>?_);go_simp;refine Ht _ _ ⟨.inr HQ.out.1,?_⟩;refine puT ?_;refine alF 15 (fun KE Hu=>?_);go_simp;refine Hu _ _ ⟨.inr HQ.out.1,zAe (by kernel_rfl) ?_ _⟩;refine puT ?_;change Exit.then _ _ _ _ W3
  all_goals
   have HI:=mA (HS.out.below HQ.out.1);obtain ⟨b0,b1,b2,b3,b4,b5,b6,b7,b8,b9⟩:=cz10 HQ.out.2.1;have bl:=HQ.out.2.1.lt;obtain ⟨a0,a1,a2,a3,a4,a5,a6,a7,a8⟩:=cz9 HI.out.ab;rw [HK.out] at a2;rw [Hn.out] at a0;have al:=HI.out.ab.lt;by_cases Hv:fr=0
   ·have Hz:=mA (show Scu.settle x r rr ms (-1)=(y,f) by have h:=HE.out;rw [if_neg (by rw [Hv];simp)] at h;exact h);subst Hv;go_wp2_with fail
    refine (zHk _ r rr _ _ _ _ _ Ao co ms (-1) _ base gx x _ _ _ _ _ HI.out.net (mD hb HI.out.fr.size) Hx (by rw [HC.out.rlen.2];exact Kc) HC.out.rlen.1 HQ.out.2.2.1 HQ.out.2.2.2.1 (zFw HS.out.net HQ.out.2.2.2.2.1) HC.out.fly.1 y f Hz.out).mono ?_;rintro en w9 ⟨rfl,Hq,Hr⟩;have HT:=mA (mB Hq (HI.out.fr.trans Hr));clear Hq Hr;go_wp2
    go_ret
    exact ⟨zAb rfl,HT.out.1,HT.out.2⟩
   ·have Ki:(fr != 0)=true:=by simpa using Hv
    have Hz:=mA (show y=x/\f=fr by have h:=HE.out;rw [if_pos Hv] at h;exact pr2 h);clear Hv;go_wp2
    go_ret
    exact ⟨zAb (zAd Hz.out.2.symm),by rw [Hz.out.1];exact HI.out.net.e,HI.out.fr⟩
end Go.Proofs.YtlngfbngnnepiaaGreat
