/- The card of the law 'ViewsBegin': for every input the call returns true; each argument reads as it did. Condition: the three tables of numbers that the library reads hold what the program's text lays in them, which the card ties. -/
import Derived.Test.YtjnjhmkgfjikfaaDoorCards
import Derived.SevenTiedAt
import Derived.ChangeOld
import Derived.Below
import Derived.Test.YtjnjhmkgfjikfaaDoorLv27
set_option linter.unusedVariables false
set_option linter.unusedSimpArgs false
set_option maxHeartbeats 4000000
set_option maxRecDepth 100000
namespace Scu
def wantMsg (f t:Int):Message:=⟨3,f,t,1,0,0,0,[]⟩
def giveMsg (log:List Str):Message:=⟨4,2,1,1,0,0,0,log⟩
def vbA (L:List Str):Replica:=⟨1,⟨0,0,true,L,0⟩,[0,0,0],[false,false,false],[kept0,kept0,kept0],[false,false,false]⟩
def vbB (L:List Str):Replica:=⟨2,⟨0,0,true,L,0⟩,[0,0,0],[false,false,false],[kept0,kept0,kept0],[false,false,false]⟩
def vbB1 (L:List Str):Replica:=⟨2,⟨1,0,false,L,0⟩,[0,0,0],[false,false,true],[kept0,kept0,kept0],[false,false,false]⟩
def vbB2 (L:List Str):Replica:=⟨2,⟨1,0,false,L,0⟩,[0,0,0],[false,true,true],[kept0,kept0,kept0],[false,false,false]⟩
def vbA2 (L:List Str):Replica:=⟨1,⟨1,0,false,L,0⟩,[0,0,0],[false,true,true],[kept0,⟨1,0,false,L,0⟩,kept0],[false,true,false]⟩
def vbC (L:List Str):Replica:=⟨1,⟨1,1,true,L,0⟩,[0,0,0],[false,false,false],[kept0,kept0,kept0],[false,false,false]⟩
section
variable {L:List Str}
theorem zCr (h:AllIn L) (hl:L.length≤60) (v n:Int) (hv:0≤v) (Ha:v≤1048576) (hn:0≤n) (Hb:n≤v) (b:Bool) (hb:b=true→n=v):keptFault ⟨v,n,b,L,0⟩=0 :=
 zDg hv Ha hn Hb hb hl (Int.le_refl _) (by show (0:Int)≤(L.length:Int);omega) h
theorem zHa {me:Int} (hm:me=1 ∨ me=2) {k:Kept} (hk:keptFault k=0) {ws gn:List Bool} {gs:List Kept} (h1:ws.length=3) (h2:gs.length=3) (h3:gn.length=3) (hg:∀ g ∈ gs,keptFault g=0):repFault ⟨me,k,[0,0,0],ws,gs,gn⟩=0 :=
 zBu (by show InR me;unfold InR;omega) rfl h1 h2 h3 (fun x hx=>by
  have:x=0:=by simpa using hx
  subst this
  exact ⟨Int.le_refl _,by show (0:Int)≤(k.log.length:Int);omega⟩) hg hk
theorem zIy:∀ g ∈ [kept0,kept0,kept0],keptFault g=0:=by
 intro g hg
 have:g=kept0:=by simpa using hg
 rw [this]
 exact keptFault0
theorem vb_new {me:Int} (hm:me=1 ∨ me=2) (h:AllIn L) (hl:L.length≤60):repNew me ⟨0,0,true,L,0⟩=(⟨me,⟨0,0,true,L,0⟩,[0,0,0],[false,false,false],[kept0,kept0,kept0],[false,false,false]⟩,0):=by
 unfold repNew
 rw [if_neg (by omega),if_neg (fun hh=>hh (zCr h hl 0 0 (by omega) (by omega) (by omega) (by omega) true (fun _=>rfl)))]
theorem vb_alarm (h:AllIn L) (hl:L.length≤60):alarm (vbB L)=(vbB1 L,[wantMsg 2 0,wantMsg 2 1],0):=by
 have hf:repFault (vbB L)=0:=zHa (.inr rfl) (zCr h hl 0 0 (by omega) (by omega) (by omega) (by omega) true (fun _=>rfl)) rfl rfl rfl zIy
 unfold alarm
 rw [if_neg (fun hh=>hh hf),if_neg (show ¬ (vbB L).kept.view=1048576 from by show ¬ (0:Int)=1048576;omega)]
 rfl
theorem zDk {f t:Int} (hf:f=1 ∨ f=2) (ht:t=1 ∨ t=2) (Ha:f≠t):msgFault (wantMsg f t)=0:=by
 unfold msgFault wantMsg
 simp only
 rw [if_neg (by omega),if_neg (by omega),if_neg (by simp),if_neg (by simp)]
 exact zCr (fun e he=>by cases he) (by simp) 1 0 (by omega) (by omega) (by omega) (by omega) false (fun hc=>by cases hc)
theorem vb_hearA (h:AllIn L) (hl:L.length≤60):hear (vbA L) (wantMsg 2 1)=(vbA2 L,[wantMsg 1 0,wantMsg 1 2],0):=by
 have hf:repFault (vbA L)=0:=zHa (.inl rfl) (zCr h hl 0 0 (by omega) (by omega) (by omega) (by omega) true (fun _=>rfl)) rfl rfl rfl zIy
 unfold hear
 rw [if_neg (fun hh=>hh hf),if_neg (fun hh=>hh (zDk (.inr rfl) (.inl rfl) (by omega))),if_neg (show ¬ (wantMsg 2 1).tq≠(vbA L).me from fun hh=>hh rfl),if_neg (show ¬ (wantMsg 2 1).view < (vbA L).kept.view from by show ¬ (1:Int) < 0;omega)]
 rfl
theorem vb_hearB (h:AllIn L) (hl:L.length≤60):hear (vbB1 L) (wantMsg 1 2)=(vbB2 L,[giveMsg L],0):=by
 have hf:repFault (vbB1 L)=0:=zHa (.inr rfl) (zCr h hl 1 0 (by omega) (by omega) (by omega) (by omega) false (fun hc=>by cases hc)) rfl rfl rfl zIy
 unfold hear
 rw [if_neg (fun hh=>hh hf),if_neg (fun hh=>hh (zDk (.inl rfl) (.inr rfl) (by omega))),if_neg (show ¬ (wantMsg 1 2).tq≠(vbB1 L).me from fun hh=>hh rfl),if_neg (show ¬ (wantMsg 1 2).view < (vbB1 L).kept.view from by show ¬ (1:Int) < 1;omega)]
 rfl
theorem zMg {log:List Str} {k:Nat} (hk:k≤log.length):(bestOf ([kept0,⟨1,0,false,log.take k,0⟩,⟨1,0,false,log,0⟩].zip [false,true,true])).log=log:=by
 unfold bestOf better
 simp only [List.zip_cons_cons,List.zip_nil_left,List.foldl_cons,List.foldl_nil]
 by_cases h:k=log.length
 ·subst h
  simp [kept0]
 have Ha:k < log.length:=by omega
 simp [kept0,Ha,Nat.min_eq_left hk]
theorem vb_hearG {log:List Str} (h:AllIn log) (hl:log.length≤60) {k:Nat} (hk:k≤log.length):∃ ld,hear (vbA2 (log.take k)) (giveMsg log)=(vbC log,ld,0)∧ld.length=2:=by
 have Hb:AllIn (log.take k):=fun e he=>h e (List.mem_of_mem_take he)
 have Hc:(log.take k).length≤60:=by rw [List.length_take];omega
 have Ha:=zCr Hb Hc 1 0 (by omega) (by omega) (by omega) (by omega) false (fun hc=>by cases hc)
 have hf:repFault (vbA2 (log.take k))=0:=zHa (.inl rfl) Ha rfl rfl rfl (fun g hg=>by
  simp only [List.mem_cons,List.not_mem_nil,or_false] at hg
  rcases hg with rfl | rfl | rfl
  ·exact keptFault0
  ·exact Ha
  exact keptFault0)
 have Hd:msgFault (giveMsg log)=0:=by
  unfold msgFault giveMsg
  simp only
  rw [if_neg (by omega),if_neg (by omega),if_neg (by simp),if_neg (by unfold leader;simp)]
  exact zCr h hl 1 0 (by omega) (by omega) (by omega) (by omega) false (fun hc=>by cases hc)
 have hb:=zMg hk
 have e:hearIt (vbA2 (log.take k)) (giveMsg log)=(vbC log,leadOn (vbC log)):=by
  show hearGive (vbA2 (log.take k)) (giveMsg log)=_
  have e1:hearGive (vbA2 (log.take k)) (giveMsg log)=begun (give1 (vbA2 (log.take k)) 2 ⟨1,0,false,log,0⟩):=by
   unfold hearGive take1
   simp only [wantIf,giveMsg,vbA2]
   rfl
  rw [e1]
  have e2:begun (give1 (vbA2 (log.take k)) 2 ⟨1,0,false,log,0⟩) =
   (let b:=bestOf ([kept0,⟨1,0,false,log.take k,0⟩,⟨1,0,false,log,0⟩].zip [false,true,true])
    (fresh { vbA2 (log.take k) with kept:=⟨1,1,true,b.log,min 0 b.log.length⟩ },leadOn (fresh { vbA2 (log.take k) with kept:=⟨1,1,true,b.log,min 0 b.log.length⟩ }))):=by
   unfold begun
   rfl
  rw [e2]
  simp only [hb]
  have e3:min (0:Int) (log.length:Int)=0:=by omega
  rw [e3]
  rfl
 refine ⟨leadOn (vbC log),?_,rfl⟩
 unfold hear
 rw [if_neg (fun hh=>hh hf),if_neg (fun hh=>hh Hd),if_neg (show ¬ (giveMsg log).tq≠(vbA2 (log.take k)).me from fun hh=>hh rfl),if_neg (show ¬ (giveMsg log).view < (vbA2 (log.take k)).kept.view from by show ¬ (1:Int) < 1;omega),e]
end
end Scu
namespace Go.Proofs.YtjnjhmkgfjikfaaDoor
open Go.RowKit
theorem genW {P:World→Prop} {W:World} (h:∀ W',W'=W→P W'):P W:=h W rfl
theorem joined {G R:Prop} (h:G→R) (g:G):R:=h g
def RepBox (w:World) (g:Nat) (r:Scu.Replica):Prop:=∃ lu hv wv gv nv,Blk w g 30 (repV r lu hv wv gv nv).toArray∧IsRep w 0 lu hv wv gv nv r
theorem RepBox.below {w w':World} {g:Nat} {r:Scu.Replica} (h:RepBox w g r) (hb:Below w.heap.size w w'):RepBox w' g r:=by
 obtain ⟨lu,hv,wv,gv,nv,h1,h2⟩:=h
 exact ⟨lu,hv,wv,gv,nv,h1.same hb,h2.below hb⟩
theorem RepBox.get {w:World} {g:Nat} {r:Scu.Replica} (h:RepBox w g r):∃ F0 n0 q0 F1 q1 F2 q2 F3 q3 F4 q4,IsRep w 0 (.slice F0 n0 q0) (.slice F1 r.have_.length q1) (.slice F2 r.wants.length q2) (.slice F3 r.gives.length q3) (.slice F4 r.given.length q4) r∧g < w.heap.size ∧
 w.cell? ⟨g,0,none⟩=some (.int .i64 r.me)∧w.cell? ⟨g,1,none⟩=some (.int .i64 r.kept.view)∧w.cell? ⟨g,2,none⟩=some (.int .i64 r.kept.normal)∧w.cell? ⟨g,3,none⟩=some (.bool r.kept.calm)∧w.cell? ⟨g,4,none⟩=some (.slice F0 n0 q0)∧w.cell? ⟨g,5,none⟩=some (.int .i64 r.kept.commit) ∧
 w.cell? ⟨g,6,none⟩=some (.slice F1 r.have_.length q1)∧w.cell? ⟨g,7,none⟩=some (.slice F2 r.wants.length q2)∧w.cell? ⟨g,8,none⟩=some (.slice F3 r.gives.length q3)∧w.cell? ⟨g,9,none⟩=some (.slice F4 r.given.length q4):=by
 obtain ⟨lu,hv,wv,gv,nv,h1,h2⟩:=h
 obtain ⟨F0,n0,q0,F1,q1,F2,q2,F3,q3,F4,q4,rfl,rfl,rfl,rfl,rfl⟩:=h2.forms
 exact ⟨F0,n0,q0,F1,q1,F2,q2,F3,q3,F4,q4,h2,h1.lt,h1.cell 0,h1.cell 1,h1.cell 2,h1.cell 3,h1.cell 4,h1.cell 5,h1.cell 6,h1.cell 7,h1.cell 8,h1.cell 9⟩
theorem zBt {g:Nat} {q:Addr} (h:q.block≠g):∀ (vs:List Value) (o:Nat) (w:World),(w.setCells g o vs).cell? q=w.cell? q
 | [],_,_=>rfl
 | v :: r,o,w=>(zBt h r (o+1) _).trans (zFu h)
theorem zCf {W:World} {g:Nat} {r0 r:Scu.Replica} {lu hv wv gv nv:Value} (hB:RepBox W g r0) (hr:IsRep W 0 lu hv wv gv nv r):RepBox (W.setCells g 0 (repV r lu hv wv gv nv)) g r∧Same [9,3,4,25,43] 0 W (W.setCells g 0 (repV r lu hv wv gv nv)) ∧
 ∀ g' r',g'≠g→RepBox W g' r'→RepBox (W.setCells g 0 (repV r lu hv wv gv nv)) g' r':=by
 obtain ⟨lu0,Hc,wv0,gv0,nv0,h1,h2⟩:=hB
 have hs:Same [9,3,4,25,43] 0 W (W.setCells g 0 (repV r lu hv wv gv nv)):=Same.sets _ 0 W _ h1 (by decide)
 refine ⟨⟨lu,hv,wv,gv,nv,zGf h1 rfl,hr.same (hs.mono (by simp) (Nat.le_refl _))⟩,hs,fun g' r' Ha h=>?_⟩
 obtain ⟨lu1,Hb,wv1,gv1,nv1,h3,h4⟩:=h
 exact ⟨lu1,Hb,wv1,gv1,nv1,zCd Ha _ 0 W h3,h4.same (hs.mono (by simp) (Nat.le_refl _))⟩
theorem zDf {w:World} {A:Option Addr} {n c:Nat} {ms:List Scu.Message} (h:IsRow 43 8 80 MsgE w 0 (.slice A n c) ms) {k:Nat} (hk:k < ms.length) {m:Scu.Message} (e:ms[k]=m) :
 ∃ g o X nx cx,A=some ⟨g,o,none⟩∧g < w.heap.size∧IsStrs w 0 (.slice X nx cx) m.log∧w.cell? ⟨g,o+k*8,none⟩=some (.int .i64 m.kind)∧w.cell? ⟨g,o+k*8+1,none⟩=some (.int .i64 m.from_)∧w.cell? ⟨g,o+k*8+2,none⟩=some (.int .i64 m.tq)∧w.cell? ⟨g,o+k*8+3,none⟩=some (.int .i64 m.view) ∧
  w.cell? ⟨g,o+k*8+4,none⟩=some (.int .i64 m.normal)∧w.cell? ⟨g,o+k*8+5,none⟩=some (.int .i64 m.commit)∧w.cell? ⟨g,o+k*8+6,none⟩=some (.int .i64 m.n)∧w.cell? ⟨g,o+k*8+7,none⟩=some (.slice X nx cx):=by
 obtain ⟨⟨A',c',css2,e1,_,h2,h3,Hc,h4⟩,_⟩:=h
 cases e1
 obtain ⟨g,o,cs1,rfl,hg,_,Ha,xv,Hd,Hb⟩:=zCo h2 h3 (by decide) Hc h4 hk
 subst Hd
 rw [e] at Ha Hb
 obtain ⟨X,nx,cx,rfl⟩:=Hb.form
 exact ⟨g,o,X,nx,cx,rfl,hg,Hb,Ha 0 _ rfl,Ha 1 _ rfl,Ha 2 _ rfl,Ha 3 _ rfl,Ha 4 _ rfl,Ha 5 _ rfl,Ha 6 _ rfl,Ha 7 _ rfl⟩
theorem zIz {w:World} {B:Nat} {A:Option Addr} {n c:Nat} {xs:List Scu.Str} (h:IsStrs w B (.slice A n c) xs) {k:Nat} (hk:k≤xs.length):IsStrs w B (.slice A k c) (xs.take k):=by
 obtain ⟨⟨A',c',e,hc,hr⟩,h2,h3⟩:=h
 cases e
 have hl:(xs.take k).length=k:=by rw [List.length_take];omega
 refine ⟨⟨A,c,by rw [hl],by omega,?_⟩,by rw [hl];omega,fun s hs=>h3 s (List.mem_of_mem_take hs)⟩
 rw [List.map_take]
 exact hr.take k
theorem zKq {w:World} {g o n c:Nat} {ms:List Scu.Message} (h:IsRow 43 8 80 MsgE w 0 (.slice (some ⟨g,o,none⟩) n c) ms) (hk:0 < ms.length) {q:Nat} {r:Scu.Replica} (hq:RepBox w q r):q≠g:=by
 obtain ⟨⟨A',c',css,e1,_,h2,h3,Ha,h4⟩,_⟩:=h
 cases e1
 obtain ⟨lu,hv,wv,gv,nv,hb,_⟩:=hq
 rintro rfl
 rcases Ha with h0 | ⟨g',o',e,hg,hh,hc⟩
 ·have hl:0 < css.length:=by omega
  have:=zBj h3 (List.getElem?_eq_getElem hl) 0 (by decide)
  rw [h0] at this
  have h8:=h3 _ (List.getElem_mem hl)
  rw [List.getElem?_eq_getElem (by omega:0 < css[0].length)] at this
  simp at this
 cases e
 rcases hh with hh | ⟨C,fz,hh⟩
 ·omega
 unfold Blk at hb
 rw [hh] at hb
 cases hb
theorem RepBox.frozen {w:World} {g:Nat} {r:Scu.Replica} (h:RepBox w g r):∀ i,w.frozen? ⟨g,i,none⟩=false:=by
 obtain ⟨lu,hv,wv,gv,nv,h1,h2⟩:=h
 exact h1.frozen
theorem lawViewsBegin_c (v:Value) (l:List Scu.Raw) (n:Int) (hn:InI n) (w:World) (h:IsRaws w w.heap.size v l) (ht:Tab w) :
 Calls Tryd.prog 4 #[v,.int .i64 n] w fun e w'=>e=.returned (.bool true)∧Below w.heap.size w w':=by
 obtain ⟨Al,cl,rfl,Ns⟩:=h.form'
 have HL:=Lib.hid h
 have HT:=Lib.hid ht
 have HN:=Lib.hid hn
 clear h ht hn
 go_enter Tryd.func4,Tryd.ntmps4
 go_wp2_with fail
 refine (zEu _ l 12 w w.heap.size (Nat.le_refl _) HL.out HT.out (by decide)).mono ?_;rintro e w1 ⟨⟨A,c,css,rfl,ho⟩,b1⟩
 have hq:IsReqs w1 0 (.slice A (Scu.requests l 12).length c) (Scu.requests l 12):=ho.is
 have Kw:=Scu.requests_ok l 12 (by decide)
 have Kc:(Scu.requests l 12).length≤12:=by rw [Scu.requests_length];omega
 obtain ⟨qs,Vz⟩:∃ qs,Scu.requests l 12=qs:=⟨_,rfl⟩
 rw [Vz] at hq Kw Kc ⊢
 have Hp:=Scu.entries_ok Kw
 have Gz:(Scu.entries qs).length≤12:=by rw [Scu.entries_length];exact Kc
 have Ga:=Lib.hid Kw
 have HQ:=Lib.hid hq
 clear Vz ho css hq Kw HL HT
 go_wp2_with fail
 refine (zFv _ qs w1 HQ.out Ga.out (by omega)).mono ?_;rintro e w2 ⟨⟨Ae,ce,rfl,he⟩,b2⟩
 obtain ⟨es,Gb⟩:∃ es,Scu.entries qs=es:=⟨_,rfl⟩
 rw [Gb] at he Hp Gz ⊢
 have Nt:es.length≤ce:=by obtain ⟨⟨A',c',e,h',_⟩,_⟩:=he;cases e;exact h'
 have Ko:=Lib.hid (show Scu.AllIn es from fun e he=>Hp e he)
 have Kx:=Lib.hid (b1.trans (b2.mono b1.size))
 have HE:=Lib.hid he
 clear he Hp b1 b2 Gb HQ Ga Kc
 have hp:=Scu.picked_lt (n:=n) (many:=(es.length:Int)+1) (by omega)
 have KP:=Lib.hid (fun W=>zAy n ((es.length:Int)+1) HN.out (by omega) (by omega) W)
 obtain ⟨k,hk⟩:∃ k:Nat,Scu.picked n ((es.length:Int)+1)=k:=⟨(Scu.picked n ((es.length:Int)+1)).toNat,by omega⟩
 rw [hk] at hp KP
 have Gc:k≤es.length:=by omega
 have Nu:k≤ce:=by omega
 have Nv:IntKind.i64.wrap ((es.length:Int)+1)=(es.length:Int)+1:=IntWalk.i64_in _ (by omega)
 clear hp hk HN
 go_wp2_with fail
 refine (KP.out _).mono ?_;rintro e w' ⟨rfl,rfl⟩
 clear KP
 have Hu:es.length≤60:=by omega
 have Hv:Scu.AllIn (es.take k):=fun e he=>Ko.out e (List.mem_of_mem_take he)
 have Ky:(es.take k).length≤60:=by rw [List.length_take];omega
 obtain ⟨L,hL⟩:∃ L,es.take k=L:=⟨_,rfl⟩
 have Gd:=Lib.hid (show IsStrs w2 0 (.slice Ae k ce) L by rw [← hL];exact zIz HE.out Gc)
 rw [hL] at Hv Ky
 obtain ⟨ld,Vj,Kp⟩:=Scu.vb_hearG Ko.out Hu Gc
 rw [hL] at Vj
 have Vk:=Lib.hid (Scu.vb_new (me:=1) (.inl rfl) Hv Ky)
 have Vl:=Lib.hid (Scu.vb_new (me:=2) (.inr rfl) Ko.out Hu)
 have Vm:=Lib.hid (Scu.vb_alarm Ko.out Hu)
 have Vn:=Lib.hid (Scu.vb_hearA Hv Ky)
 have Vo:=Lib.hid (Scu.vb_hearB Ko.out Hu)
 have Ge:=Lib.hid Vj
 have Na:(ld.length:Int)=2:=by rw [Kp];rfl
 clear Vj Kp Hv Ky hL
 obtain ⟨ra,Vp⟩:∃ r,Scu.vbA L=r:=⟨_,rfl⟩
 obtain ⟨rb,Vq⟩:∃ r,Scu.vbB es=r:=⟨_,rfl⟩
 obtain ⟨rb1,Kd⟩:∃ r,Scu.vbB1 es=r:=⟨_,rfl⟩
 obtain ⟨rb2,Kq⟩:∃ r,Scu.vbB2 es=r:=⟨_,rfl⟩
 obtain ⟨ra2,Hw⟩:∃ r,Scu.vbA2 L=r:=⟨_,rfl⟩
 obtain ⟨rc,Vr⟩:∃ r,Scu.vbC es=r:=⟨_,rfl⟩
 have Vs:=Lib.hid (show ra2.kept.calm=false by rw [← Hw];rfl)
 have Kz:=Lib.hid (show rc.kept.view=1∧rc.kept.log=es∧Scu.leads rc=true by rw [← Vr];exact ⟨rfl,rfl,rfl⟩)
 have Vk:Hid (Scu.repNew 1 ⟨0,0,true,L,0⟩=(ra,0)):=by rw [← Vp];exact Vk
 have Vl:Hid (Scu.repNew 2 ⟨0,0,true,es,0⟩=(rb,0)):=by rw [← Vq];exact Vl
 rw [Vq,Kd] at Vm
 rw [Vp,Hw] at Vn
 rw [Kd,Kq] at Vo
 rw [Hw,Vr] at Ge
 obtain ⟨ws,Va⟩:∃ ws,[Scu.wantMsg 2 0,Scu.wantMsg 2 1]=ws:=⟨_,rfl⟩
 obtain ⟨os,Kr⟩:∃ ws,[Scu.wantMsg 1 0,Scu.wantMsg 1 2]=ws:=⟨_,rfl⟩
 obtain ⟨gs,Vb⟩:∃ ws,[Scu.giveMsg es]=ws:=⟨_,rfl⟩
 rw [Va] at Vm
 rw [Kr] at Vn
 rw [Vb] at Vo
 have Nw:(ws.length:Int)=2:=by rw [← Va];rfl
 have Nx:(os.length:Int)=2:=by rw [← Kr];rfl
 have Ny:(gs.length:Int)=1:=by rw [← Vb];rfl
 have Nb:=Lib.hid (show ∃ h:1 < ws.length,ws[1]=Scu.wantMsg 2 1 by subst Va;exact ⟨by simp,rfl⟩)
 have Nc:=Lib.hid (show ∃ h:1 < os.length,os[1]=Scu.wantMsg 1 2 by subst Kr;exact ⟨by simp,rfl⟩)
 have Nd:=Lib.hid (show ∃ h:0 < gs.length,gs[0]=Scu.giveMsg es by subst Vb;exact ⟨by simp,rfl⟩)
 have Ne:=Lib.hid (show idxI (fun m:Scu.Message=>decide (m.tq=2) && decide (m.kind=3)) os=1 by rw [← Kr];rfl)
 clear Vp Vq Kd Kq Hw Vr Va Kr Vb
 go_wp2_with fail
 refine (zDq Ae k ce 1 ⟨0,0,true,L,0⟩ w2 0 Gd.out ra 0 Vk.out).mono ?_;rintro e w3 ⟨⟨lu,hv,wv,gv,nv,rfl,Hd⟩,h3⟩
 obtain ⟨F0,Fn,Fc0,F1,Fc1,F2,Fc2,F3,Fc3,F4,Fc4,rfl,rfl,rfl,rfl,rfl⟩:=Hd.forms
 go_upto_region 4 with fail
 have Ke:=zAa w3 (Obj.cells (rN ra F0 Fn Fc0 F1 Fc1 F2 Fc2 F3 Fc3 F4 Fc4) 30)
 have Ka:RepBox (w3.alloc (Obj.cells (rN ra F0 Fn Fc0 F1 Fc1 F2 Fc2 F3 Fc3 F4 Fc4) 30)) w3.heap.size ra:=⟨_,_,_,_,_,Blk.new w3 _ _,Hd.below Ke⟩
 have Kb:=h3.trans (Ke.mono h3.size)
 have Hm:=h3.size
 obtain ⟨Wa,Vc⟩:∃ W,W=w3.alloc (Obj.cells (rN ra F0 Fn Fc0 F1 Fc1 F2 Fc2 F3 Fc3 F4 Fc4) 30):=⟨_,rfl⟩
 obtain ⟨ga,Vd⟩:∃ g,w3.heap.size=g:=⟨_,rfl⟩
 rw [← Vc,Vd] at Ka
 rw [← Vc] at Kb
 rw [Vd] at Hm
 rw [← Vc,Vd]
 have Vt:w.heap.size≤ga:=Nat.le_trans Kx.out.size Hm
 have Vu:ga < Wa.heap.size:=by obtain ⟨_,_,_,_,_,hh,_⟩:=Ka;exact hh.lt
 have Ks:=Lib.hid (And.intro Ka Kb)
 clear Vc Vd Ka Kb Ke Hd h3 Hm Gd
 go_wp2_with fail
 refine (zDq Ae es.length ce 2 ⟨0,0,true,es,0⟩ Wa 0 (HE.out.below Ks.out.2) rb 0 Vl.out).mono ?_;rintro e w3 ⟨⟨lu,hv,wv,gv,nv,rfl,Hd⟩,h3⟩
 obtain ⟨G0,Gn,Gc0,G1,Gc1,G2,Gc2,G3,Gc3,G4,Gc4,rfl,rfl,rfl,rfl,rfl⟩:=Hd.forms
 go_upto_region 5 with fail
 have Ke:=zAa w3 (Obj.cells (rN rb G0 Gn Gc0 G1 Gc1 G2 Gc2 G3 Gc3 G4 Gc4) 30)
 have Vv:RepBox (w3.alloc (Obj.cells (rN rb G0 Gn Gc0 G1 Gc1 G2 Gc2 G3 Gc3 G4 Gc4) 30)) w3.heap.size rb:=⟨_,_,_,_,_,Blk.new w3 _ _,Hd.below Ke⟩
 have Vw:=h3.trans (Ke.mono h3.size)
 have Ka:=Ks.out.1.below Vw
 have Kb:=Ks.out.2.trans (Vw.mono Ks.out.2.size)
 have Hm:=h3.size
 obtain ⟨Wb,Ve⟩:∃ W,W=w3.alloc (Obj.cells (rN rb G0 Gn Gc0 G1 Gc1 G2 Gc2 G3 Gc3 G4 Gc4) 30):=⟨_,rfl⟩
 obtain ⟨gb,Vf⟩:∃ g,w3.heap.size=g:=⟨_,rfl⟩
 rw [← Ve,Vf] at Vv
 rw [← Ve] at Ka Kb
 rw [Vf] at Hm
 rw [← Ve,Vf]
 have Gf:ga≠gb:=by omega
 have Vx:w.heap.size≤gb:=by omega
 have Kn:=Lib.hid (And.intro Ka (And.intro Vv (Kx.out.trans (Kb.mono Kx.out.size))))
 have Gg:=Lib.hid (HE.out.below Kb)
 clear Ve Vf Ka Vv Kb Ke Hd h3 Vw Hm Ks Vu HE Kx
 obtain ⟨P0,Pn,Pc0,P1,Pc1,P2,Pc2,P3,Pc3,P4,Pc4,Gi,Nz,p0,p1,p2,p3,p4,p5,p6,p7,p8,p9⟩:=(Kn.out.2.1).get
 have Gj:=Lib.hid Gi
 clear Gi
 go_wp2_with fail
 refine (zMd _ _ _ _ _ rb Wb 0 Gj.out rb1 ws 0 Vm.out).mono ?_;rintro e w4 ⟨⟨E0,En,Ec0,E1,Ec1,E2,Ec2,E3,Ec3,E4,Ec4,Ao,co,rfl,Hd,Hi,-⟩,h4⟩
 have Hx:=Kn.out.2.1.below h4
 have Nf:=Hx.frozen
 have Kt:=Lib.hid Hx
 obtain ⟨Q0,Qn,Qc0,Q1,Qc1,Q2,Qc2,Q3,Qc3,Q4,Qc4,Ng,Ra,q0,q1,q2,q3,q4,q5,q6,q7,q8,q9⟩:=(Hx).get
 clear Ng Hx p0 p1 p2 p3 p4 p5 p6 p7 p8 p9
 go_upto_region 6 with fail
 refine genW (P:=fun W=>Code.wp _ _ _ _ W) (fun W5 Gk=>?_)
 have Kf:W5=w4.setCells gb 0 (rL rb1 E0 En Ec0 E1 Ec1 E2 Ec2 E3 Ec3 E4 Ec4):=Gk
 have q1:RepBox W5 gb rb1∧Same [9,3,4,25,43] 0 w4 W5∧∀ g' r',g'≠gb→RepBox w4 g' r'→RepBox W5 g' r':=by rw [Kf];exact zCf Kt.out Hd
 have q5:Below w.heap.size w W5:=by rw [Kf];exact zAl Vx _ 0 _ _ (Kn.out.2.2.trans (h4.mono Kn.out.2.2.size))
 have He:=Lib.hid (And.intro (q1.2.2 _ _ Gf (Kn.out.1.below h4)) (And.intro q1.1 (And.intro q5 (And.intro (IsMs.keep Hi (q1.2.1.mono (by simp) (Nat.le_refl _))) ((Gg.out.below h4).same (by simp) q1.2.1)))))
 clear Gk Kf q1 q5 Hi Hd h4 Kn Gg Gj Kt Nf q0 q2 q3 q4 q6 q7 q8 q9
 obtain ⟨Gl,Gm⟩:=Nb.out
 obtain ⟨gm,om,X,nx,cx,rfl,Go,Gp,ma0,ma1,ma2,ma3,ma4,ma5,ma6,ma7⟩:=zDf He.out.2.2.2.1 Gl Gm
 have mb0:W5.cell? ⟨gm,om+8,none⟩=_:=ma0
 have mb1:W5.cell? ⟨gm,om+9,none⟩=_:=ma1
 have mb2:W5.cell? ⟨gm,om+10,none⟩=_:=ma2
 have mb3:W5.cell? ⟨gm,om+11,none⟩=_:=ma3
 have mb4:W5.cell? ⟨gm,om+12,none⟩=_:=ma4
 have mb5:W5.cell? ⟨gm,om+13,none⟩=_:=ma5
 have mb6:W5.cell? ⟨gm,om+14,none⟩=_:=ma6
 have mb7:W5.cell? ⟨gm,om+15,none⟩=_:=ma7
 have Kg:=Gp
 dsimp only [Scu.wantMsg] at mb0 mb1 mb2 mb3 mb4 mb5 mb6 mb7 Kg
 have Ku:=zKq He.out.2.2.2.1 (by omega) He.out.1
 clear Gm ma0 ma1 ma2 ma3 ma4 ma5 ma6 ma7 Gp
 obtain ⟨X0,Xn,Xc0,X1,Xc1,X2,Xc2,X3,Xc3,X4,Xc4,Vg,Nh,xa0,xa1,xa2,xa3,xa4,xa5,xa6,xa7,xa8,xa9⟩:=(He.out.1).get
 have HC:=Lib.hid (fun (W:World) (hb:Below W5.heap.size W5 W)=>zFw _ _ _ _ _ _ ra (Scu.wantMsg 2 1) W 0 (Vg.below hb) (Kg.below hb) ra2 os 0 Vn.out)
 dsimp only [Scu.wantMsg] at HC
 have Ni:(1:Int) < (ws.length:Int):=by omega
 clear Vg Kg Gl
 go_wp2_with fail
 obtain ⟨S,Hc⟩:∃ S:World→Prop,S=fun w'=>∀ q:Addr,q.block=gm→w'.cell? q=W5.cell? q:=⟨_,rfl⟩
 have Hb:S W5.drew:=by rw [Hc];exact fun q _=>rfl
 refine wp_region_held (S:=S) (by kernel_rfl) ?_
 change wpAnyH _ _ _ _ _ _ _ _ W5.drew
 refine tkHs [1,2] (by kernel_rfl) (fun _ _ _ _ _ h=>h) Hb ?_
 iterate 2
  refine tkc (v:=?_) rfl (Or.inl ⟨by rfl,?_⟩) ?_
  rotate_left
  ·(intro wv Ha;rw [Hc] at Ha;go_simp;(try with_reducible rfl))
  (try simp only [Act.put,zp1,zp2,zp3])
 refine tkz ?_
 have Nj:=fun (wv:World) (Ha:∀ q:Addr,q.block=gm→wv.cell? q=W5.cell? q)=>And.intro ((Ha ⟨gm,om+8,none⟩ rfl).trans mb0) (And.intro ((Ha ⟨gm,om+9,none⟩ rfl).trans mb1) (And.intro ((Ha ⟨gm,om+10,none⟩ rfl).trans mb2) (And.intro ((Ha ⟨gm,om+11,none⟩ rfl).trans mb3) (And.intro ((Ha ⟨gm,om+12,none⟩ rfl).trans mb4) (And.intro ((Ha ⟨gm,om+13,none⟩ rfl).trans mb5) (And.intro ((Ha ⟨gm,om+14,none⟩ rfl).trans mb6) ((Ha ⟨gm,om+15,none⟩ rfl).trans mb7)))))))
 refine tkH 3 (v:=?_) rfl (by kernel_rfl) (fun _ _ _ h=>h) (Or.inl ⟨by rfl,?_⟩) Hb ?_
 rotate_left
 ·(intro wv Ha;rw [Hc] at Ha;obtain ⟨t0,t1,t2,t3,t4,t5,t6,t7⟩:=Nj wv Ha;go_simp;(try with_reducible rfl))
 (try simp only [Act.put,zp1,zp2,zp3])
 refine alH 0 (by kernel_rfl) (wpOp_step (o:=_) rfl fun K0 Gq=>?_)
 go_simp
 refine Gq _ _ ⟨Hb,?_⟩
 (try simp only [Act.put,zp1,zp2,zp3])
 refine alH 4 (by kernel_rfl) (wpOp_step (o:=_) rfl fun KS Hn=>?_)
 go_simp
 have dd:Below W5.heap.size W5 W5.drew:=(Below.refl _ _).drew
 refine (HC.out _ dd).mono ?_;rintro en x9 ⟨⟨E0,m0,z0,E1,z1,E2,z2,E3,z3,E4,z4,Ax,cx9,rfl,Hd,Hi,Hy⟩,k1⟩
 have nn1:=dd.trans (k1.mono dd.size)
 have Kh:=He.out.1.below nn1
 have Hb:S x9:=by rw [Hc];exact fun q hq=>nn1.cell (p:=q) (by rw [hq];exact Go)
 refine Hn _ _ ⟨Hb,?_⟩
 clear Hn Gq k1 Hy dd
 (try simp only [Act.put,zp1,zp2,zp3])
 refine tkHs [5,6,7,8] (by kernel_rfl) (fun _ _ _ _ _ h=>h) Hb ?_
 iterate 4
  refine tkc (v:=?_) rfl (Or.inl ⟨by rfl,?_⟩) ?_
  rotate_left
  ·(intro wv Ha;rw [Hc] at Ha;go_simp;(try with_reducible rfl))
  (try simp only [Act.put,zp1,zp2,zp3])
 refine tkz ?_
 refine alH 9 (by kernel_rfl) (wpOp_step (o:=_) rfl fun KB Ho=>?_)
 rw [if_pos (by rfl)]
 refine wp_store_mid 30 (.tmp 7) (.tmp 78) rfl ga 0 (rN ra2 E0 m0 z0 E1 z1 E2 z2 E3 z3 E4 z4) rfl rfl (by obtain ⟨_,_,_,_,_,q1,_⟩:=Kh;exact zAs q1) (by kernel_rfl) (all_oneCell_toArray (zBk Hd)) ?_
 have Hf:S (x9.setCells ga 0 (rL ra2 E0 m0 z0 E1 z1 E2 z2 E3 z3 E4 z4)):=by rw [Hc] at Hb ⊢;exact fun q hq=>(zBt (by rw [hq];exact Ku.symm) _ 0 _).trans (Hb q hq)
 refine Ho _ _ ⟨Hf,?_⟩
 have Hb:=Hf
 (try simp only [Act.put,zp1,zp2,zp3])
 obtain ⟨W6,Vh⟩:∃ W,W=x9.setCells ga 0 (rL ra2 E0 m0 z0 E1 z1 E2 z2 E3 z3 E4 z4):=⟨_,rfl⟩
 have q1:RepBox W6 ga ra2∧Same [9,3,4,25,43] 0 x9 W6∧∀ g' r',g'≠ga→RepBox x9 g' r'→RepBox W6 g' r':=by rw [Vh];exact zCf Kh Hd
 have q5:Below w.heap.size w W6:=by rw [Vh];exact zAl Vt _ 0 _ _ (He.out.2.2.1.trans (nn1.mono He.out.2.2.1.size))
 change wpAnyH _ _ _ _ _ _ _ _ (x9.setCells ga 0 (rL ra2 E0 m0 z0 E1 z1 E2 z2 E3 z3 E4 z4))
 rw [← Vh] at Hb ⊢
 have Hg:=Lib.hid (And.intro q1.1 (And.intro (q1.2.2 _ _ Gf.symm (He.out.2.1.below nn1)) (And.intro q5 (And.intro (IsMs.keep Hi (q1.2.1.mono (by simp) (Nat.le_refl _))) ((He.out.2.2.2.2.below nn1).same (by simp) q1.2.1)))))
 clear Vh Hf q1 q5 Kh nn1 Hi Hd Ho
 refine tkHs [10,11] (by kernel_rfl) (fun _ _ _ _ _ h=>h) Hb ?_
 iterate 2
  refine tkc (v:=?_) rfl (Or.inl ⟨by rfl,?_⟩) ?_
  rotate_left
  ·(intro wv Ha;rw [Hc] at Ha;go_simp;(try with_reducible rfl))
  (try simp only [Act.put,zp1,zp2,zp3])
 refine tkz ?_
 refine wpAnyH_done (by kernel_rfl) ?_ _
 (try simp only [Act.put,zp1,zp2,zp3])
 clear Hb Hc HC He mb0 mb1 mb2 mb3 mb4 mb5 mb6 mb7 Ku Go xa0 xa1 xa2 xa3 xa4 xa5 xa6 xa7 xa8 xa9
 obtain ⟨X0,Xn,Xc0,X1,Xc1,X2,Xc2,X3,Xc3,X4,Xc4,Vg,Nh,xb0,xb1,xb2,xb3,xb4,xb5,xb6,xb7,xb8,xb9⟩:=(Hg.out.1).get
 rw [Vs.out] at xb3
 clear Vg
 go_wp2_with fail
 refine (zIx _ os W6 Hg.out.2.2.2.1).mono ?_;rintro e w7 ⟨rfl,h7⟩
 rw [Ne.out]
 have Hl:=Lib.hid (And.intro (Hg.out.1.below h7) (And.intro (Hg.out.2.1.below h7) (And.intro (Hg.out.2.2.1.trans (h7.mono Hg.out.2.2.1.size)) (And.intro (IsMs.below Hg.out.2.2.2.1 h7) (Hg.out.2.2.2.2.below h7)))))
 clear h7 Hg xb0 xb1 xb2 xb3 xb4 xb5 xb6 xb7 xb8 xb9
 go_upto_region 14 with fail
 obtain ⟨Gr,Gs⟩:=Nc.out
 obtain ⟨gm2,om2,X2,nx2,cx2,rfl,Hj,Ki,ma0,ma1,ma2,ma3,ma4,ma5,ma6,ma7⟩:=zDf Hl.out.2.2.2.1 Gr Gs
 have mb0:w7.cell? ⟨gm2,om2+8,none⟩=_:=ma0
 have mb1:w7.cell? ⟨gm2,om2+9,none⟩=_:=ma1
 have mb2:w7.cell? ⟨gm2,om2+10,none⟩=_:=ma2
 have mb3:w7.cell? ⟨gm2,om2+11,none⟩=_:=ma3
 have mb4:w7.cell? ⟨gm2,om2+12,none⟩=_:=ma4
 have mb5:w7.cell? ⟨gm2,om2+13,none⟩=_:=ma5
 have mb6:w7.cell? ⟨gm2,om2+14,none⟩=_:=ma6
 have mb7:w7.cell? ⟨gm2,om2+15,none⟩=_:=ma7
 dsimp only [Scu.wantMsg] at mb0 mb1 mb2 mb3 mb4 mb5 mb6 mb7 Ki
 clear Gs ma0 ma1 ma2 ma3 ma4 ma5 ma6 ma7 Gr
 obtain ⟨Y0,Yn,Yc0,Y1,Yc1,Y2,Yc2,Y3,Yc3,Y4,Yc4,Gt,Hs,xc0,xc1,xc2,xc3,xc4,xc5,xc6,xc7,xc8,xc9⟩:=(Hl.out.2.1).get
 have HC:=Lib.hid (fun (W:World) (hb:Below w7.heap.size w7 W)=>zFw _ _ _ _ _ _ rb1 (Scu.wantMsg 1 2) W 0 (Gt.below hb) (Ki.below hb) rb2 gs 0 Vo.out)
 dsimp only [Scu.wantMsg] at HC
 have Nk:(1:Int) < (os.length:Int):=by omega
 clear Gt Ki
 go_wp2_with fail
 refine joined (G:=?G) (fun key=>?first) ?rest
 case first =>
  obtain ⟨S,Hc⟩:∃ S:World→Prop,S=fun w'=>Below w7.heap.size w7 w':=⟨_,rfl⟩
  have Hb:S w7.drew:=by rw [Hc];exact (Below.refl _ _).drew
  refine wp_region_held (S:=S) (by kernel_rfl) ?_
  change wpAnyH _ _ _ _ _ _ _ _ w7.drew
  have Nl:=fun (wv:World) (Ha:Below w7.heap.size w7 wv)=>And.intro (cW Ha Hs xc0) (And.intro (cW Ha Hs xc1) (And.intro (cW Ha Hs xc2) (And.intro (cW Ha Hs xc3) (And.intro (cW Ha Hs xc4) (And.intro (cW Ha Hs xc5) (And.intro (cW Ha Hs xc6) (And.intro (cW Ha Hs xc7) (And.intro (cW Ha Hs xc8) (cW Ha Hs xc9)))))))))
  refine tkH 0 (v:=?_) rfl (by kernel_rfl) (fun _ _ _ h=>h) (Or.inl ⟨by rfl,?_⟩) Hb ?_
  rotate_left
  ·(intro wv Ha;rw [Hc] at Ha;obtain ⟨s0,s1,s2,s3,s4,s5,s6,s7,s8,s9⟩:=Nl wv Ha;go_simp;(try with_reducible rfl))
  (try simp only [Act.put,zp1,zp2,zp3])
  refine tkHs [1,2,3] (by kernel_rfl) (fun _ _ _ _ _ h=>h) Hb ?_
  iterate 3
   refine tkc (v:=?_) rfl (Or.inl ⟨by rfl,?_⟩) ?_
   rotate_left
   ·(intro wv Ha;rw [Hc] at Ha;go_simp;(try with_reducible rfl))
   (try simp only [Act.put,zp1,zp2,zp3])
  refine tkz ?_
  have Nm:=fun (wv:World) (Ha:Below w7.heap.size w7 wv)=>And.intro (cW Ha Hj mb0) (And.intro (cW Ha Hj mb1) (And.intro (cW Ha Hj mb2) (And.intro (cW Ha Hj mb3) (And.intro (cW Ha Hj mb4) (And.intro (cW Ha Hj mb5) (And.intro (cW Ha Hj mb6) (cW Ha Hj mb7)))))))
  refine tkH 4 (v:=?_) rfl (by kernel_rfl) (fun _ _ _ h=>h) (Or.inl ⟨by rfl,?_⟩) Hb ?_
  rotate_left
  ·(intro wv Ha;rw [Hc] at Ha;obtain ⟨t0,t1,t2,t3,t4,t5,t6,t7⟩:=Nm wv Ha;go_simp;(try with_reducible rfl))
  (try simp only [Act.put,zp1,zp2,zp3])
  refine wpAnyH_all (rs:=[5,10]) (by kernel_rfl) (by simp) ?_
  intro ii Kv
  simp only [List.mem_cons,List.not_mem_nil,or_false] at Kv
  rcases Kv with rfl | rfl
  ·refine wpOp_step (o:=_) rfl (fun KS Hn=>?_)
   go_simp
   have dd:Below w7.heap.size w7 w7.drew:=(Below.refl _ _).drew
   refine (HC.out _ dd).mono ?_;rintro en x1 ⟨⟨E0,m0,z0,E1,z1,E2,z2,E3,z3,E4,z4,Ao,co,rfl,Hd,Hi,Hy⟩,k1⟩
   have nn1:=dd.trans (k1.mono dd.size)
   have M1:=Lib.hid nn1
   have Hh:=Lib.hid (And.intro Hd Hi)
   have Hb:S x1:=by rw [Hc];exact nn1
   refine Hn _ _ ⟨Hb,?_⟩
   clear Hn nn1 k1 Hd Hi Hy dd
   (try simp only [Act.put,zp1,zp2,zp3])
   refine tkHs [6,7,8,9] (by kernel_rfl) (fun _ _ _ _ _ h=>h) Hb ?_
   iterate 4
    refine tkc (v:=?_) rfl (Or.inl ⟨by rfl,?_⟩) ?_
    rotate_left
    ·(intro wv Ha;rw [Hc] at Ha;go_simp;(try with_reducible rfl))
    (try simp only [Act.put,zp1,zp2,zp3])
   refine tkz ?_
   refine alH 10 (by kernel_rfl) (wpOp_step (o:=_) rfl fun KA Hq=>?_)
   go_simp
   have Hb:S (x1.alloc (Obj.cells zR 30)):=by rw [Hc];exact M1.out.alloc M1.out.size _
   refine Hq _ _ ⟨Hb,?_⟩
   (try simp only [Act.put,zp1,zp2,zp3])
   refine alH 11 (by kernel_rfl) (wpOp_step (o:=_) rfl fun KB Ho=>?_)
   rw [if_pos (by rfl)]
   refine wp_store_mid 30 (.tmp 16) (.tmp 99) rfl x1.heap.size 0 (rN rb2 E0 m0 z0 E1 z1 E2 z2 E3 z3 E4 z4) rfl rfl (zAs (Blk.new x1 30 zR)) (by kernel_rfl) (all_oneCell_toArray (zBk Hh.out.1)) ?_
   have Hf:S ((x1.alloc (Obj.cells zR 30)).setCells x1.heap.size 0 (rL rb2 E0 m0 z0 E1 z1 E2 z2 E3 z3 E4 z4)):=by rw [Hc] at Hb ⊢;exact zAl M1.out.size _ 0 _ _ Hb
   refine Ho _ _ ⟨Hf,?_⟩
   have Hb:=Hf
   (try simp only [Act.put,zp1,zp2,zp3])
   change wpAnyH _ _ _ _ _ _ _ _ ((x1.alloc (Obj.cells zR 30)).setCells x1.heap.size 0 (rL rb2 E0 m0 z0 E1 z1 E2 z2 E3 z3 E4 z4))
   refine tkHs [12,13] (by kernel_rfl) (fun _ _ _ _ _ h=>h) Hb ?_
   iterate 2
    refine tkc (v:=?_) rfl (Or.inl ⟨by rfl,?_⟩) ?_
    rotate_left
    ·(intro wv Ha;rw [Hc] at Ha;go_simp;(try with_reducible rfl))
    (try simp only [Act.put,zp1,zp2,zp3])
   refine tkz ?_
   refine wpAnyH_done (by kernel_rfl) ?_ _
   (try simp only [Act.put,zp1,zp2,zp3])
   obtain ⟨gq,Kj⟩:∃ g,x1.heap.size=g:=⟨_,rfl⟩
   obtain ⟨W3,Kk⟩:∃ W,W=(x1.alloc (Obj.cells zR 30)).setCells x1.heap.size 0 (rL rb2 E0 m0 z0 E1 z1 E2 z2 E3 z3 E4 z4):=⟨_,rfl⟩
   have HQ:Hid (Below w7.heap.size w7 W3∧Blk W3 gq 30 (rN rb2 E0 m0 z0 E1 z1 E2 z2 E3 z3 E4 z4)∧IsRep W3 0 (.slice E0 m0 z0) (.slice E1 rb2.have_.length z1) (.slice E2 rb2.wants.length z2) (.slice E3 rb2.gives.length z3) (.slice E4 rb2.given.length z4) rb2∧IsRow 43 8 80 MsgE W3 0 (.slice Ao gs.length co) gs∧w7.heap.size≤gq):=by rw [Kk,← Kj];have q0:=zBe Hh.out.1 Hh.out.2 (M1.out.alloc M1.out.size _) (Blk.new x1 30 zR) M1.out.size (zAa x1 _);exact Lib.hid ⟨q0.1,q0.2.1,q0.2.2.1,q0.2.2.2,M1.out.size⟩
   change Exit.then _ _ _ _ ((x1.alloc (Obj.cells zR 30)).setCells x1.heap.size 0 (rL rb2 E0 m0 z0 E1 z1 E2 z2 E3 z3 E4 z4))
   rw [← Kk]
   rw [Kj]
   clear Kk Kj Hb Hf Hc Hq Ho Hh M1
   revert HQ
   revert W3 gq
   revert E0 m0 z0 E1 z1 E2 z2 E3 z3 E4 z4 Ao co
   exact key
  refine wpOp_step (o:=_) rfl (fun KA Hq=>?_)
  go_simp
  have dd:Below w7.heap.size w7 (w7.drew.alloc (Obj.cells zR 30)):=(Below.refl _ _).drew.alloc (Nat.le_refl _) _
  have Hb:S (w7.drew.alloc (Obj.cells zR 30)):=by rw [Hc];exact dd
  refine Hq _ _ ⟨Hb,?_⟩
  (try simp only [Act.put,zp1,zp2,zp3])
  refine alH 5 (by kernel_rfl) (wpOp_step (o:=_) rfl fun KS Hn=>?_)
  go_simp
  refine (HC.out _ dd).mono ?_;rintro en x1 ⟨⟨E0,m0,z0,E1,z1,E2,z2,E3,z3,E4,z4,Ao,co,rfl,Hd,Hi,Hy⟩,k1⟩
  have nn1:=dd.trans (k1.mono dd.size)
  have M1:=Lib.hid nn1
  have Hh:=Lib.hid (And.intro Hd Hi)
  have HZ:=Lib.hid ((Blk.new' (w:=w7.drew) (g:=w7.heap.size) (t:=30) (cs:=zR) rfl).same k1)
  have Hb:S x1:=by rw [Hc];exact nn1
  refine Hn _ _ ⟨Hb,?_⟩
  clear Hn nn1 k1 Hd Hi Hy dd
  (try simp only [Act.put,zp1,zp2,zp3])
  refine tkHs [6,7,8,9] (by kernel_rfl) (fun _ _ _ _ _ h=>h) Hb ?_
  iterate 4
   refine tkc (v:=?_) rfl (Or.inl ⟨by rfl,?_⟩) ?_
   rotate_left
   ·(intro wv Ha;rw [Hc] at Ha;go_simp;(try with_reducible rfl))
   (try simp only [Act.put,zp1,zp2,zp3])
  refine tkz ?_
  refine alH 11 (by kernel_rfl) (wpOp_step (o:=_) rfl fun KB Ho=>?_)
  rw [if_pos (by rfl)]
  refine wp_store_mid 30 (.tmp 16) (.tmp 99) rfl w7.heap.size 0 (rN rb2 E0 m0 z0 E1 z1 E2 z2 E3 z3 E4 z4) rfl rfl (zAs HZ.out) (by kernel_rfl) (all_oneCell_toArray (zBk Hh.out.1)) ?_
  have Hf:S (x1.setCells w7.heap.size 0 (rL rb2 E0 m0 z0 E1 z1 E2 z2 E3 z3 E4 z4)):=by rw [Hc] at Hb ⊢;exact zAl (Nat.le_refl _) _ 0 _ _ Hb
  refine Ho _ _ ⟨Hf,?_⟩
  have Hb:=Hf
  (try simp only [Act.put,zp1,zp2,zp3])
  change wpAnyH _ _ _ _ _ _ _ _ (x1.setCells w7.heap.size 0 (rL rb2 E0 m0 z0 E1 z1 E2 z2 E3 z3 E4 z4))
  refine tkHs [12,13] (by kernel_rfl) (fun _ _ _ _ _ h=>h) Hb ?_
  iterate 2
   refine tkc (v:=?_) rfl (Or.inl ⟨by rfl,?_⟩) ?_
   rotate_left
   ·(intro wv Ha;rw [Hc] at Ha;go_simp;(try with_reducible rfl))
   (try simp only [Act.put,zp1,zp2,zp3])
  refine tkz ?_
  refine wpAnyH_done (by kernel_rfl) ?_ _
  (try simp only [Act.put,zp1,zp2,zp3])
  obtain ⟨gq,Kj⟩:∃ g,w7.heap.size=g:=⟨_,rfl⟩
  obtain ⟨W3,Kk⟩:∃ W,W=x1.setCells w7.heap.size 0 (rL rb2 E0 m0 z0 E1 z1 E2 z2 E3 z3 E4 z4):=⟨_,rfl⟩
  have HQ:Hid (Below w7.heap.size w7 W3∧Blk W3 gq 30 (rN rb2 E0 m0 z0 E1 z1 E2 z2 E3 z3 E4 z4)∧IsRep W3 0 (.slice E0 m0 z0) (.slice E1 rb2.have_.length z1) (.slice E2 rb2.wants.length z2) (.slice E3 rb2.gives.length z3) (.slice E4 rb2.given.length z4) rb2∧IsRow 43 8 80 MsgE W3 0 (.slice Ao gs.length co) gs∧w7.heap.size≤gq):=by rw [Kk,← Kj];have q0:=zBe Hh.out.1 Hh.out.2 M1.out HZ.out (Nat.le_refl _) (Below.refl _ _);exact Lib.hid ⟨q0.1,q0.2.1,q0.2.2.1,q0.2.2.2,(Nat.le_refl _)⟩
  change Exit.then _ _ _ _ (x1.setCells w7.heap.size 0 (rL rb2 E0 m0 z0 E1 z1 E2 z2 E3 z3 E4 z4))
  rw [← Kk]
  rw [Kj]
  clear Kk Kj Hb Hf Hc Hq Ho Hh M1 HZ
  revert HQ
  revert W3 gq
  revert E0 m0 z0 E1 z1 E2 z2 E3 z3 E4 z4 Ao co
  exact key
 case rest =>
 intro E0 m0 z0 E1 z1 E2 z2 E3 z3 E4 z4 Ao co gq W3 HQ
 have Hr:=Lib.hid (And.intro (Hl.out.1.below HQ.out.1) (And.intro (Hl.out.2.2.1.trans (HQ.out.1.mono Hl.out.2.2.1.size)) (Hl.out.2.2.2.2.below HQ.out.1)))
 obtain ⟨Gu,Gv⟩:=Nd.out
 obtain ⟨gm3,om3,X3,nx3,cx3,rfl,Hk,Kl,mc0,mc1,mc2,mc3,mc4,mc5,mc6,mc7⟩:=zDf HQ.out.2.2.2.1 Gu Gv
 simp only [Nat.zero_mul,Nat.add_zero] at mc0 mc1 mc2 mc3 mc4 mc5 mc6 mc7
 dsimp only [Scu.giveMsg] at mc0 mc1 mc2 mc3 mc4 mc5 mc6 mc7 Kl
 clear Gv Gu HC mb0 mb1 mb2 mb3 mb4 mb5 mb6 mb7 Hl xc0 xc1 xc2 xc3 xc4 xc5 xc6 xc7 xc8 xc9
 obtain ⟨U0,Un,Uc0,U1,Uc1,U2,Uc2,U3,Uc3,U4,Uc4,Gw,Ht,xd0,xd1,xd2,xd3,xd4,xd5,xd6,xd7,xd8,xd9⟩:=(Hr.out.1).get
 have HC:=Lib.hid (fun (W:World) (hb:Below W3.heap.size W3 W)=>zFw _ _ _ _ _ _ ra2 (Scu.giveMsg es) W 0 (Gw.below hb) (Kl.below hb) rc ld 0 Ge.out)
 dsimp only [Scu.giveMsg] at HC
 have Nn:(0:Int) < (gs.length:Int):=by omega
 clear Gw Kl
 go_wp2_with fail
 refine joined (G:=?G2) (fun key=>?first2) ?rest2
 case first2 =>
  obtain ⟨S,Hc⟩:∃ S:World→Prop,S=fun w'=>Below W3.heap.size W3 w':=⟨_,rfl⟩
  have Hb:S W3.drew:=by rw [Hc];exact (Below.refl _ _).drew
  refine wp_region_held (S:=S) (by kernel_rfl) ?_
  change wpAnyH _ _ _ _ _ _ _ _ W3.drew
  have No:=fun (wv:World) (Ha:Below W3.heap.size W3 wv)=>And.intro (cW Ha Ht xd0) (And.intro (cW Ha Ht xd1) (And.intro (cW Ha Ht xd2) (And.intro (cW Ha Ht xd3) (And.intro (cW Ha Ht xd4) (And.intro (cW Ha Ht xd5) (And.intro (cW Ha Ht xd6) (And.intro (cW Ha Ht xd7) (And.intro (cW Ha Ht xd8) (cW Ha Ht xd9)))))))))
  refine tkH 0 (v:=?_) rfl (by kernel_rfl) (fun _ _ _ h=>h) (Or.inl ⟨by rfl,?_⟩) Hb ?_
  rotate_left
  ·(intro wv Ha;rw [Hc] at Ha;obtain ⟨s0,s1,s2,s3,s4,s5,s6,s7,s8,s9⟩:=No wv Ha;go_simp;(try with_reducible rfl))
  (try simp only [Act.put,zp1,zp2,zp3])
  refine tkHs [1,2] (by kernel_rfl) (fun _ _ _ _ _ h=>h) Hb ?_
  iterate 2
   refine tkc (v:=?_) rfl (Or.inl ⟨by rfl,?_⟩) ?_
   rotate_left
   ·(intro wv Ha;rw [Hc] at Ha;go_simp;(try with_reducible rfl))
   (try simp only [Act.put,zp1,zp2,zp3])
  refine tkz ?_
  have Np:=fun (wv:World) (Ha:Below W3.heap.size W3 wv)=>And.intro (cW Ha Hk mc0) (And.intro (cW Ha Hk mc1) (And.intro (cW Ha Hk mc2) (And.intro (cW Ha Hk mc3) (And.intro (cW Ha Hk mc4) (And.intro (cW Ha Hk mc5) (And.intro (cW Ha Hk mc6) (cW Ha Hk mc7)))))))
  refine tkH 3 (v:=?_) rfl (by kernel_rfl) (fun _ _ _ h=>h) (Or.inl ⟨by rfl,?_⟩) Hb ?_
  rotate_left
  ·(intro wv Ha;rw [Hc] at Ha;obtain ⟨t0,t1,t2,t3,t4,t5,t6,t7⟩:=Np wv Ha;go_simp;(try with_reducible rfl))
  (try simp only [Act.put,zp1,zp2,zp3])
  refine wpAnyH_all (rs:=[4,9]) (by kernel_rfl) (by simp) ?_
  intro ii Kv
  simp only [List.mem_cons,List.not_mem_nil,or_false] at Kv
  rcases Kv with rfl | rfl
  ·refine wpOp_step (o:=_) rfl (fun KS Hn=>?_)
   go_simp
   have dd:Below W3.heap.size W3 W3.drew:=(Below.refl _ _).drew
   refine (HC.out _ dd).mono ?_;rintro en x1 ⟨⟨E0,m0,z0,E1,z1,E2,z2,E3,z3,E4,z4,Ao,co,rfl,Hd,Hi,Hy⟩,k1⟩
   have nn1:=dd.trans (k1.mono dd.size)
   have M1:=Lib.hid nn1
   have Hh:=Lib.hid (And.intro Hd Hi)
   have Hb:S x1:=by rw [Hc];exact nn1
   refine Hn _ _ ⟨Hb,?_⟩
   clear Hn nn1 k1 Hd Hi Hy dd
   (try simp only [Act.put,zp1,zp2,zp3])
   refine tkHs [5,6,7,8] (by kernel_rfl) (fun _ _ _ _ _ h=>h) Hb ?_
   iterate 4
    refine tkc (v:=?_) rfl (Or.inl ⟨by rfl,?_⟩) ?_
    rotate_left
    ·(intro wv Ha;rw [Hc] at Ha;go_simp;(try with_reducible rfl))
    (try simp only [Act.put,zp1,zp2,zp3])
   refine tkz ?_
   refine alH 9 (by kernel_rfl) (wpOp_step (o:=_) rfl fun KA Hq=>?_)
   go_simp
   have Hb:S (x1.alloc (Obj.cells zR 30)):=by rw [Hc];exact M1.out.alloc M1.out.size _
   refine Hq _ _ ⟨Hb,?_⟩
   (try simp only [Act.put,zp1,zp2,zp3])
   refine alH 10 (by kernel_rfl) (wpOp_step (o:=_) rfl fun KB Ho=>?_)
   rw [if_pos (by rfl)]
   refine wp_store_mid 30 (.tmp 19) (.tmp 122) rfl x1.heap.size 0 (rN rc E0 m0 z0 E1 z1 E2 z2 E3 z3 E4 z4) rfl rfl (zAs (Blk.new x1 30 zR)) (by kernel_rfl) (all_oneCell_toArray (zBk Hh.out.1)) ?_
   have Hf:S ((x1.alloc (Obj.cells zR 30)).setCells x1.heap.size 0 (rL rc E0 m0 z0 E1 z1 E2 z2 E3 z3 E4 z4)):=by rw [Hc] at Hb ⊢;exact zAl M1.out.size _ 0 _ _ Hb
   refine Ho _ _ ⟨Hf,?_⟩
   have Hb:=Hf
   (try simp only [Act.put,zp1,zp2,zp3])
   change wpAnyH _ _ _ _ _ _ _ _ ((x1.alloc (Obj.cells zR 30)).setCells x1.heap.size 0 (rL rc E0 m0 z0 E1 z1 E2 z2 E3 z3 E4 z4))
   refine tkHs [11,12] (by kernel_rfl) (fun _ _ _ _ _ h=>h) Hb ?_
   iterate 2
    refine tkc (v:=?_) rfl (Or.inl ⟨by rfl,?_⟩) ?_
    rotate_left
    ·(intro wv Ha;rw [Hc] at Ha;go_simp;(try with_reducible rfl))
    (try simp only [Act.put,zp1,zp2,zp3])
   refine tkz ?_
   refine wpAnyH_done (by kernel_rfl) ?_ _
   (try simp only [Act.put,zp1,zp2,zp3])
   obtain ⟨gz,Hm⟩:∃ g,x1.heap.size=g:=⟨_,rfl⟩
   obtain ⟨W8,Km⟩:∃ W,W=(x1.alloc (Obj.cells zR 30)).setCells x1.heap.size 0 (rL rc E0 m0 z0 E1 z1 E2 z2 E3 z3 E4 z4):=⟨_,rfl⟩
   have Hz:Hid (Below W3.heap.size W3 W8∧Blk W8 gz 30 (rN rc E0 m0 z0 E1 z1 E2 z2 E3 z3 E4 z4)∧IsRep W8 0 (.slice E0 m0 z0) (.slice E1 rc.have_.length z1) (.slice E2 rc.wants.length z2) (.slice E3 rc.gives.length z3) (.slice E4 rc.given.length z4) rc∧IsRow 43 8 80 MsgE W8 0 (.slice Ao ld.length co) ld∧W3.heap.size≤gz):=by rw [Km,← Hm];have q0:=zBe Hh.out.1 Hh.out.2 (M1.out.alloc M1.out.size _) (Blk.new x1 30 zR) M1.out.size (zAa x1 _);exact Lib.hid ⟨q0.1,q0.2.1,q0.2.2.1,q0.2.2.2,M1.out.size⟩
   change Exit.then _ _ _ _ ((x1.alloc (Obj.cells zR 30)).setCells x1.heap.size 0 (rL rc E0 m0 z0 E1 z1 E2 z2 E3 z3 E4 z4))
   rw [← Km]
   rw [Hm]
   clear Km Hm Hb Hf Hc Hq Ho Hh M1
   revert Hz
   revert W8 gz
   revert E0 m0 z0 E1 z1 E2 z2 E3 z3 E4 z4 Ao co
   exact key
  refine wpOp_step (o:=_) rfl (fun KA Hq=>?_)
  go_simp
  have dd:Below W3.heap.size W3 (W3.drew.alloc (Obj.cells zR 30)):=(Below.refl _ _).drew.alloc (Nat.le_refl _) _
  have Hb:S (W3.drew.alloc (Obj.cells zR 30)):=by rw [Hc];exact dd
  refine Hq _ _ ⟨Hb,?_⟩
  (try simp only [Act.put,zp1,zp2,zp3])
  refine alH 4 (by kernel_rfl) (wpOp_step (o:=_) rfl fun KS Hn=>?_)
  go_simp
  refine (HC.out _ dd).mono ?_;rintro en x1 ⟨⟨E0,m0,z0,E1,z1,E2,z2,E3,z3,E4,z4,Ao,co,rfl,Hd,Hi,Hy⟩,k1⟩
  have nn1:=dd.trans (k1.mono dd.size)
  have M1:=Lib.hid nn1
  have Hh:=Lib.hid (And.intro Hd Hi)
  have HZ:=Lib.hid ((Blk.new' (w:=W3.drew) (g:=W3.heap.size) (t:=30) (cs:=zR) rfl).same k1)
  have Hb:S x1:=by rw [Hc];exact nn1
  refine Hn _ _ ⟨Hb,?_⟩
  clear Hn nn1 k1 Hd Hi Hy dd
  (try simp only [Act.put,zp1,zp2,zp3])
  refine tkHs [5,6,7,8] (by kernel_rfl) (fun _ _ _ _ _ h=>h) Hb ?_
  iterate 4
   refine tkc (v:=?_) rfl (Or.inl ⟨by rfl,?_⟩) ?_
   rotate_left
   ·(intro wv Ha;rw [Hc] at Ha;go_simp;(try with_reducible rfl))
   (try simp only [Act.put,zp1,zp2,zp3])
  refine tkz ?_
  refine alH 10 (by kernel_rfl) (wpOp_step (o:=_) rfl fun KB Ho=>?_)
  rw [if_pos (by rfl)]
  refine wp_store_mid 30 (.tmp 19) (.tmp 122) rfl W3.heap.size 0 (rN rc E0 m0 z0 E1 z1 E2 z2 E3 z3 E4 z4) rfl rfl (zAs HZ.out) (by kernel_rfl) (all_oneCell_toArray (zBk Hh.out.1)) ?_
  have Hf:S (x1.setCells W3.heap.size 0 (rL rc E0 m0 z0 E1 z1 E2 z2 E3 z3 E4 z4)):=by rw [Hc] at Hb ⊢;exact zAl (Nat.le_refl _) _ 0 _ _ Hb
  refine Ho _ _ ⟨Hf,?_⟩
  have Hb:=Hf
  (try simp only [Act.put,zp1,zp2,zp3])
  change wpAnyH _ _ _ _ _ _ _ _ (x1.setCells W3.heap.size 0 (rL rc E0 m0 z0 E1 z1 E2 z2 E3 z3 E4 z4))
  refine tkHs [11,12] (by kernel_rfl) (fun _ _ _ _ _ h=>h) Hb ?_
  iterate 2
   refine tkc (v:=?_) rfl (Or.inl ⟨by rfl,?_⟩) ?_
   rotate_left
   ·(intro wv Ha;rw [Hc] at Ha;go_simp;(try with_reducible rfl))
   (try simp only [Act.put,zp1,zp2,zp3])
  refine tkz ?_
  refine wpAnyH_done (by kernel_rfl) ?_ _
  (try simp only [Act.put,zp1,zp2,zp3])
  obtain ⟨gz,Hm⟩:∃ g,W3.heap.size=g:=⟨_,rfl⟩
  obtain ⟨W8,Km⟩:∃ W,W=x1.setCells W3.heap.size 0 (rL rc E0 m0 z0 E1 z1 E2 z2 E3 z3 E4 z4):=⟨_,rfl⟩
  have Hz:Hid (Below W3.heap.size W3 W8∧Blk W8 gz 30 (rN rc E0 m0 z0 E1 z1 E2 z2 E3 z3 E4 z4)∧IsRep W8 0 (.slice E0 m0 z0) (.slice E1 rc.have_.length z1) (.slice E2 rc.wants.length z2) (.slice E3 rc.gives.length z3) (.slice E4 rc.given.length z4) rc∧IsRow 43 8 80 MsgE W8 0 (.slice Ao ld.length co) ld∧W3.heap.size≤gz):=by rw [Km,← Hm];have q0:=zBe Hh.out.1 Hh.out.2 M1.out HZ.out (Nat.le_refl _) (Below.refl _ _);exact Lib.hid ⟨q0.1,q0.2.1,q0.2.2.1,q0.2.2.2,(Nat.le_refl _)⟩
  change Exit.then _ _ _ _ (x1.setCells W3.heap.size 0 (rL rc E0 m0 z0 E1 z1 E2 z2 E3 z3 E4 z4))
  rw [← Km]
  rw [Hm]
  clear Km Hm Hb Hf Hc Hq Ho Hh M1 HZ
  revert Hz
  revert W8 gz
  revert E0 m0 z0 E1 z1 E2 z2 E3 z3 E4 z4 Ao co
  exact key
 case rest2 =>
 intro E0 m0 z0 E1 z1 E2 z2 E3 z3 E4 z4 Ao co gz W8 Hz
 have Vi:=Lib.hid (And.intro Hz.out.2.1 Hz.out.2.2.1)
 have Gx:=Lib.hid (Hr.out.2.2.below Hz.out.1)
 have Vy:=Lib.hid (Hr.out.2.1.trans (Hz.out.1.mono Hr.out.2.1.size))
 obtain ⟨z0',z1',z2',z3',z4',z5',z6',z7',z8',z9'⟩:=cz10 Vi.out.1
 clear HC Hr HQ Hz mc0 mc1 mc2 mc3 mc4 mc5 mc6 mc7 xd0 xd1 xd2 xd3 xd4 xd5 xd6 xd7 xd8 xd9
 go_wp2_with fail
 refine (zIb _ _ _ _ _ rc (by rw [Kz.out.1];decide) W8).mono ?_;rintro e w9 ⟨rfl,h9⟩
 rw [Kz.out.2.2]
 have Gy:=Lib.hid (And.intro (Vi.out.1.same h9) (Vi.out.2.below h9))
 have Nq:=Lib.hid (Gx.out.below h9)
 have Nr:=Lib.hid (Vy.out.trans (h9.mono Vy.out.size))
 obtain ⟨-,y1,-,-,y4⟩:=cz5 Gy.out.1
 rw [Kz.out.1] at y1
 clear h9 Vi Gx Vy z0' z1' z2' z3' z4' z5' z6' z7' z8' z9'
 go_wp2_with fail
 refine (zKn _ _ rc.kept.log es _ 0 0 Gy.out.2.log Nq.out).mono ?_;rintro e w10 ⟨rfl,n10,rfl⟩
 rw [show decide (rc.kept.log=es)=true by rw [decide_eq_true_eq];exact Kz.out.2.1]
 go_wp2_with fail
 refine (zBc 1 _ (by decide)).mono ?_;rintro e w11 ⟨rfl,rfl⟩
 rw [show (1:Int) % 3=1 from rfl]
 go_wp2_with fail
 go_ret
 exact ⟨rfl,below_drewN Nr.out _⟩
theorem lawViewsBegin_w (v:Value) (l:List Scu.Raw) {w:World} (h:IsRaws w w.heap.size v l) (n:Int) (hc:(Lit.int .i64 n).wf=true) (W:World) (hW:W=w) (ht:Tab W) :
 Calls Tryd.prog 4 #[v,.int .i64 n] W fun e w'=>e=.returned (.bool true)∧Below W.heap.size W w':=by
 subst hW
 exact lawViewsBegin_c v l n (zEo hc) W h ht
end Go.Proofs.YtjnjhmkgfjikfaaDoor
namespace Go.Proofs.YtjnjhmkgfjikfaaDoor.viewsBeginDone
open Go.ChangeShapes Go.WideShapes Go.ChangeAt Go.RowKit
open Go.ChangeMaps (open_string shut_string)
theorem own : ownKnob Tryd.prog.godebug = none := by kernel_rfl
theorem laidOut : laidOutB Tryd.prog = true := by kernel_rfl
set_option maxRecDepth 100000 in
theorem lifted (os : Os) (started : os.Started) (H : Type) (enc : TypeId × Value → H) :
    ReturnsInHanded {} Tryd.checked os 4 .any (fun w args => (Rows.viewsBeginSpec.pre enc Tryd.prog Tryd.f4 [] false w args ∧ laidMetH Tryd.prog Rows.viewsBeginRow.laid w) ∧ sizedMet enc Tryd.prog Tryd.f4 (OpenSpec.ofChange Rows.viewsBeginSpec) false w args)
      (Rows.viewsBeginSpec.post enc Tryd.prog Tryd.f4 false true false false) := by
  refine returnsInHanded_of_change_and (C := Tryd.checked) (X := fun w _ => laidMetH Tryd.prog Rows.viewsBeginRow.laid w) (fun _ _ _ hh h => h.of_heap hh) own started (by kernel_rfl) Tryd.func4
    (ChangeSpec.witness_shaped (enc := enc) (C := Tryd.checked) (os := os) (X := fun w _ => laidMetH Tryd.prog Rows.viewsBeginRow.laid w) false (World.doorLaid Tryd.prog doorFuel os) #[.slice none 0 0, .int .i64 0] 8 rfl (zEh os _) (by kernel_rfl) (by kernel_rfl) (by kernel_rfl) (zGy os _)) ?_
  intro W base args ds gs before hval0 hW _ hsz hL _
  have htab := zKx hL
  have hwt0 : ∀ (j : Nat) (t : TypeId) (d : DataW H), (Tryd.f4.params.toList ++ Rows.viewsBeginSpec.plain.varTypes Tryd.prog)[j]? = some t → (ds ++ gs)[j]? = some d → ∀ k ∈ d.weights Tryd.prog t, k ≤ reachBytes := fun j t d ht hd k hk => by
    have := List.all_eq_true.1 hsz k (DataW.weights_mem_each ht hd k hk)
    simpa using this
  clear hsz hL
  have hwt := hwt0
  rw [Tryd.params4] at hwt
  have hval : ∀ (j : Nat) t v, Tryd.f4.params[j]? = some t → args[j]? = some v → Value.okWide Tryd.prog W .any base t v := hval0
  have hW' := hW
  obtain ⟨p, q, hA0, hV, rfl, hfz, hnd⟩ := hW
  have hA : DataW.TrodAll enc Tryd.prog W 0 (fun _ => true) true Tryd.f4.params.toList args.toList ds p := hA0
  rw [Tryd.params4] at hA hval
  obtain ⟨v0, vs0, d0, ds0, p0, q0, hargs, rfl, rfl, h0, r0⟩ := trodAll_cons hA
  obtain ⟨v1, vs1, d1, ds1, p1, q1, rfl, rfl, rfl, h1, r1⟩ := trodAll_cons r0
  obtain ⟨rfl, rfl, rfl⟩ := trodAll_nil r1
  obtain rfl : args = #[v0, v1] := by cases args; simp_all
  obtain ⟨rfl, rfl⟩ := trodVars_none hV
  have k0 := h0
  have lt0 : ∀ x ∈ p0, x.block < W.heap.size := by obtain ⟨m, hm⟩ := k0; exact DataW.trod_lt m _ _ _ hm
  obtain ⟨a0, w0⟩ := zEp (hval 0 22 v0 rfl rfl) h0 (hwt 0 22 d0 rfl rfl)
  have k1 := h1
  have lt1 : ∀ x ∈ p1, x.block < W.heap.size := by obtain ⟨m, hm⟩ := k1; exact DataW.trod_lt m _ _ _ hm
  obtain ⟨a1, hv1, hd1, hp1, w1⟩ := open_int Tryd.underlying3 (hval 1 3 v1 rfl rfl) h1
  subst hv1
  clear hA0 hval0
  refine (lawViewsBegin_w v0 a0 w0 a1 w1 W rfl htab).mono fun e W' ⟨he, bel⟩ => ?_
  subst he
  exact ⟨_, rfl, _, _, _, [], _, [], hW', trodAll_mk1 (shut_bool Tryd.underlying4 _), (trodAll_cons_mk (Below.trod laidOut (by kernel_rfl) (of_decide_eq_true (by kernel_rfl)) k0 bel lt0) (trodAll_cons_mk (Below.trod laidOut (by kernel_rfl) (of_decide_eq_true (by kernel_rfl)) k1 bel lt1) trodAll_mk0)), rfl, bel.frame _, fun h => by cases h⟩
theorem over : Rows.ViewsBeginSaid :=
  OpenClaim.holds_of_wide 4 Tryd.f4 rfl rfl rfl rfl rfl rfl rfl ⟨rfl, rfl, rfl, rfl, rfl⟩ rfl rfl rfl rfl rfl (by kernel_rfl) Tryd.func4 (zGm rfl rfl rfl rfl rfl rfl (by as_aux_lemma => kernel_rfl) (by as_aux_lemma => kernel_rfl) (by as_aux_lemma => kernel_rfl) (by as_aux_lemma => kernel_rfl) (by as_aux_lemma => kernel_rfl) (by as_aux_lemma => kernel_rfl) (by as_aux_lemma => kernel_rfl))
    (of_decide_eq_true (by kernel_rfl)) (by unfold Func.isWrapper; first | (rw [if_pos (by decide +kernel)]; kernel_rfl) | (rw [if_neg (by decide +kernel)]; exact ⟨rfl, rfl⟩))
    (fun os started H enc _ => lifted os started H enc)
theorem proved : Rows.ViewsBeginCardSaid :=
  Claim7.holds_tied_plain_at .later [] [.data, .data, .data] true Rows.viewsBeginCard.stood.harness false
    over (fun _ h => by cases h) (by kernel_rfl) (fun _ h => by cases h) viewsBegin_row_tie rfl ⟨rfl, rfl⟩ (by kernel_rfl) rfl
    (fun f fn hf hfn => by
      obtain rfl : f = 4 := Option.some.inj ((show Tryd.prog.funcNamed Rows.viewsBeginRow.func = some 4 by kernel_rfl).symm.trans hf) |>.symm
      obtain rfl : fn = Tryd.f4 := (Option.some.inj (Tryd.func4.symm.trans hfn)).symm
      exact ⟨by kernel_rfl, fun j t ht => by
        rw [Tryd.params4] at ht
        have hm : t ∈ [22, 3] := by simpa using Array.mem_of_getElem? ht
        have hall : ([22, 3].all fun u => !Tryd.prog.wantsStandIn u) = true := by kernel_rfl
        exact (show Tryd.prog.wantsStandIn t = false by simpa using List.all_eq_true.1 hall t hm)⟩)
    (by kernel_rfl)
end Go.Proofs.YtjnjhmkgfjikfaaDoor.viewsBeginDone
