/- The card of the law 'TopOrder': for every input the call returns true; each argument reads as it did. Condition: the three tables of numbers that the library reads hold what the program's text lays in them, which the card ties. -/
import Derived.Test.YtnpphdaakookcaaDoorCards
import Derived.SevenTiedAt
import Derived.ChangeOld
import Derived.Below
import Derived.Test.YtnpphdaakookcaaDoorQ40
set_option linter.unusedVariables false
set_option linter.unusedSimpArgs false
set_option maxHeartbeats 4000000
set_option maxRecDepth 100000
namespace Scu
section
variable {x:Net}
end
theorem OrdOk.final {i:Int} {x:Net} {S:List Sp} {began:List Int} (h:OrdOk i x S began) {s s':Sp} (hs:s ∈ S) (Hc:s' ∈ S) (Hd:s'.tq < s.frm) :
 placeOf (committed x.replicas) s'.t.request < placeOf (committed x.replicas) s.t.request:=by
 obtain ⟨He,Hi,Hf,Q,G,h1,h2,h3,h4⟩:=h
 obtain ⟨_,_,m,k3,k4⟩:=h4 s hs
 refine Nat.lt_of_lt_of_le (k4 s' Hc Hd) ?_
 have hm:s.t ∈ x.told:=by rw [← He];exact List.mem_map_of_mem hs
 have hp:=(h2.told _ hm).place
 obtain ⟨_,Ha⟩:=h2.late _ k3
 rcases Nat.lt_or_ge (placeOf (committed x.replicas) s.t.request) m with Hg | Hh
 ·exfalso
  have Hb:(committed x.replicas)[placeOf (committed x.replicas) s.t.request] ∈ (committed x.replicas).take m:=by
   rw [List.mem_take_iff_getElem]
   exact ⟨_,by omega,rfl⟩
  have:=List.findIdx_getElem (p:=isReq s.t.request) (w:=hp)
  exact Ha _ Hb (of_decide_eq_true this)
 exact Hh
theorem ord_new (n:Nat) (hn:n≤4):OrdOk 0 (netNew n) [] (List.replicate n 0) where
 tl:=rfl
 bl:=by simp [netNew]
 pos:=by omega
 came:=⟨[],gh0,zSa _ n,zOe n hn,fun c hc hw=>by
  have hl:(netNew n).clients.length=n:=by simp [netNew]
  rw [hl] at hc
  have:cAt (netNew n) c=⟨(c:Int)+1,1,req0⟩:=by
   unfold cAt netNew
   simp only
   rw [List.getD_eq_getElem?_getD,List.getElem?_map,List.getElem?_range hc]
   rfl
  rw [this] at hw
  exact (hw rfl).elim,fun s hs=>by cases hs⟩
end Scu
namespace Go.Proofs.YtnpphdaakookcaaDoor
open Go.RowKit
theorem zJw (x r:Scu.Request) (W:World):(binOp .eql 62 (.agg #[.int .i64 x.client,.int .i64 x.num,.int .i64 x.op.kind,.int .i64 x.op.at_,.int .i64 x.op.snap,.string x.op.data]) (.agg #[.int .i64 r.client,.int .i64 r.num,.int .i64 r.op.kind,.int .i64 r.op.at_,.int .i64 r.op.snap,.string r.op.data])).run Tryd.prog W=.ok (.bool (decide (x=r))) W:=by
 rw [zJe,zXj,← zFj]
 simp [go_sem]
 repeat' split
 all_goals simp_all
theorem zXg (s:Scu.Str) (r:Scu.Request) (g:Nat) (w:World) (hb:Blk w g 62 #[.int .i64 r.client,.int .i64 r.num,.int .i64 r.op.kind,.int .i64 r.op.at_,.int .i64 r.op.snap,.string r.op.data]) :
 Calls Tryd.prog 36 #[.string s,.pointer (some ⟨g,0,none⟩)] w fun e w'=>e=.returned (.bool (Scu.isReq r s))∧Below w.heap.size w w':=by
 obtain ⟨x,er,hd⟩:∃ x e,Scu.decode s=(x,e):=⟨_,_,rfl⟩
 have K:=Lib.hid (zPl s w)
 rw [hd] at K
 have HI:=Lib.hid (show Scu.isReq r s=decide ((x,er)=(r,(0:Int))) by unfold Scu.isReq;rw [hd])
 have HB:=Lib.hid hb
 clear hb hd
 go_enter Tryd.func36,Tryd.ntmps36
 go_wp2_with fail
 refine K.out.mono ?_;rintro e w1 ⟨rfl,h1⟩
 rw [vRequest]
 dsimp only
 go_upto_region 2 with fail
 have Hb:=zAa w1 (Obj.cells #[.int .i64 x.client,.int .i64 x.num,.int .i64 x.op.kind,.int .i64 x.op.at_,.int .i64 x.op.snap,.string x.op.data] 62)
 have Hc:=Blk.new w1 62 #[.int .i64 x.client,.int .i64 x.num,.int .i64 x.op.kind,.int .i64 x.op.at_,.int .i64 x.op.snap,.string x.op.data]
 have Hd:=(HB.out.same h1).same Hb
 have HF:=Lib.hid (h1.trans (Hb.mono h1.size))
 obtain ⟨Wd,Ha⟩:∃ W,W=w1.alloc (Obj.cells #[.int .i64 x.client,.int .i64 x.num,.int .i64 x.op.kind,.int .i64 x.op.at_,.int .i64 x.op.snap,.string x.op.data] 62):=⟨_,rfl⟩
 obtain ⟨gx,He⟩:∃ g,w1.heap.size=g:=⟨_,rfl⟩
 rw [← Ha,He] at Hc
 rw [← Ha] at Hd HF
 rw [← Ha,He]
 obtain ⟨a0,a1,a2,a3,a4,a5⟩:=cz6 Hc
 obtain ⟨b0,b1,b2,b3,b4,b5⟩:=cz6 Hd
 clear Ha He Hc Hd Hb h1 HB
 have hq:=zJw x r
 by_cases he:er=0
 ·have Hf:(er == 0)=true:=by simp [he]
  by_cases hx:x=r
  ·have hd:decide (x=r)=true:=by simp [hx]
   have HT:=Lib.hid (show Scu.isReq r s=true by rw [HI.out,he,hx];simp)
   clear hx he
   go_wp2
   go_ret
   exact ⟨zAb (zBt HT.out.symm),HF.out⟩
  have hd:decide (x=r)=false:=by simp [hx]
  have HT:=Lib.hid (show Scu.isReq r s=false by rw [HI.out];simp [hx])
  clear hx he
  go_wp2
  go_ret
  exact ⟨zAb (zBt HT.out.symm),HF.out⟩
 have Hf:(er == 0)=false:=by simp [he]
 have HT:=Lib.hid (show Scu.isReq r s=false by rw [HI.out];simp [he])
 clear he
 go_wp2
 go_ret
 exact ⟨zAb (zBt HT.out.symm),HF.out⟩
def placeI (xs:List Scu.Str) (r:Scu.Request):Int:=if Scu.placeOf xs r < xs.length then (Scu.placeOf xs r:Int) else -1
theorem zRu (v:Value) (xs:List Scu.Str) (w:World) (B:Nat) (hv:IsStrs w B v xs) (r:Scu.Request) (g:Nat) (hb:Blk w g 62 #[.int .i64 r.client,.int .i64 r.num,.int .i64 r.op.kind,.int .i64 r.op.at_,.int .i64 r.op.snap,.string r.op.data]) :
 Calls Tryd.prog 35 #[v,.func (.func 36) #[] #[.pointer (some ⟨g,0,none⟩)]] w fun e w'=>e=.returned (.int .i64 (placeI xs r))∧Below w.heap.size w w':=by
 obtain ⟨⟨A,c,rfl,_,hr⟩,hl,_⟩:=hv
 unfold R47 at hl
 have HR:=Lib.hid hr
 have HB:=Lib.hid hb
 clear hr hb
 go_enter Tryd.func35,Tryd.ntmps35
 go_wp2
 go_loopw [8] (fun i wr=>∃ k:Nat,k≤xs.length∧i=.int .i64 k∧Hid (Below w.heap.size w wr∧∀ j (hj:j < xs.length),j < k→Scu.isReq r xs[j]=false)) (fun i _=>xs.length - (intOf i).toNat)
 case atStart=>exact ⟨0,Nat.zero_le _,rfl,Lib.hid ⟨Below.refl _ _,fun j _ h=>by omega⟩⟩
 case round =>
  obtain ⟨k,hk,rfl,HK⟩:=hrel
  by_cases Hb:k < xs.length
  ·have Hc:(k:Int) < (xs.length:Int):=by omega
   obtain ⟨gx,o,rfl,_,hc⟩:=zEf (HR.out.below HK.out.1) Hb
   obtain ⟨s,hs⟩:∃ s,xs[k]=s:=⟨_,rfl⟩
   rw [hs] at hc
   have HS:=Lib.hid hs
   clear hs
   go_wp2_with fail
   refine (zXg s r g wr (HB.out.same HK.out.1)).mono ?_;rintro e w2 ⟨rfl,h2⟩
   have HW:=Lib.hid (HK.out.1.trans (h2.mono HK.out.1.size))
   obtain ⟨b,Ha⟩:∃ b,Scu.isReq r s=b:=⟨_,rfl⟩
   rw [Ha]
   cases b with
   | true =>
     have HP:=Lib.hid (show placeI xs r=k by
      have e:Scu.placeOf xs r=k:=(List.findIdx_eq Hb).2 ⟨by rw [HS.out];exact Ha,fun j hj=>HK.out.2 j (by omega) hj⟩
      unfold placeI
      rw [e,if_pos Hb])
     clear Ha
     go_wp2
     go_ret
     exact ⟨zAb (zAd HP.out.symm),HW.out⟩
   | false =>
     have HN:=Lib.hid (show ∀ j (hj:j < xs.length),j < k+1→Scu.isReq r xs[j]=false from fun j hj Hd=>by
      by_cases e:j=k
      ·subst e;rw [HS.out];exact Ha
      exact HK.out.2 j hj (by omega))
     clear Ha
     go_wp2
     go_roundw
     case rel=>first | exact ⟨k+1,by omega,rfl,Lib.hid ⟨HW.out,HN.out⟩⟩ | ((repeat apply Exists.intro);exact ⟨⟨k+1,by omega,rfl,Lib.hid ⟨HW.out,HN.out⟩⟩,rfl⟩)
     case measure=>first | (simp only [intOf];omega) | (simp [intOf];omega)
  have Hc:¬ (k:Int) < (xs.length:Int):=by omega
  have HP:=Lib.hid (show placeI xs r = -1 by
   have e:Scu.placeOf xs r=xs.length:=List.findIdx_eq_length.2 (fun x hx=>by
    obtain ⟨j,hj,rfl⟩:=List.mem_iff_getElem.1 hx
    exact HK.out.2 j hj (by omega))
   unfold placeI
   rw [e,if_neg (Nat.lt_irrefl _)])
  go_wp2
  go_ret
  exact ⟨zAb (zAd HP.out.symm),HK.out.1⟩
theorem yAj (v:Value) (xs:List Scu.Str) (w:World) (B:Nat) (hv:IsStrs w B v xs) (r:Scu.Request) :
 Calls Tryd.prog 23 #[v,.agg #[.int .i64 r.client,.int .i64 r.num,.int .i64 r.op.kind,.int .i64 r.op.at_,.int .i64 r.op.snap,.string r.op.data]] w fun e w'=>e=.returned (.int .i64 (placeI xs r))∧Below w.heap.size w w':=by
 have Hb:∀ (fn:Fn) (first cap:Array Value) (w:World),(Instr.makeFunc fn first cap).run Tryd.prog w=.ok (.func fn first cap) w:=fun _ _ _ _=>rfl
 obtain ⟨A,n,c,rfl⟩:=hv.form
 have Ha:=zAa w (Obj.cells #[.int .i64 r.client,.int .i64 r.num,.int .i64 r.op.kind,.int .i64 r.op.at_,.int .i64 r.op.snap,.string r.op.data] 62)
 have K:=Lib.hid (zRu (.slice A n c) xs (w.alloc (Obj.cells #[.int .i64 r.client,.int .i64 r.num,.int .i64 r.op.kind,.int .i64 r.op.at_,.int .i64 r.op.snap,.string r.op.data] 62)) B (hv.below Ha) r w.heap.size (Blk.new w _ _))
 have HA:=Lib.hid Ha
 clear hv Ha
 go_enter Tryd.func23,Tryd.ntmps23
 go_wp2_with fail
 refine K.out.mono ?_;rintro e w2 ⟨rfl,h2⟩
 have HF:=Lib.hid (HA.out.trans (h2.mono HA.out.size))
 clear h2
 go_wp2
 go_ret
 exact ⟨rfl,HF.out⟩
theorem zXh {w:World} {A:Option Addr} {n c:Nat} {ts:List Scu.Told} (h:IsRow 66 9 88 ToldE w 0 (.slice A n c) ts) {k:Nat} (hk:k < ts.length) {t:Scu.Told} (e:ts[k]=t) :
 ∃ g o,A=some ⟨g,o,none⟩∧w.cell? ⟨g,o+k*9,none⟩=some (.int .i64 t.request.client)∧w.cell? ⟨g,o+k*9+1,none⟩=some (.int .i64 t.request.num)∧w.cell? ⟨g,o+k*9+2,none⟩=some (.int .i64 t.request.op.kind)∧w.cell? ⟨g,o+k*9+3,none⟩=some (.int .i64 t.request.op.at_) ∧
  w.cell? ⟨g,o+k*9+4,none⟩=some (.int .i64 t.request.op.snap)∧w.cell? ⟨g,o+k*9+5,none⟩=some (.string t.request.op.data)∧w.cell? ⟨g,o+k*9+6,none⟩=some (.int .i64 t.reply.code)∧w.cell? ⟨g,o+k*9+7,none⟩=some (.int .i64 t.reply.n)∧w.cell? ⟨g,o+k*9+8,none⟩=some (.string t.reply.data):=by
 obtain ⟨⟨A',c',css2,e1,_,h2,h3,Hc,h4⟩,_⟩:=h
 cases e1
 obtain ⟨g,o,cs1,rfl,hg,_,Ha,Hb⟩:=zDo h2 h3 (by decide) Hc h4 hk
 rw [e] at Hb
 have e1:cs1=toldV t:=Hb
 subst e1
 exact ⟨g,o,rfl,Ha 0 _ rfl,Ha 1 _ rfl,Ha 2 _ rfl,Ha 3 _ rfl,Ha 4 _ rfl,Ha 5 _ rfl,Ha 6 _ rfl,Ha 7 _ rfl,Ha 8 _ rfl⟩
end Go.Proofs.YtnpphdaakookcaaDoor
namespace Scu
def act9:Act:=⟨0,0,0,0,0,op0⟩
def ordAt (la:List Act):Nat→Net × List Sp × List Int
 | 0=>(netNew 3,[],[0,0,0])
 | k+1=>((act (ordAt la k).1 (la.getD k act9)).1,ordStep k (ordAt la k).1 (la.getD k act9) (ordAt la k).2.1 (ordAt la k).2.2)
theorem ordAt_ok (la:List Act):∀ k:Nat,OrdOk k (ordAt la k).1 (ordAt la k).2.1 (ordAt la k).2.2
 | 0=>ord_new 3 (by omega)
 | k+1=>(ordAt_ok la k).step (la.getD k act9)
theorem ordAt_net (la:List Act):∀ k:Nat,k≤la.length→(ordAt la k).1=(steps (netNew 3) (la.take k)).1
 | 0,_=>rfl
 | k+1,h=>by
   have hk:k < la.length:=h
   show (act (ordAt la k).1 (la.getD k act9)).1=_
   rw [ordAt_net la k (by omega),List.take_succ_eq_append_getElem hk,zGl]
   simp [steps,List.getD_eq_getElem?_getD,List.getElem?_eq_getElem hk]
theorem act_told (x:Net) (a:Act):x.told <+: (act x a).1.told:=by
 rcases zJa x a with ⟨_,ht,_⟩ | ⟨_,_,_,_,_,he⟩ | ⟨_,_,_,_,_,_,_,_,he⟩
 ·rw [ht];exact List.prefix_refl _
 ·rw [he];exact List.prefix_refl _
 rw [he];exact List.prefix_append _ _
theorem steps_told:∀ (l:List Act) (x:Net),x.told <+: (steps x l).1.told
 | [],_=>List.prefix_refl _
 | a :: l,x=>(act_told x a).trans (steps_told l (act x a).1)
section
variable {la:List Act} {o:Outcome}
theorem ord_code (ho:outOf (steps (netNew 3) la)=o) {k:Nat} (hk:k < la.length):o.codes[k]? = some (act (ordAt la k).1 la[k]).2:=by
 subst ho
 have h1:=zGl (la.take k) (la.drop k) (netNew 3)
 rw [List.take_append_drop] at h1
 show (steps (netNew 3) la).2[k]? = _
 have hl:(steps (netNew 3) (la.take k)).2.length=k:=by rw [steps_codes,List.length_take];omega
 rw [h1,List.getElem?_append_right (by rw [hl];exact Nat.le_refl _),hl,Nat.sub_self,List.drop_eq_getElem_cons hk,ordAt_net la k (by omega)]
 simp [steps]
theorem ord_told (ho:outOf (steps (netNew 3) la)=o) {k:Nat} (hk:k≤la.length):(ordAt la k).1.told <+: o.told:=by
 subst ho
 have h1:=zGl (la.take k) (la.drop k) (netNew 3)
 rw [List.take_append_drop] at h1
 show _ <+: (steps (netNew 3) la).1.told
 rw [h1,ordAt_net la k hk]
 exact steps_told _ _
theorem ord_blen (la:List Act):∀ k:Nat,(ordAt la k).2.2.length=3
 | 0=>rfl
 | k+1=>by
   have h:=ord_blen la k
   show (ordStep k (ordAt la k).1 (la.getD k act9) (ordAt la k).2.1 (ordAt la k).2.2).2.length=3
   unfold ordStep
   split
   ·exact h
   ·split
    ·simpa using h
    split <;> exact h
theorem ord_mem (ho:outOf (steps (netNew 3) la)=o) {k:Nat} (hk:k≤la.length) {s:Sp} (hs:s ∈ (ordAt la k).2.1):s.t ∈ o.told :=
 (ord_told ho hk).subset (by rw [← (ordAt_ok la k).tl];exact List.mem_map_of_mem hs)
theorem ord_slen (ho:outOf (steps (netNew 3) la)=o) {k:Nat} (hk:k≤la.length):(ordAt la k).2.1.length≤o.told.length:=by
 have h:=(ord_told ho hk).length_le
 rw [← (ordAt_ok la k).tl,List.length_map] at h
 exact h
theorem getD_at {k:Nat} (hk:k < la.length):la.getD k act9=la[k]:=by simp [List.getD_eq_getElem?_getD,List.getElem?_eq_getElem hk]
theorem ord_else {k:Nat} (hk:k < la.length) (h:(act (ordAt la k).1 la[k]).2≠0 ∨ la[k].kind≠1∧la[k].kind≠3):(ordAt la (k+1)).2=(ordAt la k).2:=by
 show ordStep k (ordAt la k).1 (la.getD k act9) (ordAt la k).2.1 (ordAt la k).2.2=_
 rw [getD_at hk]
 unfold ordStep
 rcases h with h | ⟨h1,h3⟩
 ·rw [if_pos h]
 simp only [if_neg h1,if_neg h3,ite_self]
theorem ord_in {k:Nat} (hk:k < la.length) (h0:(act (ordAt la k).1 la[k]).2=0) (h:la[k].kind=1 ∨ la[k].kind=3):0≤la[k].c∧la[k].c < 3:=by
 have hb:=(ordAt_ok la k).bl
 rw [ord_blen] at hb
 rcases zJa (ordAt la k).1 la[k] with ⟨_,_,hn⟩ | ⟨_,h1,h2,_⟩ | ⟨_,h1,h2,_⟩
 ·exact (hn ⟨h0,h⟩).elim
 ·omega
 omega
theorem ord_ask {k:Nat} (hk:k < la.length) (h0:(act (ordAt la k).1 la[k]).2=0) (h:la[k].kind=1):(ordAt la (k+1)).2=((ordAt la k).2.1,(ordAt la k).2.2.set la[k].c.toNat k):=by
 show ordStep k (ordAt la k).1 (la.getD k act9) (ordAt la k).2.1 (ordAt la k).2.2=_
 rw [getD_at hk]
 unfold ordStep
 rw [if_neg (fun hh=>hh h0),if_pos h]
theorem ord_tell (ho:outOf (steps (netNew 3) la)=o) {k:Nat} (hk:k < la.length) (h0:(act (ordAt la k).1 la[k]).2=0) (h:la[k].kind=3) :
 ∃ ht:(ordAt la k).2.1.length < o.told.length,(ordAt la (k+1)).2=((ordAt la k).2.1 ++ [⟨o.told[(ordAt la k).2.1.length],(ordAt la k).2.2.getD la[k].c.toNat 0,k⟩],(ordAt la k).2.2):=by
 have hp:=ord_told ho (k:=k+1) hk
 have e:(ordAt la (k+1)).1=(act (ordAt la k).1 la[k]).1:=by show (act (ordAt la k).1 (la.getD k act9)).1=_;rw [getD_at hk]
 have hs:=ord_slen ho (k:=k+1) hk
 have e2:(ordAt la (k+1)).2=((ordAt la k).2.1 ++ [⟨(act (ordAt la k).1 la[k]).1.told.getD (ordAt la k).2.1.length ⟨req0,reply0⟩,(ordAt la k).2.2.getD la[k].c.toNat 0,k⟩],(ordAt la k).2.2):=by
  show ordStep k (ordAt la k).1 (la.getD k act9) (ordAt la k).2.1 (ordAt la k).2.2=_
  rw [getD_at hk]
  unfold ordStep
  rw [if_neg (fun hh=>hh h0),if_neg (by omega),if_pos h]
 rw [e2,List.length_append] at hs
 have ht:(ordAt la k).2.1.length < o.told.length:=hs
 refine ⟨ht,?_⟩
 have hl:(ordAt la k).2.1.length < (act (ordAt la k).1 la[k]).1.told.length:=by
  have h1:=(ordAt_ok la (k+1)).tl
  rw [e2,e] at h1
  rw [← h1]
  simp
 rw [e] at hp
 obtain ⟨z,hz⟩:=hp
 rw [e2]
 have:(act (ordAt la k).1 la[k]).1.told.getD (ordAt la k).2.1.length ⟨req0,reply0⟩=o.told[(ordAt la k).2.1.length]:=by
  rw [List.getD_eq_getElem?_getD,List.getElem?_eq_getElem hl,Option.getD_some]
  simp only [← hz]
  rw [List.getElem_append_left hl]
 rw [this]
theorem ord_end (ho:outOf (steps (netNew 3) la)=o):(ordAt la la.length).2.1.length=o.told.length ∧
 ∀ s ∈ (ordAt la la.length).2.1,∀ s' ∈ (ordAt la la.length).2.1,s.tq < s'.frm→placeOf (committed o.replicas) s.t.request < placeOf (committed o.replicas) s'.t.request:=by
 have hn:=ordAt_net la la.length (Nat.le_refl _)
 rw [List.take_length] at hn
 have Ha:=ordAt_ok la la.length
 subst ho
 rw [hn] at Ha
 constructor
 ·have:=Ha.tl
  show _=(steps (netNew 3) la).1.told.length
  rw [← this,List.length_map]
 intro s hs s' Hb Hc
 exact Ha.final Hb hs Hc
end
end Scu
namespace Go.Proofs.YtnpphdaakookcaaDoor
open Go.RowKit
theorem cell_lt {w:World} {g i:Nat} {u:Value} (h:w.cell? ⟨g,i,none⟩=some u):g < w.heap.size:=by
 rcases Nat.lt_or_ge g w.heap.size with h' | h'
 ·exact h'
 unfold World.cell? at h
 rw [Array.getElem?_eq_none h'] at h
 cases h
theorem acts_at {w:World} {A:Option Addr} {n c:Nat} {l:List Scu.Act} (h:IsActs w (.slice A n c) l) {k:Nat} (hk:k < l.length) {a:Scu.Act} (e:l[k]=a) :
 ∃ g o,A=some ⟨g,o,none⟩∧w.cell? ⟨g,o+k*9,none⟩=some (.int .i64 a.kind)∧w.cell? ⟨g,o+k*9+1,none⟩=some (.int .i64 a.c)∧w.cell? ⟨g,o+k*9+2,none⟩=some (.int .i64 a.r)∧w.cell? ⟨g,o+k*9+3,none⟩=some (.int .i64 a.k)∧w.cell? ⟨g,o+k*9+4,none⟩=some (.int .i64 a.n) ∧
  w.cell? ⟨g,o+k*9+5,none⟩=some (.int .i64 a.op.kind)∧w.cell? ⟨g,o+k*9+6,none⟩=some (.int .i64 a.op.at_)∧w.cell? ⟨g,o+k*9+7,none⟩=some (.int .i64 a.op.snap)∧w.cell? ⟨g,o+k*9+8,none⟩=some (.string a.op.data):=by
 obtain ⟨⟨A',c',css2,e1,_,h2,h3,Hc,h4⟩,_⟩:=h
 cases e1
 obtain ⟨g,o,cs1,rfl,hg,_,Ha,Hb⟩:=zDo h2 h3 (by decide) Hc h4 hk
 rw [e] at Hb
 have e1:cs1=actV a:=Hb
 subst e1
 exact ⟨g,o,rfl,Ha 0 _ rfl,Ha 1 _ rfl,Ha 2 _ rfl,Ha 3 _ rfl,Ha 4 _ rfl,Ha 5 _ rfl,Ha 6 _ rfl,Ha 7 _ rfl,Ha 8 _ rfl⟩
theorem codes_at {w:World} {A:Option Addr} {n c:Nat} {l:List Int} (h:IsOnes 33 8 (Value.int .i64) w 0 (.slice A n c) l) {k:Nat} {f:Int} (e:l[k]? = some f) :
 ∃ g o,A=some ⟨g,o,none⟩∧w.cell? ⟨g,o+k,none⟩=some (.int .i64 f):=by
 obtain ⟨⟨A',c',e1,_,Hb⟩,_⟩:=h
 cases e1
 obtain ⟨hk,he⟩:=List.getElem?_eq_some_iff.1 e
 obtain ⟨g,o,rfl,_,Ha⟩:=zLp Hb hk
 exact ⟨g,o,rfl,by rw [Ha,he]⟩
def spanV (all:List Scu.Str) (s:Scu.Sp):List Value:=[.int .i64 (placeI all s.t.request),.int .i64 s.frm,.int .i64 s.tq]
def SpanE (all:List Scu.Str) (_:World) (_:Nat) (cs:List Value) (s:Scu.Sp):Prop:=cs=spanV all s
theorem el_spans:ElT 77 79 3 24:=by
 obtain ⟨i,h1,h2,h3,h4⟩:=info_parts (P:=Tryd.prog) (e:=79) (z:=.agg #[.int .i64 0,.int .i64 0,.int .i64 0]) (size:=3) (bytes:=24) (by kernel_rfl)
 exact ⟨Tryd.underlying77,by omega,i,_,h1,h2,h3,h4,rfl⟩
theorem one_span (all:List Scu.Str) (s:Scu.Sp):∀ v ∈ spanV all s,v.oneCell'=true:=by
 intro v hv
 simp only [spanV,List.mem_cons,List.not_mem_nil,or_false] at hv
 rcases hv with rfl | rfl | rfl <;> rfl
theorem src_span (W:World) (all:List Scu.Str) (s:Scu.Sp):Src1 (W.alloc (Obj.cells (spanV all s).toArray 79)) 3 (.slice (some ⟨W.heap.size,0,none⟩) 1 1) 1 (spanV all s):=by
 refine ⟨rfl,.inr ⟨_,_,rfl,fun j v hj=>?_⟩⟩
 rw [zKy,(Blk.new W 79 (spanV all s).toArray).cell j]
 simpa using hj
theorem spans_at {w:World} {all:List Scu.Str} {A:Option Addr} {n c:Nat} {l:List Scu.Sp} (h:IsRow 79 3 24 (SpanE all) w 0 (.slice A n c) l) {k:Nat} (hk:k < l.length) {s:Scu.Sp} (e:l[k]=s) :
 ∃ g o,A=some ⟨g,o,none⟩∧w.cell? ⟨g,o+k*3,none⟩=some (.int .i64 (placeI all s.t.request))∧w.cell? ⟨g,o+k*3+1,none⟩=some (.int .i64 s.frm)∧w.cell? ⟨g,o+k*3+2,none⟩=some (.int .i64 s.tq):=by
 obtain ⟨⟨A',c',css2,e1,_,h2,h3,Hc,h4⟩,_⟩:=h
 cases e1
 obtain ⟨g,o,cs1,rfl,hg,_,Ha,Hb⟩:=zDo h2 h3 (by decide) Hc h4 hk
 rw [e] at Hb
 have e1:cs1=spanV all s:=Hb
 subst e1
 exact ⟨g,o,rfl,Ha 0 _ rfl,Ha 1 _ rfl,Ha 2 _ rfl⟩
structure OrdI (w2 wr:World) (la:List Scu.Act) (all:List Scu.Str) (k:Nat) (sv:Value):Prop where
 sp:∃ css,OwnR 79 3 24 (SpanE all) wr (w2.heap.size+1) sv (Scu.ordAt la k).2.1 css
 bg:Blk wr w2.heap.size 3 ((Scu.ordAt la k).2.2.map (Value.int .i64)).toArray
 low:Below w2.heap.size w2 wr
section
variable {w2 wr w':World} {la:List Scu.Act} {all:List Scu.Str} {k:Nat} {sv:Value}
theorem OrdI.below (h:OrdI w2 wr la all k sv) (hb:Below wr.heap.size wr w'):OrdI w2 w' la all k sv :=
 ⟨let ⟨css,h⟩:=h.sp;⟨css,h.same (B:=0) (Ts:=[79]) (by simp) (Same.below hb) (fun _ _ h=>h)⟩,h.bg.same hb,h.low.trans (hb.mono h.low.size)⟩
theorem OrdI.else_ (h:OrdI w2 wr la all k sv) (e:(Scu.ordAt la (k+1)).2=(Scu.ordAt la k).2):OrdI w2 wr la all (k+1) sv :=
 ⟨by rw [e];exact h.sp,by rw [e];exact h.bg,h.low⟩
theorem OrdI.ask (h:OrdI w2 wr la all k sv) {c:Nat} (e:(Scu.ordAt la (k+1)).2=((Scu.ordAt la k).2.1,(Scu.ordAt la k).2.2.set c k)):OrdI w2 (wr.setCell ⟨w2.heap.size,c,none⟩ (.int .i64 k)) la all (k+1) sv:=by
 refine ⟨?_,?_,h.low.setCell (p:=⟨w2.heap.size,c,none⟩) (Nat.le_refl _) _⟩
 ·rw [e]
  obtain ⟨css,hs⟩:=h.sp
  exact ⟨css,hs.same (B:=0) (Ts:=[79]) (by simp) (Same.set_ h.bg (Nat.zero_le _) (by decide) c _) (fun _ _ h=>h)⟩
 rw [e]
 have:=h.bg.set_ c (.int .i64 k)
 rw [List.setIfInBounds_toArray] at this
 rw [List.map_set]
 exact this
theorem OrdI.push {P w4:World} {v4:Value} {s:Scu.Sp} {css:List (List Value)} (h:OrdI w2 P la all k sv) (hf:OwnR 79 3 24 (SpanE all) P (w2.heap.size+1) sv (Scu.ordAt la k).2.1 css)
 (e:(Scu.ordAt la (k+1)).2=((Scu.ordAt la k).2.1 ++ [s],(Scu.ordAt la k).2.2)) (hm:((Scu.ordAt la k).2.1.length+1)*24≤R47)
 (h4:w4.ownsRow (w2.heap.size+1) 79 3 v4 ((Scu.ordAt la k).2.1.length+1) (css.flatten ++ spanV all s)) (hg:P.grownBy w4 sv.ownBlock):OrdI w2 w4 la all (k+1) v4:=by
 have hl:=h.bg.lt
 have hb:Below (w2.heap.size+1) P w4:=(Below.refl _ P).grown hg hl (fun q hq=>(hf.row.lt q hq).1)
 refine ⟨?_,?_,h.low.trans (hb.mono (Nat.le_succ _))⟩
 ·rw [e]
  exact ⟨_,hf.push (w':=w4) (x:=s) (cs:=spanV all s) hm rfl rfl h4 (fun _ _ h=>h)⟩
 rw [e]
 exact h.bg.below hb (Nat.lt_succ_self _)
theorem OrdI.new:OrdI w2 (w2.alloc (Obj.cells #[.int .i64 0,.int .i64 0,.int .i64 0] 3)) la all 0 (.slice none 0 0) :=
 ⟨⟨[],OwnR.nil_⟩,Blk.new _ _ _,zAa _ _⟩
end
open Go.RowKit
theorem lawTopOrder_c (v:Value) (l:List Scu.Raw) (w:World) (h:IsRaws w w.heap.size v l) (ht:Tab w) :
 Calls Tryd.prog 7 #[v] w fun e w'=>e=.returned (.bool true)∧Below w.heap.size w w':=by
 obtain ⟨Al,cl,rfl,Gv⟩:=h.form'
 obtain ⟨la,Vn⟩:∃ la,Scu.rawActs l 280 3=la:=⟨_,rfl⟩
 obtain ⟨o,ho⟩:∃ o,Scu.outOf (Scu.steps (Scu.netNew 3) la)=o:=⟨_,rfl⟩
 have K:=Lib.hid (zRt (.slice Al l.length cl) l 280 w w.heap.size (Nat.le_refl _) h ht (by decide) la Vn o ho)
 have Gl:=Lib.hid (Scu.came_bound ho)
 have Vo:=Lib.hid (fun t (ht:t ∈ o.told)=>(Scu.came_told ho ht).1)
 have Vp:=Lib.hid (fun k (hk:k < la.length)=>Scu.ord_code ho hk)
 have Vq:=Lib.hid (fun k (hk:k < la.length)=>Scu.ord_tell ho hk)
 have Vr:=Lib.hid (fun k (hk:k≤la.length)=>Scu.ord_slen ho hk)
 have Vs:=Lib.hid (fun k (hk:k≤la.length) s hs=>Scu.ord_mem ho hk (s:=s) hs)
 have Kh:=Lib.hid (Scu.ord_end ho)
 have Gm:=Lib.hid (show o.codes.length=la.length by rw [← ho];exact Scu.steps_codes _ _)
 clear h ht Vn ho
 go_enter Tryd.func7,Tryd.ntmps7
 go_wp2_with fail
 refine K.out.mono ?_;rintro e w1 ⟨⟨A,c,A0,c0,A1,c1,A2,c2,A3,c3,A4,c4,A5,c5,rfl,Hx,Hk⟩,h1⟩
 go_upto_region 2 with fail
 have hR:=RanB.made h1 Hx
 have Ki:=Hk.below (zAa w1 (Obj.cells #[.slice A0 o.replicas.length c0,.slice A1 o.slots.length c1,.slice A2 o.flying.length c2,.slice A3 o.clients.length c3,.slice A4 o.told.length c4,.slice A5 o.codes.length c5] 32))
 obtain ⟨Wd,Kc⟩:∃ W,W=w1.alloc (Obj.cells #[.slice A0 o.replicas.length c0,.slice A1 o.slots.length c1,.slice A2 o.flying.length c2,.slice A3 o.clients.length c3,.slice A4 o.told.length c4,.slice A5 o.codes.length c5] 32):=⟨_,rfl⟩
 obtain ⟨g,hg⟩:∃ g,w1.heap.size=g:=⟨_,rfl⟩
 rw [← Kc,hg] at hR
 rw [← Kc] at Ki
 rw [← Kc,hg]
 obtain ⟨b0,b1,b2,b3,b4,b5⟩:=cz6 hR.box
 have HR:=Lib.hid hR
 have Vt:=Lib.hid Ki
 clear hR Kc hg h1 Hx Hk Ki K
 go_wp2_with fail
 refine (zBo _ _ _ _ _ _ o.replicas Wd HR.out.out.reps Gl.out rfl rfl rfl rfl rfl).mono ?_;rintro e w2 ⟨⟨A6,c6,rfl,Hq⟩,h2⟩
 obtain ⟨all,Ha⟩:∃ all,Scu.committed o.replicas=all:=⟨_,rfl⟩
 have Vu:=Lib.hid (fun t (ht:t ∈ o.told)=>show placeI all t.request=(Scu.placeOf all t.request:Int) by
  have:=Vo.out t ht
  rw [Ha] at this
  unfold placeI
  rw [if_pos this])
 rw [Ha] at Hq Kh
 rw [Ha]
 have Hr:=Lib.hid (HR.out.below h2)
 have Hy:=Lib.hid (Vt.out.below h2)
 have Kj:=Lib.hid Hq
 obtain ⟨-,-,-,-,d4,d5⟩:=cz6 Hr.out.box
 have Kk:=Hr.out.out.told.len
 unfold R47 at Kk
 have Kl:=Hy.out.len
 unfold R47 at Kl
 have Kd:g < w2.heap.size:=Hr.out.box.lt
 have Vv:=zTf w2
 clear b0 b1 b2 b3 b4 b5 HR Vt h2 Hq Ha Vo
 go_wp2_with fail
 have Gn:=Lib.hid Vv
 clear Vv
 go_loopw [7,9,29] (fun sv tv i wr=>∃ k:Nat,k≤la.length∧tv=.int .i64 ((Scu.ordAt la k).2.1.length:Nat)∧i=.int .i64 k∧Hid (OrdI w2 wr la all k sv)) (fun _ _ i _=>la.length - (intOf i).toNat)
 case atStart=>exact ⟨0,Nat.zero_le _,rfl,rfl,Lib.hid OrdI.new⟩
 case round =>
  obtain ⟨k,hk,rfl,rfl,HK⟩:=hrel
  by_cases Hu:k < la.length
  ·have Km:(k:Int) < (la.length:Int):=by omega
   obtain ⟨a,ha⟩:∃ a,la[k]=a:=⟨_,rfl⟩
   obtain ⟨f,hf⟩:∃ f,(Scu.act (Scu.ordAt la k).1 la[k]).2=f:=⟨_,rfl⟩
   have Kn:=Vp.out k Hu
   rw [hf] at Kn
   obtain ⟨ga,oa,rfl,p0,p1,p2,p3,p4,p5,p6,p7,p8⟩:=acts_at (Hy.out.below HK.out.low) Hu ha
   obtain ⟨gc,oc,rfl,pc⟩:=codes_at (Hr.out.out.codes) Kn
   have Go:=cell_lt pc
   have Ha:=zAa wr (Obj.cells #[.int .i64 a.kind,.int .i64 a.c,.int .i64 a.r,.int .i64 a.k,.int .i64 a.n,.int .i64 a.op.kind,.int .i64 a.op.at_,.int .i64 a.op.snap,.string a.op.data] 40)
   have He:=Blk.new wr 40 #[.int .i64 a.kind,.int .i64 a.c,.int .i64 a.r,.int .i64 a.k,.int .i64 a.n,.int .i64 a.op.kind,.int .i64 a.op.at_,.int .i64 a.op.snap,.string a.op.data]
   have Hd:=Lib.hid (HK.out.below Ha)
   have Gw:(k:Int) < (o.codes.length:Int):=by rw [Gm.out];omega
   have Ko:=Lib.hid (Scu.ord_else (la:=la) Hu)
   have Kp:=Lib.hid (Scu.ord_in (la:=la) Hu)
   have Vw:=Lib.hid (Scu.ord_ask (la:=la) Hu)
   have Vx:=Lib.hid (Vq.out k Hu)
   rw [hf,ha] at Ko Kp Vw Vx
   have Gx:=Lib.hid (Vr.out k hk)
   have Vy:=Lib.hid (Scu.ord_blen la k)
   clear Kn ha hf
   go_upto_region 11 with fail
   obtain ⟨Wq,Hi⟩:∃ W,W=wr.alloc (Obj.cells #[.int .i64 a.kind,.int .i64 a.c,.int .i64 a.r,.int .i64 a.k,.int .i64 a.n,.int .i64 a.op.kind,.int .i64 a.op.at_,.int .i64 a.op.snap,.string a.op.data] 40):=⟨_,rfl⟩
   obtain ⟨gq,Hs⟩:∃ g,wr.heap.size=g:=⟨_,rfl⟩
   rw [← Hi,Hs] at He
   rw [← Hi] at Hd
   rw [← Hi,Hs]
   obtain ⟨x0,x1⟩:=cz2 He
   have e5:=cW Hd.out.low Kd d5
   have e4:=cW Hd.out.low Kd d4
   have ec:=cW Hd.out.low Go pc
   have Kq:=Lib.hid He
   clear Hi Hs He Ha p0 p1 p2 p3 p4 p5 p6 p7 p8 pc
   by_cases Hf:f=0
   ·have Gp:(f != 0)=false:=by simp [Hf]
    by_cases Hl:a.kind=1
    ·have Kr:(a.kind == 1)=true:=by simp [Hl]
     have Hz:=Kp.out Hf (.inl Hl)
     obtain ⟨cn,Hm⟩:∃ cn:Nat,a.c=cn:=⟨a.c.toNat,by omega⟩
     have Hb:=Vw.out Hf Hl
     rw [Hm,Int.toNat_natCast] at Hb
     rw [Hm] at Hz x1
     have Ks:cn < 3:=by omega
     have Kt:(cn:Int) < 3:=by omega
     have Ku:(0:Int)≤(cn:Int):=by omega
     have HN:=Lib.hid (Hd.out.ask Hb)
     have Hg:=Lib.hid Hb
     have Vz:Wq.cell? ⟨w2.heap.size,cn,none⟩=some (.int .i64 ((Scu.ordAt la k).2.2[cn]'(by rw [Vy.out];exact Ks))):=by
      rw [Hd.out.bg.cell cn]
      simp
     have Gy:=Hd.out.bg.frozen cn
     have Gz:=Hd.out.bg.lt
     clear Hb Hm Hl Hf Hz
     go_wp2_with fail
     go_roundw
     case rel=>first | exact ⟨k+1,by omega,by rw [Hg.out],rfl,HN⟩ | ((repeat apply Exists.intro);exact ⟨⟨k+1,by omega,by rw [Hg.out],rfl,HN⟩,rfl⟩)
     case measure=>first | (simp only [intOf];omega) | (simp [intOf];omega)
    have Kr:(a.kind == 1)=false:=by simp [Hl]
    by_cases Ht:a.kind=3
    ·have Kv:(a.kind == 3)=true:=by simp [Ht]
     have Hz:=Kp.out Hf (.inr Ht)
     obtain ⟨cn,Hm⟩:∃ cn:Nat,a.c=cn:=⟨a.c.toNat,by omega⟩
     obtain ⟨Ga,Hb⟩:=Vx.out Hf Ht
     rw [Hm,Int.toNat_natCast] at Hb
     rw [Hm] at Hz x1
     have Kw:=Kq.out
     rw [Hm] at Kw
     have Gb:=Lib.hid Kw
     have Ks:cn < 3:=by omega
     have Kt:(cn:Int) < 3:=by omega
     have Ku:(0:Int)≤(cn:Int):=by omega
     obtain ⟨t,ht⟩:∃ t,o.told[(Scu.ordAt la k).2.1.length]=t:=⟨_,rfl⟩
     rw [ht] at Hb
     obtain ⟨gt,ot,rfl,p0,p1,p2,p3,p4,p5,p6,p7,p8⟩:=zXh Hr.out.out.told Ga ht
     have Hv:=cell_lt p0
     obtain ⟨bv,Kx⟩:∃ bv,(Scu.ordAt la k).2.2.getD cn 0=bv:=⟨_,rfl⟩
     rw [Kx] at Hb
     have Vz:((Scu.ordAt la k).2.2.map (Value.int .i64)).toArray[cn]? = some (.int .i64 bv):=by
      rw [← Kx]
      simp [List.getD_eq_getElem?_getD,List.getElem?_eq_getElem (show cn < (Scu.ordAt la k).2.2.length by rw [Vy.out];exact Ks)]
     obtain ⟨css0,Ka⟩:=Hd.out.sp
     obtain ⟨As,cs,rfl⟩:=Ka.form
     obtain ⟨j,hj⟩:∃ j,(Scu.ordAt la k).2.1.length=j:=⟨_,rfl⟩
     rw [hj] at p0 p1 p2 p3 p4 p5 Ga ⊢
     have Na:(j:Int) < (o.told.length:Int):=by omega
     have Nb:¬ ((o.told.length:Int)≤(j:Int)):=by omega
     have Nc:IntKind.i64.wrap ((j:Int)+1)=((j+1:Nat):Int):=by rw [IntWalk.i64_in _ (by omega)];omega
     have HJ:=Lib.hid hj
     have Ky:=Lib.hid Hb
     have Kz:=Lib.hid (show (j+1)≤maxLen∧(j+1)*24≤140737488355328∧(j+1)*24≤R47 from ⟨by unfold maxLen;omega,by omega,by unfold R47;omega⟩)
     clear Hb Hm Hl Hf Hz Ht ht hj Kx Ka Kw p6 p7 p8
     go_wp2_with fail
     obtain ⟨S,Hn⟩:∃ S:World→Prop,S=fun w'=>Below w2.heap.size w2 w'∧Blk w' w2.heap.size 3 ((Scu.ordAt la k).2.2.map (Value.int .i64)).toArray∧Blk w' gq 40 #[.int .i64 a.kind,.int .i64 (cn:Int),.int .i64 a.r,.int .i64 a.k,.int .i64 a.n,.int .i64 a.op.kind,.int .i64 a.op.at_,.int .i64 a.op.snap,.string a.op.data]:=⟨_,rfl⟩
     have Hh:S Wq.drew:=by rw [Hn];exact ⟨Hd.out.low.drew,Hd.out.bg.drew,Gb.out.drew⟩
     refine wp_region_held (S:=S) (by kernel_rfl) ?_
     change wpAnyH _ _ _ _ _ _ _ _ Wq.drew
     have HX:=fun (wv:World) (Hc:Below w2.heap.size w2 wv∧Blk wv w2.heap.size 3 ((Scu.ordAt la k).2.2.map (Value.int .i64)).toArray∧Blk wv gq 40 #[.int .i64 a.kind,.int .i64 (cn:Int),.int .i64 a.r,.int .i64 a.k,.int .i64 a.n,.int .i64 a.op.kind,.int .i64 a.op.at_,.int .i64 a.op.snap,.string a.op.data])=>And.intro (cW Hc.1 Kd d4) (And.intro (cW Hc.1 Hv p0) (And.intro (cW Hc.1 Hv p1) (And.intro (cW Hc.1 Hv p2) (And.intro (cW Hc.1 Hv p3) (And.intro (cW Hc.1 Hv p4) (And.intro (cW Hc.1 Hv p5) (And.intro (cz2 Hc.2.2).2 ((Hc.2.1.cell cn).trans Vz))))))))
     clear x0 x1 e5 e4 ec
     refine tkHs [0,1,2,3,4,5,6,7,9,10,11,12,13,14] (by kernel_rfl) (fun _ _ _ _ _ h=>h) Hh ?_
     iterate 14
      refine tkc (v:=?_) rfl (Or.inl ⟨by rfl,?_⟩) ?_
      rotate_left
      ·(intro wv Hc;rw [Hn] at Hc;obtain ⟨q0,q1,q2,q3,q4,q5,q6,q7,q8⟩:=HX wv Hc;go_simp;(try with_reducible rfl))
      (try simp only [Act.put,zp1,zp2,zp3])
     refine tkz ?_
     refine alH 8 (by kernel_rfl) (wpOp_step (o:=_) rfl fun KS Gc=>?_)
     go_simp
     have dd:Below Wq.heap.size Wq Wq.drew:=(Below.refl _ _).drew
     refine (yAj _ all _ 0 ((Kj.out.below Hd.out.low).below dd) t.request).mono ?_;rintro e6 x5 ⟨rfl,h5⟩
     have k5:=dd.trans (h5.mono dd.size)
     have Va:=Lib.hid (Hd.out.below k5)
     have Gd:=Lib.hid (Gb.out.same k5)
     have Hh:S x5:=by rw [Hn];exact ⟨Va.out.low,Va.out.bg,Gd.out⟩
     refine Gc _ _ ⟨Hh,?_⟩
     clear dd h5 k5 Gc
     (try simp only [Act.put,zp1,zp2,zp3])
     refine tkHs [15] (by kernel_rfl) (fun _ _ _ _ _ h=>h) Hh ?_
     iterate 1
      refine tkc (v:=?_) rfl (Or.inl ⟨by rfl,?_⟩) ?_
      rotate_left
      ·(intro wv Hc;rw [Hn] at Hc;obtain ⟨q0,q1,q2,q3,q4,q5,q6,q7,q8⟩:=HX wv Hc;go_simp;(try with_reducible rfl))
      (try simp only [Act.put,zp1,zp2,zp3])
     refine tkz ?_
     refine alH 16 (by kernel_rfl) (wpOp_step (o:=_) rfl fun KB Ge=>?_)
     go_simp
     have Ha:=zAa x5 (Obj.cells (spanV all ⟨t,bv,k⟩).toArray 79)
     have Hw:=Va.out.below Ha
     have Vb:=Gd.out.same Ha
     obtain ⟨css,Ho⟩:=Hw.sp
     have Hj:=Ho.row
     rw [HJ.out] at Hj
     have Hh:S (x5.alloc (Obj.cells (spanV all ⟨t,bv,k⟩).toArray 79)):=by rw [Hn];exact ⟨Hw.low,Hw.bg,Vb⟩
     refine Ge _ _ ⟨Hh,?_⟩
     (try simp only [Act.put,zp1,zp2,zp3])
     refine alH 17 (by kernel_rfl) (wpOp_step (o:=_) rfl fun KC Gf=>?_)
     rw [if_pos (by rfl)]
     refine zHt _ (.tmp 59) (.tmp 75) 77 rfl el_spans (w2.heap.size+1) (.slice As j cs) j css.flatten rfl Hj (.slice (some ⟨x5.heap.size,0,none⟩) 1 1) 1 (spanV all ⟨t,bv,k⟩) rfl (src_span x5 all ⟨t,bv,k⟩) (one_span all ⟨t,bv,k⟩) Kz.out.1 Kz.out.2.1 Hw.bg.lt ?_
     intro v9 x9 h9 Vc _
     have hn:=Hw.push Ho Ky.out (by rw [HJ.out];exact Kz.out.2.2) (by rw [HJ.out];exact h9) (by rw [HJ.out];exact Vc)
     have Vd:=hn.bg
     rw [Ky.out] at Vd
     have Hh:S x9:=by rw [Hn];exact ⟨hn.low,Vd,zAc Vb (Same.own (Ts:=[40]) Hj Vc (Nat.zero_le _) (by decide)) (by simp)⟩
     obtain ⟨A9,c9,rfl,_,_,_,_⟩:=zAg h9
     refine Gf _ _ ⟨Hh,?_⟩
     have HN:=Lib.hid hn
     clear hn Vd h9 Vc Ho Hj Hw Vb Ha Gf Ge
     (try simp only [Act.put,zp1,zp2,zp3])
     refine tkHs [18] (by kernel_rfl) (fun _ _ _ _ _ h=>h) Hh ?_
     iterate 1
      refine tkc (v:=?_) rfl (Or.inl ⟨by rfl,?_⟩) ?_
      rotate_left
      ·(intro wv Hc;rw [Hn] at Hc;obtain ⟨q0,q1,q2,q3,q4,q5,q6,q7,q8⟩:=HX wv Hc;go_simp;(try with_reducible rfl))
      (try simp only [Act.put,zp1,zp2,zp3])
     refine tkz ?_
     refine wpAnyH_done (by kernel_rfl) ?_ _
     change Exit.then _ _ _ _ x9
     have Hg:=Lib.hid (show ((Scu.ordAt la (k+1)).2.1.length:Nat)=j+1 by rw [Ky.out,List.length_append,HJ.out];rfl)
     clear Hh Hn HX d4 d5 p0 p1 p2 p3 p4 p5
     go_wp2_with fail
     go_roundw
     case rel=>first | exact ⟨k+1,by omega,by rw [Hg.out];rfl,rfl,HN⟩ | ((repeat apply Exists.intro);exact ⟨⟨k+1,by omega,by rw [Hg.out];rfl,rfl,HN⟩,rfl⟩)
     case measure=>first | (simp only [intOf];omega) | (simp [intOf];omega)
    have Kv:(a.kind == 3)=false:=by simp [Ht]
    have Hb:=Ko.out (.inr ⟨Hl,Ht⟩)
    have HN:=Lib.hid (Hd.out.else_ Hb)
    have Hg:=Lib.hid Hb
    clear Hb Hl Ht Hf
    go_wp2_with fail
    go_roundw
    case rel=>first | exact ⟨k+1,by omega,by rw [Hg.out],rfl,HN⟩ | ((repeat apply Exists.intro);exact ⟨⟨k+1,by omega,by rw [Hg.out],rfl,HN⟩,rfl⟩)
    case measure=>first | (simp only [intOf];omega) | (simp [intOf];omega)
   have Gp:(f != 0)=true:=by simp [Hf]
   have Hb:=Ko.out (.inl Hf)
   have HN:=Lib.hid (Hd.out.else_ Hb)
   have Hg:=Lib.hid Hb
   clear Hb Hf
   go_wp2_with fail
   go_roundw
   case rel=>first | exact ⟨k+1,by omega,by rw [Hg.out],rfl,HN⟩ | ((repeat apply Exists.intro);exact ⟨⟨k+1,by omega,by rw [Hg.out],rfl,HN⟩,rfl⟩)
   case measure=>first | (simp only [intOf];omega) | (simp [intOf];omega)
  have Km:¬ (k:Int) < (la.length:Int):=by omega
  have Gq:k=la.length:=by omega
  subst Gq
  obtain ⟨S,hS⟩:∃ S,(Scu.ordAt la la.length).2.1=S:=⟨_,rfl⟩
  obtain ⟨css,Ho⟩:=HK.out.sp
  have Ve:=Vs.out la.length (Nat.le_refl _)
  have Ke:=Kh.out
  rw [hS] at Ho Ve Ke ⊢
  obtain ⟨As,cs,rfl⟩:=Ho.form
  have Vf:=Ho.is
  have Vg:=Vf.len
  unfold R47 at Vg
  have Gg:=Lib.hid Vf
  have HF:=Lib.hid (Hr.out.low.trans (HK.out.low.mono Hr.out.low.size))
  have Gi:=Lib.hid (fun s hs=>Vu.out s.t (Ve s hs))
  have Gr:=Lib.hid Ke.2
  have Nd:((S.length:Int) == (o.told.length:Int))=true:=by simp [Ke.1]
  have Gj:=Lib.hid HK.out.low
  have Gs:=Gj.out.size
  clear Ho Ve Ke hS Vf HK Kh Vs Vp Vq Vr Vu Gn d5
  go_wp2_with fail
  go_loopw [82] (fun i wx=>∃ m:Nat,m≤S.length∧i=.int .i64 m∧Hid (Below wr.heap.size wr wx)) (fun i _=>S.length - (intOf i).toNat)
  case atStart=>exact ⟨0,Nat.zero_le _,rfl,Lib.hid (Below.refl _ _)⟩
  case round =>
   obtain ⟨m,hm,rfl,HM⟩:=hrel
   by_cases hmt:m < S.length
   ·have Vh:(m:Int) < (S.length:Int):=by omega
    obtain ⟨s,hs⟩:∃ s,S[m]=s:=⟨_,rfl⟩
    have Vi:=List.getElem_mem hmt
    rw [hs] at Vi
    have Gk:=Lib.hid Vi
    obtain ⟨gs,os,rfl,p0,p1,p2⟩:=spans_at (IsRow.same Gg.out (Ts:=[79]) (by simp) (Same.below HM.out) (fun _ _ h=>h)) hmt hs
    have Ha:=zAa wr (Obj.cells #[.int .i64 (placeI all s.t.request),.int .i64 s.frm,.int .i64 s.tq] 79)
    have He:=Blk.new wr 79 #[.int .i64 (placeI all s.t.request),.int .i64 s.frm,.int .i64 s.tq]
    have Kb:=Lib.hid (HM.out.trans (Ha.mono HM.out.size))
    clear hs Vi
    go_upto_region 23 with fail
    obtain ⟨Wq,Hi⟩:∃ W,W=wr.alloc (Obj.cells #[.int .i64 (placeI all s.t.request),.int .i64 s.frm,.int .i64 s.tq] 79):=⟨_,rfl⟩
    obtain ⟨gq,Hs⟩:∃ g,wr.heap.size=g:=⟨_,rfl⟩
    rw [← Hi,Hs] at He
    rw [← Hi] at Kb
    rw [← Hi,Hs]
    have Kq:=Lib.hid He
    clear Hi Hs He Ha p0 p1 p2
    go_wp2_with fail
    go_loopw [88] (fun i wx=>∃ n:Nat,n≤S.length∧i=.int .i64 n∧Hid (Below Wq.heap.size Wq wx)) (fun i _=>S.length - (intOf i).toNat)
    case atStart=>exact ⟨0,Nat.zero_le _,rfl,Lib.hid (Below.refl _ _)⟩
    case round =>
     obtain ⟨n,hn,rfl,HN⟩:=hrel
     by_cases hnt:n < S.length
     ·have Vj:(n:Int) < (S.length:Int):=by omega
      obtain ⟨x,hx⟩:∃ x,S[n]=x:=⟨_,rfl⟩
      have Kf:=List.getElem_mem hnt
      rw [hx] at Kf
      have Gt:=Lib.hid (Kb.out.trans (HN.out.mono Kb.out.size))
      obtain ⟨gs',os',ee,p0,p1,p2⟩:=spans_at (IsRow.same Gg.out (Ts:=[79]) (by simp) (Same.below Gt.out) (fun _ _ h=>h)) hnt hx
      obtain ⟨rfl,rfl⟩:gs=gs'∧os=os':=by cases ee;exact ⟨rfl,rfl⟩
      have Ha:=zAa wr (Obj.cells #[.int .i64 (placeI all x.t.request),.int .i64 x.frm,.int .i64 x.tq] 79)
      have Vk:=Blk.new wr 79 #[.int .i64 (placeI all x.t.request),.int .i64 x.frm,.int .i64 x.tq]
      have He:=(Kq.out.same HN.out).same Ha
      have Hp:=Lib.hid (HN.out.trans (Ha.mono HN.out.size))
      have Vl:=Lib.hid (fun hc:s.tq < x.frm=>show ¬ placeI all x.t.request≤placeI all s.t.request by
       have:=Gr.out s Gk.out x Kf hc
       rw [Gi.out s Gk.out,Gi.out x Kf]
       omega)
      clear hx Kf ee
      go_upto_region 26 with fail
      obtain ⟨Wy,Kg⟩:∃ W,W=wr.alloc (Obj.cells #[.int .i64 (placeI all x.t.request),.int .i64 x.frm,.int .i64 x.tq] 79):=⟨_,rfl⟩
      obtain ⟨gy,Vm⟩:∃ g,wr.heap.size=g:=⟨_,rfl⟩
      rw [← Kg,Vm] at Vk
      rw [← Kg] at Hp He
      rw [← Kg,Vm]
      obtain ⟨x0,x1,x2⟩:=cz3 He
      obtain ⟨y0,y1,y2⟩:=cz3 Vk
      clear Kg Vm Ha p0 p1 p2 He Vk
      by_cases hc:s.tq < x.frm
      ·have Ne:¬ placeI all x.t.request≤placeI all s.t.request:=Vl.out hc
       clear Vl
       go_wp2_with fail
       go_roundw
       case rel=>first | exact ⟨n+1,by omega,rfl,Hp⟩ | ((repeat apply Exists.intro);exact ⟨⟨n+1,by omega,rfl,Hp⟩,rfl⟩)
       case measure=>first | (simp only [intOf];omega) | (simp [intOf];omega)
      clear Vl
      go_wp2_with fail
      go_roundw
      case rel=>first | exact ⟨n+1,by omega,rfl,Hp⟩ | ((repeat apply Exists.intro);exact ⟨⟨n+1,by omega,rfl,Hp⟩,rfl⟩)
      case measure=>first | (simp only [intOf];omega) | (simp [intOf];omega)
     have Vj:¬ (n:Int) < (S.length:Int):=by omega
     have Hp:=Lib.hid (Kb.out.trans (HN.out.mono Kb.out.size))
     go_wp2_with fail
     go_roundw
     case rel=>first | exact ⟨m+1,by omega,rfl,Hp⟩ | ((repeat apply Exists.intro);exact ⟨⟨m+1,by omega,rfl,Hp⟩,rfl⟩)
     case measure=>first | (simp only [intOf];omega) | (simp [intOf];omega)
   have Vh:¬ (m:Int) < (S.length:Int):=by omega
   have q4:=cW (Gj.out.trans (HM.out.mono Gs)) Kd d4
   have Gu:=Lib.hid (HF.out.trans (HM.out.mono HF.out.size))
   go_wp2
   go_ret
   exact ⟨rfl,Gu.out⟩
theorem lawTopOrder_w (v:Value) (l:List Scu.Raw) {w:World} (h:IsRaws w w.heap.size v l) (W:World) (hW:W=w) (ht:Tab W) :
 Calls Tryd.prog 7 #[v] W fun e w'=>e=.returned (.bool true)∧Below W.heap.size W w':=by
 subst hW
 exact lawTopOrder_c v l W h ht
end Go.Proofs.YtnpphdaakookcaaDoor
namespace Go.Proofs.YtnpphdaakookcaaDoor.topOrderDone
open Go.ChangeShapes Go.WideShapes Go.ChangeAt Go.RowKit
open Go.ChangeMaps (open_string shut_string)
theorem own : ownKnob Tryd.prog.godebug = none := by kernel_rfl
theorem laidOut : laidOutB Tryd.prog = true := by kernel_rfl
set_option maxRecDepth 100000 in
theorem lifted (os : Os) (started : os.Started) (H : Type) (enc : TypeId × Value → H) :
    ReturnsInHanded {} Tryd.checked os 7 .any (fun w args => (Rows.topOrderSpec.pre enc Tryd.prog Tryd.f7 [] false w args ∧ laidMetH Tryd.prog Rows.topOrderRow.laid w) ∧ sizedMet enc Tryd.prog Tryd.f7 (OpenSpec.ofChange Rows.topOrderSpec) false w args)
      (Rows.topOrderSpec.post enc Tryd.prog Tryd.f7 false true false false) := by
  refine returnsInHanded_of_change_and (C := Tryd.checked) (X := fun w _ => laidMetH Tryd.prog Rows.topOrderRow.laid w) (fun _ _ _ hh h => h.of_heap hh) own started (by kernel_rfl) Tryd.func7
    (ChangeSpec.witness_shaped (enc := enc) (C := Tryd.checked) (os := os) (X := fun w _ => laidMetH Tryd.prog Rows.topOrderRow.laid w) false (World.doorLaid Tryd.prog doorFuel os) #[.slice none 0 0] 8 rfl (zCs os _) (by kernel_rfl) (by kernel_rfl) (by kernel_rfl) (zFu os _)) ?_
  intro W base args ds gs before hval0 hW _ hsz hL _
  have htab := zKz hL
  have hwt0 : ∀ (j : Nat) (t : TypeId) (d : DataW H), (Tryd.f7.params.toList ++ Rows.topOrderSpec.plain.varTypes Tryd.prog)[j]? = some t → (ds ++ gs)[j]? = some d → ∀ k ∈ d.weights Tryd.prog t, k ≤ reachBytes := fun j t d ht hd k hk => by
    have := List.all_eq_true.1 hsz k (DataW.weights_mem_each ht hd k hk)
    simpa using this
  clear hsz hL
  have hwt := hwt0
  rw [Tryd.params7] at hwt
  have hval : ∀ (j : Nat) t v, Tryd.f7.params[j]? = some t → args[j]? = some v → Value.okWide Tryd.prog W .any base t v := hval0
  have hW' := hW
  obtain ⟨p, q, hA0, hV, rfl, hfz, hnd⟩ := hW
  have hA : DataW.TrodAll enc Tryd.prog W 0 (fun _ => true) true Tryd.f7.params.toList args.toList ds p := hA0
  rw [Tryd.params7] at hA hval
  obtain ⟨v0, vs0, d0, ds0, p0, q0, hargs, rfl, rfl, h0, r0⟩ := trodAll_cons hA
  obtain ⟨rfl, rfl, rfl⟩ := trodAll_nil r0
  obtain rfl : args = #[v0] := by cases args; simp_all
  obtain ⟨rfl, rfl⟩ := trodVars_none hV
  have k0 := h0
  have lt0 : ∀ x ∈ p0, x.block < W.heap.size := by obtain ⟨m, hm⟩ := k0; exact DataW.trod_lt m _ _ _ hm
  obtain ⟨a0, w0⟩ := zDh (hval 0 22 v0 rfl rfl) h0 (hwt 0 22 d0 rfl rfl)
  clear hA0 hval0
  refine (lawTopOrder_w v0 a0 w0 W rfl htab).mono fun e W' ⟨he, bel⟩ => ?_
  subst he
  exact ⟨_, rfl, _, _, _, [], _, [], hW', trodAll_mk1 (shut_bool Tryd.underlying4 _), (trodAll_cons_mk (Below.trod laidOut (by kernel_rfl) (of_decide_eq_true (by kernel_rfl)) k0 bel lt0) trodAll_mk0), rfl, bel.frame _, fun h => by cases h⟩
theorem over : Rows.TopOrderSaid :=
  OpenClaim.holds_of_wide 7 Tryd.f7 rfl rfl rfl rfl rfl rfl rfl ⟨rfl, rfl, rfl, rfl, rfl⟩ rfl rfl rfl rfl rfl (by kernel_rfl) Tryd.func7 (zFt rfl rfl rfl rfl rfl rfl (by as_aux_lemma => kernel_rfl) (by as_aux_lemma => kernel_rfl) (by as_aux_lemma => kernel_rfl) (by as_aux_lemma => kernel_rfl) (by as_aux_lemma => kernel_rfl) (by as_aux_lemma => kernel_rfl) (by as_aux_lemma => kernel_rfl))
    (of_decide_eq_true (by kernel_rfl)) (by unfold Func.isWrapper; first | (rw [if_pos (by decide +kernel)]; kernel_rfl) | (rw [if_neg (by decide +kernel)]; exact ⟨rfl, rfl⟩))
    (fun os started H enc _ => lifted os started H enc)
theorem proved : Rows.TopOrderCardSaid :=
  Claim7.holds_tied_plain_at .later [] [.data, .data, .data] true Rows.topOrderCard.stood.harness false
    over (fun _ h => by cases h) (by kernel_rfl) (fun _ h => by cases h) topOrder_row_tie rfl ⟨rfl, rfl⟩ (by kernel_rfl) rfl
    (fun f fn hf hfn => by
      obtain rfl : f = 7 := Option.some.inj ((show Tryd.prog.funcNamed Rows.topOrderRow.func = some 7 by kernel_rfl).symm.trans hf) |>.symm
      obtain rfl : fn = Tryd.f7 := (Option.some.inj (Tryd.func7.symm.trans hfn)).symm
      exact ⟨by kernel_rfl, fun j t ht => by
        rw [Tryd.params7] at ht
        have hm : t ∈ [22] := by simpa using Array.mem_of_getElem? ht
        have hall : ([22].all fun u => !Tryd.prog.wantsStandIn u) = true := by kernel_rfl
        exact (show Tryd.prog.wantsStandIn t = false by simpa using List.all_eq_true.1 hall t hm)⟩)
    (by kernel_rfl)
end Go.Proofs.YtnpphdaakookcaaDoor.topOrderDone
