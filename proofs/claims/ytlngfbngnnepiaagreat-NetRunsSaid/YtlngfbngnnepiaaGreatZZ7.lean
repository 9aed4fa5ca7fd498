/- Part 7: words and walks under the laws of the whole. -/
import Derived.Test.YtlngfbngnnepiaaGreatZZ6
set_option linter.unusedVariables false
set_option linter.unusedSimpArgs false
set_option maxHeartbeats 4000000
set_option maxRecDepth 100000
namespace Go.Proofs.YtlngfbngnnepiaaGreat
open Go.RowKit
def OwnStrs (w:World) (base:Nat) (v:Value) (xs:List Scu.Str):Prop:=w.ownsRow base 9 1 v xs.length (xs.map Value.string)/\xs.length*16<=R47/\∀ s ∈ xs,s.size<=R47
theorem OwnStrs.is {w:World} {base:Nat} {v:Value} {xs:List Scu.Str} (h:OwnStrs w base v xs):IsStrs w 0 v xs:=zCn h.1 h.2.1 h.2.2
theorem OwnStrs.form {w:World} {base:Nat} {v:Value} {xs:List Scu.Str} (h:OwnStrs w base v xs):∃ A n c,v=.slice A n c:=h.is.form
theorem OwnStrs.below {w w':World} {base:Nat} {v:Value} {xs:List Scu.Str} (h:OwnStrs w base v xs) (hb:Below w.heap.size w w'):OwnStrs w' base v xs:=⟨zAg h.1 hb,h.2.1,h.2.2⟩
theorem OwnStrs.alloc {w:World} {base:Nat} {v:Value} {xs:List Scu.Str} (h:OwnStrs w base v xs) (o:Obj):OwnStrs (w.alloc o) base v xs:=h.below (zAa w o)
theorem OwnStrs.base_ {w:World} {base base':Nat} {v:Value} {xs:List Scu.Str} (h:OwnStrs w base v xs) (hb:base'<=base):OwnStrs w base' v xs:=⟨zAl h.1 hb,h.2.1,h.2.2⟩
theorem OwnStrs.set_ {w:World} {base:Nat} {v:Value} {xs:List Scu.Str} (h:OwnStrs w base v xs) {g i:Nat} {t:TypeId} {cs:Array Value} (hb:Blk w g t cs) (Ha:t≠9) (u:Value):OwnStrs (w.setCell ⟨g,i,none⟩ u) base v xs:=⟨zFm h.1 hb Ha u,h.2.1,h.2.2⟩
theorem zCq {w w':World} {Ts:List TypeId} {B base:Nat} {e:TypeId} {size n:Nat} {v:Value} {xs:List Value} (h:w.ownsRow base e size v n xs) (ht:e ∈ Ts) (hs:Same Ts B w w'):w'.ownsRow base e size v n xs:=by
 obtain ⟨h1,h2 | ⟨g,cap,cur,rfl,h3,h4,h5⟩⟩:=h
 ·exact ⟨h1,.inl h2⟩
 have Ha:g < w.heap.size:=by
  rcases Nat.lt_or_ge g w.heap.size with Ha | Hb
  ·exact Ha
  rw [Array.getElem?_eq_none Hb] at h4;cases h4
 have:=hs.keep g Ha (.inr ⟨_,_,_,ht,h4⟩);exact ⟨h1,.inr ⟨g,cap,cur,rfl,h3,by rw [this];exact h4,h5⟩⟩
theorem OwnStrs.same {w w':World} {B base:Nat} {v:Value} {xs:List Scu.Str} (h:OwnStrs w base v xs) (hs:Same [9] B w w'):OwnStrs w' base v xs:=⟨zCq h.1 (by simp) hs,h.2.1,h.2.2⟩
theorem Same.sets5 {Ts:List TypeId} {B g:Nat} {w:World} {t:TypeId} {cs:Array Value} (hb:Blk w g t cs) (hB:B<=g) (ht:t ∉ Ts) (a b c d e:Value) :
 Same Ts B w (((((w.setCell ⟨g,0,none⟩ a).setCell ⟨g,1,none⟩ b).setCell ⟨g,2,none⟩ c).setCell ⟨g,3,none⟩ d).setCell ⟨g,4,none⟩ e) :=
 ((((Same.set_ hb hB ht 0 a).trans (Same.set_ (hb.set_ 0 a) hB ht 1 b)).trans (Same.set_ ((hb.set_ 0 a).set_ 1 b) hB ht 2 c)).trans (Same.set_ (((hb.set_ 0 a).set_ 1 b).set_ 2 c) hB ht 3 d)).trans (Same.set_ ((((hb.set_ 0 a).set_ 1 b).set_ 2 c).set_ 3 d) hB ht 4 e)
theorem zAn {B g:Nat} {w w1:World} {a b c d e:Value} (h:Below B w w1) (hg:B<=g) :
 Below B w (((((w1.setCell ⟨g,0,none⟩ a).setCell ⟨g,1,none⟩ b).setCell ⟨g,2,none⟩ c).setCell ⟨g,3,none⟩ d).setCell ⟨g,4,none⟩ e) :=
 ((((h.setCell (p:=⟨g,0,none⟩) hg _).setCell (p:=⟨g,1,none⟩) hg _).setCell (p:=⟨g,2,none⟩) hg _).setCell (p:=⟨g,3,none⟩) hg _).setCell (p:=⟨g,4,none⟩) hg _
def KeptRet (w:World) (base:Nat) (k:Scu.Kept) (e:Ending):Prop:=∃ lv,e=.returned (.agg #[.int .i64 k.view,.int .i64 k.normal,.bool k.calm,lv,.int .i64 k.commit])/\OwnStrs w base lv k.log
theorem zGo (lv:Value) (k:Scu.Kept) (w:World) (B:Nat) (hv:IsStrs w B lv k.log) :
 Calls Tryz.prog 22 #[.agg #[.int .i64 k.view,.int .i64 k.normal,.bool k.calm,lv,.int .i64 k.commit]] w fun e w'=>KeptRet w' w.heap.size k e/\Below w.heap.size w w':=by
 have HV:=mA hv;obtain ⟨A,n,c,rfl⟩:=hv.form;have Hb:=Blk.new w 42 #[.int .i64 k.view,.int .i64 k.normal,.bool k.calm,.slice A n c,.int .i64 k.commit];clear hv;go_enter Tryz.func22,Tryz.ntmps22
 go_wp2_with fail
 refine (zAp _ k.log _ B ((HV.out.alloc _).alloc _)).mono ?_;rintro e w1 ⟨⟨u,rfl,hu⟩,h1⟩;obtain ⟨hc,hz⟩:=bcell h1;have Hg:w.heap.size+1 < w1.heap.size:=by have:=h1.size;simp at this;omega
 have Hd:w.heap.size < w1.heap.size:=by omega
 have Hc:=mA ((Hb.alloc (.cells #[.int .i64 0,.int .i64 0,.bool false,.slice none 0 0,.int .i64 0] 42)).same h1);have He:=mA ((Blk.new (w.alloc (.cells #[.int .i64 k.view,.int .i64 k.normal,.bool k.calm,.slice A n c,.int .i64 k.commit] 42)) 42 #[.int .i64 0,.int .i64 0,.bool false,.slice none 0 0,.int .i64 0]).same h1);obtain ⟨A2,c2,rfl,_,_,_,_⟩:=zAi hu;have Hf:Below w.heap.size w w1:=(((mG _ _).alloc (mC _) _).alloc (by simp) _).trans (h1.mono (by simp;omega));have HU:=mA (show OwnStrs w1 _ _ k.log from ⟨hu,HV.out.len,HV.out.each⟩);clear hu Hb;have hq:=Hc.out.set_ 3 (.slice A2 k.log.length c2);have hr:=He.out.far (p:=⟨w.heap.size,3,none⟩) (by simp) (.slice A2 k.log.length c2);simp only [World.size_alloc] at hr
 have Ha:=((((hr.set_ 0 (.int .i64 k.view)).set_ 1 (.int .i64 k.normal)).set_ 2 (.bool k.calm)).set_ 3 (.slice A2 k.log.length c2)).set_ 4 (.int .i64 k.commit);have u0:=hq.cell 0;have u1:=hq.cell 1;have u2:=hq.cell 2;have u3:=hq.cell 3;have u4:=hq.cell 4;simp at u0 u1 u2 u3 u4
 have v0:=hr.cell 0;have v1:=hr.cell 1;have v2:=hr.cell 2;have v3:=hr.cell 3;have v4:=hr.cell 4;simp at v0 v1 v2 v3 v4
 have x0:=Ha.cell 0;have x1:=Ha.cell 1;have x2:=Ha.cell 2;have x3:=Ha.cell 3;have x4:=Ha.cell 4;simp at x0 x1 x2 x3 x4
 have uz:=hq.frozen;have vz:=hr.frozen;have HQ:=mA (mB hq (mB hr Ha));clear hq hr Ha;go_wp2
 refine bodyPost_ret (v:=.agg #[.int .i64 k.view,.int .i64 k.normal,.bool k.calm,.slice A2 k.log.length c2,.int .i64 k.commit]) (by simp [results,Tryz.results22,go_sem,x0,x1,x2,x3,x4]) rfl ?_;refine ⟨⟨_,rfl,?_⟩,?_⟩
 ·exact ((HU.out.base_ (by simp;omega)).same (Same.set_ (B:=0) Hc.out (mE _) (by decide) 3 _)).same (Same.sets5 (B:=0) HQ.out.2.1 (mE _) (by decide) _ _ _ _ _)
 exact zAn (Hf.setCell (p:=⟨w.heap.size,3,none⟩) (mC _) _) (Nat.le_succ _)
theorem zHr (lv:Value) (k:Scu.Kept) (w:World) (B:Nat) (hv:IsStrs w B lv k.log) :
 Calls Tryz.prog 30 #[.agg #[.int .i64 k.view,.int .i64 k.normal,.bool k.calm,lv,.int .i64 k.commit]] w fun e w'=>KeptRet w' w.heap.size k e/\Below w.heap.size w w':=by
 obtain ⟨⟨A,c,rfl,_,hr⟩,hl,he⟩:=hv;have Hg:=hl;unfold R47 at Hg;have Hc:=Blk.new w 42 #[.int .i64 k.view,.int .i64 k.normal,.bool k.calm,.slice A k.log.length c,.int .i64 k.commit];have Hd:Src1 ((w.alloc (.cells #[.int .i64 k.view,.int .i64 k.normal,.bool k.calm,.slice A k.log.length c,.int .i64 k.commit] 42)).alloc (.cells #[.int .i64 0,.int .i64 0,.bool false,.slice none 0 0,.int .i64 0] 42)) 1 (.slice A k.log.length c) k.log.length (k.log.map Value.string) :=
  zAq ((hr.alloc _).alloc _) (by simp) (fun e=>by subst e;have:=zBi hr;simpa using this)
 have Hh:=mA Hd;have He:=mA (mB hl he);have Hi:=mA Hc;clear Hd hr he hl Hc;go_enter Tryz.func30,Tryz.ntmps30
 go_wp2_with
  (at_builtin
   refine zAz _ rfl (.const (.slice none 0 0)) (.tmp 4) 39 rfl zBl w.heap.size (.slice none 0 0) 0 [] rfl (World.ownsRow_nil _ _ _ _) (.slice A k.log.length c) k.log.length (k.log.map Value.string) rfl Hh.out (zBf _) (by unfold maxLen;omega) (by omega) (by simp;omega) ?_;intro u1 w1 hu Hf _;have h1:Below ((w.alloc (.cells #[.int .i64 k.view,.int .i64 k.normal,.bool k.calm,.slice A k.log.length c,.int .i64 k.commit] 42)).alloc (.cells #[.int .i64 0,.int .i64 0,.bool false,.slice none 0 0,.int .i64 0] 42)).heap.size ((w.alloc (.cells #[.int .i64 k.view,.int .i64 k.normal,.bool k.calm,.slice A k.log.length c,.int .i64 k.commit] 42)).alloc (.cells #[.int .i64 0,.int .i64 0,.bool false,.slice none 0 0,.int .i64 0] 42)) w1:=zAk Hf (mC _) (fun q hq=>by cases hq);have hu:w1.ownsRow w.heap.size 9 1 u1 k.log.length (k.log.map Value.string):=(by simpa only [Nat.zero_add,List.nil_append] using hu);have HU:=mA (show OwnStrs w1 w.heap.size u1 k.log from ⟨hu,He.out.1,He.out.2⟩);obtain ⟨A2,c2,rfl,_,_,_,_⟩:=zAi hu;have Hj:Below w.heap.size w w1:=(((mG _ _).alloc (mC _) _).alloc (by simp) _).trans (h1.mono (by simp;omega));have Hb:=mA ((Hi.out.alloc (.cells #[.int .i64 0,.int .i64 0,.bool false,.slice none 0 0,.int .i64 0] 42)).same h1);have Hk:=mA ((Blk.new (w.alloc (.cells #[.int .i64 k.view,.int .i64 k.normal,.bool k.calm,.slice A k.log.length c,.int .i64 k.commit] 42)) 42 #[.int .i64 0,.int .i64 0,.bool false,.slice none 0 0,.int .i64 0]).same h1);have Hl:=Hb.out.cell 3;simp at Hl
   have Hm:=Hb.out.frozen;have hq:=Hb.out.set_ 3 (.slice A2 k.log.length c2);have hr:=Hk.out.far (p:=⟨w.heap.size,3,none⟩) (by simp) (.slice A2 k.log.length c2);simp only [World.size_alloc] at hr
   have Ha:=((((hr.set_ 0 (.int .i64 k.view)).set_ 1 (.int .i64 k.normal)).set_ 2 (.bool k.calm)).set_ 3 (.slice A2 k.log.length c2)).set_ 4 (.int .i64 k.commit);have u0:=hq.cell 0;have u1:=hq.cell 1;have u2:=hq.cell 2;have u3:=hq.cell 3;have u4:=hq.cell 4;simp at u0 u1 u2 u3 u4
   have v0:=hr.cell 0;have v1:=hr.cell 1;have v2:=hr.cell 2;have v3:=hr.cell 3;have v4:=hr.cell 4;simp at v0 v1 v2 v3 v4
   have x0:=Ha.cell 0;have x1:=Ha.cell 1;have x2:=Ha.cell 2;have x3:=Ha.cell 3;have x4:=Ha.cell 4;simp at x0 x1 x2 x3 x4
   have uz:=hq.frozen;have vz:=hr.frozen;have HQ:=mA (mB hq (mB hr Ha));clear hq hr Ha Hf h1 hu)
 refine bodyPost_ret (v:=.agg #[.int .i64 k.view,.int .i64 k.normal,.bool k.calm,.slice A2 k.log.length c2,.int .i64 k.commit]) (by simp [results,Tryz.results30,go_sem,x0,x1,x2,x3,x4]) rfl ?_;refine ⟨⟨_,rfl,?_⟩,?_⟩
 ·exact ((HU.out.base_ (by simp)).same (Same.set_ (B:=0) Hb.out (mE _) (by decide) 3 _)).same (Same.sets5 (B:=0) HQ.out.2.1 (mE _) (by decide) _ _ _ _ _)
 exact zAn (Hj.setCell (p:=⟨w.heap.size,3,none⟩) (mC _) _) (Nat.le_succ _)
theorem zX1 {P:Prop} (h:P:=by
 clear hr Hb;go_enter Tryz.func42,Tryz.ntmps42
 go_wp2
 go_ret
 exact ⟨zAb (zBa Ha.out.symm),((mG _ _).alloc (mC _) _).alloc (by simp) _⟩):P:=h
theorem zPs (lv lu:Value) (va na:Int) (ca:Bool) (la:List Scu.Str) (coa vb nb:Int) (cb:Bool) (lb:List Scu.Str) (cob:Int) (w:World) (B B':Nat) (hv:IsStrs w B lv la) (hu:IsStrs w B' lu lb) :
 Calls Tryz.prog 42 #[.agg #[.int .i64 va,.int .i64 na,.bool ca,lv,.int .i64 coa],.agg #[.int .i64 vb,.int .i64 nb,.bool cb,lu,.int .i64 cob]] w fun e w' =>
  e=.returned (.bool (decide ((⟨va,na,ca,la,coa⟩:Scu.Kept)=⟨vb,nb,cb,lb,cob⟩)))/\Below w.heap.size w w':=by
 obtain ⟨⟨A,c,rfl,_,hr⟩,hl,_⟩:=hv;obtain ⟨⟨A',c',rfl,_,Hb⟩,He,_⟩:=hu;unfold R47 at hl He;cases t1:(va != vb) with
 | true =>
   have Ha:=mA (show decide ((⟨va,na,ca,la,coa⟩:Scu.Kept)=⟨vb,nb,cb,lb,cob⟩)=false from decide_eq_false_iff_not.2 (fun e=>by injection e with e1 e2 e3 e4 e5;exact (bne_iff_ne.1 t1) e1));exact zX1
 | false =>
 cases t2:(na != nb) with
 | true =>
   have Ha:=mA (show decide ((⟨va,na,ca,la,coa⟩:Scu.Kept)=⟨vb,nb,cb,lb,cob⟩)=false from decide_eq_false_iff_not.2 (fun e=>by injection e with e1 e2 e3 e4 e5;exact (bne_iff_ne.1 t2) e2));exact zX1
 | false =>
 have H3:(ca=true/\cb=false)\/(ca=false/\cb=true)\/(ca=true/\cb=true)\/(ca=false/\cb=false):=by cases ca <;> cases cb <;> simp
 rcases H3 with ⟨rfl,rfl⟩ | ⟨rfl,rfl⟩ | H3
 ·have Ha:=mA (show decide ((⟨va,na,true,la,coa⟩:Scu.Kept)=⟨vb,nb,false,lb,cob⟩)=false from decide_eq_false_iff_not.2 (fun e=>by injection e with e1 e2 e3 e4 e5;cases e3));exact zX1
 ·have Ha:=mA (show decide ((⟨va,na,false,la,coa⟩:Scu.Kept)=⟨vb,nb,true,lb,cob⟩)=false from decide_eq_false_iff_not.2 (fun e=>by injection e with e1 e2 e3 e4 e5;cases e3));exact zX1
 cases t4:(coa != cob) with
 | true =>
   rcases H3 with ⟨rfl,rfl⟩ | ⟨rfl,rfl⟩
   ·have Ha:=mA (show decide ((⟨va,na,true,la,coa⟩:Scu.Kept)=⟨vb,nb,true,lb,cob⟩)=false from decide_eq_false_iff_not.2 (fun e=>by injection e with e1 e2 e3 e4 e5;exact (bne_iff_ne.1 t4) e5));exact zX1
   ·have Ha:=mA (show decide ((⟨va,na,false,la,coa⟩:Scu.Kept)=⟨vb,nb,false,lb,cob⟩)=false from decide_eq_false_iff_not.2 (fun e=>by injection e with e1 e2 e3 e4 e5;exact (bne_iff_ne.1 t4) e5));exact zX1
 | false =>
 cases t5:((la.length:Int) != (lb.length:Int)) with
 | true =>
   rcases H3 with ⟨rfl,rfl⟩ | ⟨rfl,rfl⟩
   ·have Ha:=mA (show decide ((⟨va,na,true,la,coa⟩:Scu.Kept)=⟨vb,nb,true,lb,cob⟩)=false from decide_eq_false_iff_not.2 (fun e=>by injection e with e1 e2 e3 e4 e5;exact (bne_iff_ne.1 t5) (by rw [e4])));exact zX1
   ·have Ha:=mA (show decide ((⟨va,na,false,la,coa⟩:Scu.Kept)=⟨vb,nb,false,lb,cob⟩)=false from decide_eq_false_iff_not.2 (fun e=>by injection e with e1 e2 e3 e4 e5;exact (bne_iff_ne.1 t5) (by rw [e4])));exact zX1
 | false =>
 have HE:=mA (show la.length=lb.length by have h5:(la.length:Int)=lb.length:=(by simpa using t5);omega);have HN:=mA (show va=vb/\na=nb/\coa=cob from ⟨by simpa using t1,by simpa using t2,by simpa using t4⟩);rcases H3 with ⟨rfl,rfl⟩ | ⟨rfl,rfl⟩;all_goals
  go_enter Tryz.func42,Tryz.ntmps42
  go_wp2
  go_loopw [5] (fun i wr=>∃ k:Nat,k<=la.length/\i=.int .i64 k/\Hid (la.take k=lb.take k)/\∃ n,wr=((w.alloc (.cells #[.int .i64 va,.int .i64 na,_,.slice A la.length c,.int .i64 coa] 42)).alloc (.cells #[.int .i64 vb,.int .i64 nb,_,.slice A' lb.length c',.int .i64 cob] 42)).drewN n) (fun i _=>la.length - (intOf i).toNat)
  case atStart=>exact ⟨0,mE _,rfl,rfl,0,rfl⟩
  case round =>
   obtain ⟨k,hk,rfl,ht,n,rfl⟩:=hrel;by_cases Hc:k < la.length
   ·have Hd:(k:Int) < (la.length:Int):=by omega
    have hy:k < lb.length:=by have:=HE.out;omega
    have Hg:(k:Int) < (lb.length:Int):=by omega
    obtain ⟨g,o,rfl,hg,hc⟩:=zBz hr Hc;obtain ⟨g',o',rfl,Hh,Hi⟩:=zBz Hb hy;by_cases hx:la[k]=lb[k]
    ·have hb:(la[k].toList == lb[k].toList)=true:=by rw [zEj];simp [hx]
     have HX:=mA hx;clear hx;go_wp2
     go_quiet (fail)
     go_wp2
     exact ⟨⟨k+1,Hc,by go_num,zFk ht.out Hc hy HX.out,_,rfl⟩,by simp only [intOf];omega⟩
    have hb:(la[k].toList == lb[k].toList)=false:=by rw [zEj];simp [hx]
    have Ha:=mA (show ∀ cc dd:Bool,decide ((⟨va,na,cc,la,coa⟩:Scu.Kept)=⟨vb,nb,dd,lb,cob⟩)=false from fun cc dd=>decide_eq_false_iff_not.2 (fun e=>by
     injection e with e1 e2 e3 e4 e5
     subst e4;exact hx rfl))
    clear hx;go_wp2
    go_quiet (fail)
    go_wp2
    go_ret
    exact ⟨zAb (zBa (Ha.out _ _).symm),below_drewN (below_drewN (((mG _ _).alloc (mC _) _).alloc (by simp) _) _) _⟩
   have Hd:(la.length:Int)<=(k:Int):=by omega
   have Hf:=mA (show ∀ cc:Bool,decide ((⟨va,na,cc,la,coa⟩:Scu.Kept)=⟨vb,nb,cc,lb,cob⟩)=true from fun cc=>decide_eq_true_iff.2 (by
    have h1:=ht.out;rw [List.take_of_length_le (by omega),List.take_of_length_le (by have:=HE.out;omega)] at h1;obtain ⟨e1,e2,e5⟩:=HN.out;rw [e1,e2,e5,h1]))
   go_wp2
   go_ret
   exact ⟨zAb (zBa (Hf.out _).symm),below_drewN (((mG _ _).alloc (mC _) _).alloc (by simp) _) _⟩
theorem zHs (lv lu:Value) (a b:Scu.Kept) (w:World) (B B':Nat) (hv:IsStrs w B lv a.log) (hu:IsStrs w B' lu b.log) :
 Calls Tryz.prog 42 #[.agg #[.int .i64 a.view,.int .i64 a.normal,.bool a.calm,lv,.int .i64 a.commit],.agg #[.int .i64 b.view,.int .i64 b.normal,.bool b.calm,lu,.int .i64 b.commit]] w fun e w' =>
  e=.returned (.bool (decide (a=b)))/\Below w.heap.size w w' :=
 zPs lv lu a.view a.normal a.calm a.log a.commit b.view b.normal b.calm b.log b.commit w B B' hv hu
open Go.RowKit Go.ChangeShapes Go.WideShapes Go.ChangeAt
abbrev vInt:Int->Value:=Value.int .i64
theorem zRi:ElT 43 3 1 8:=by
 obtain ⟨i,h1,h2,h3,h4⟩:=info_parts (P:=Tryz.prog) (e:=3) (z:=.int .i64 0) (size:=1) (bytes:=8) (by kernel_rfl);exact ⟨Tryz.underlying43,by omega,i,_,h1,h2,h3,h4,rfl⟩
theorem zLa:ElT 44 4 1 1:=by
 obtain ⟨i,h1,h2,h3,h4⟩:=info_parts (P:=Tryz.prog) (e:=4) (z:=.bool false) (size:=1) (bytes:=1) (by kernel_rfl);exact ⟨Tryz.underlying44,by omega,i,_,h1,h2,h3,h4,rfl⟩
theorem zOr:ElT 45 42 5 56:=by
 obtain ⟨i,h1,h2,h3,h4⟩:=info_parts (P:=Tryz.prog) (e:=42) (z:=.agg #[.int .i64 0,.int .i64 0,.bool false,.slice none 0 0,.int .i64 0]) (size:=5) (bytes:=56) (by kernel_rfl);exact ⟨Tryz.underlying45,by omega,i,_,h1,h2,h3,h4,rfl⟩
theorem zOs (xs:List Int):∀ u ∈ xs.map vInt,u.oneCell'=true:=fun u hu=>by
 obtain ⟨s,_,rfl⟩:=List.mem_map.1 hu;rfl
theorem zJf (xs:List Bool):∀ u ∈ xs.map Value.bool,u.oneCell'=true:=fun u hu=>by
 obtain ⟨s,_,rfl⟩:=List.mem_map.1 hu;rfl
theorem zC2 {P:Prop} (h:P:=by
 intro v1 w1 Ha hg hw;have HO:=mA Ha;have HW:=mA hw;clear Ha hw;go_wp2
 go_ret
 refine ⟨⟨_,rfl,HO.out⟩,?_⟩;exact ((mG _ _).alloc (mC _) _).trans (zAk hg (by simp) (fun k hk=>by simp [Value.ownBlock] at hk;omega))):P:=h
theorem zG2 {P:Prop} (h:P:=by
 go_wp2
 go_ret
 exact ⟨⟨_,rfl,World.ownsRow_nil _ _ _ _⟩,mG _ _⟩):P:=h
theorem zNp (v:Value) (xs:List Int) (w:World) (B:Nat) (hv:IsOnes 3 8 vInt w B v xs) :
 Calls Tryz.prog 26 #[v] w fun e w'=>(∃ u,e=.returned u/\w'.ownsRow w.heap.size 3 1 u xs.length (xs.map vInt))/\Below w.heap.size w w':=by
 obtain ⟨⟨A,c,rfl,He,hr⟩,hl⟩:=hv;have Hb:=fun (W:World)=>Lib.run_eql_slice_nil (P:=Tryz.prog) W 43 3 A xs.length c 0 0 Tryz.underlying43
 rcases A with _ | ad
 ·have hx:xs=[]:=by
   have:=zBi hr;simpa using this
  subst hx;have Hc:=fun (W:World)=>Lib.run_eql_slice_nil (P:=Tryz.prog) W 43 3 none 0 c 0 0 Tryz.underlying43
  clear Hb;go_enter Tryz.func26,Tryz.ntmps26
  exact zG2
 have Hd:=hl;unfold R47 at Hd;go_enter Tryz.func26,Tryz.ntmps26
 go_wp2_with (at_builtin;refine zAz _ rfl _ _ 43 rfl zRi w.heap.size _ 0 [] rfl (zKy (mC _)) _ xs.length (xs.map vInt) rfl ?c1 (zOs xs) (by unfold maxLen;omega) (by omega) (by simp) ?_)
 case c1=>exact zAq (hr.alloc _) (by simp) (fun e=>by cases e)
 exact zC2
theorem zIa (v:Value) (xs:List Bool) (w:World) (B:Nat) (hv:IsOnes 4 1 Value.bool w B v xs) :
 Calls Tryz.prog 27 #[v] w fun e w'=>(∃ u,e=.returned u/\w'.ownsRow w.heap.size 4 1 u xs.length (xs.map Value.bool))/\Below w.heap.size w w':=by
 obtain ⟨⟨A,c,rfl,He,hr⟩,hl⟩:=hv;have Hb:=fun (W:World)=>Lib.run_eql_slice_nil (P:=Tryz.prog) W 44 4 A xs.length c 0 0 Tryz.underlying44
 rcases A with _ | ad
 ·have hx:xs=[]:=by
   have:=zBi hr;simpa using this
  subst hx;have Hc:=fun (W:World)=>Lib.run_eql_slice_nil (P:=Tryz.prog) W 44 4 none 0 c 0 0 Tryz.underlying44
  clear Hb;go_enter Tryz.func27,Tryz.ntmps27
  exact zG2
 have Hd:=hl;unfold R47 at Hd;go_enter Tryz.func27,Tryz.ntmps27
 go_wp2_with (at_builtin;refine zAz _ rfl _ _ 44 rfl zLa w.heap.size _ 0 [] rfl (zKy (mC _)) _ xs.length (xs.map Value.bool) rfl ?c1 (zJf xs) (by unfold maxLen;omega) (by omega) (by simp) ?_)
 case c1=>exact zAq (hr.alloc _) (by simp) (fun e=>by cases e)
 exact zC2
theorem KeptEl.same {w w':World} {B:Nat} {Ts:List TypeId} {cs:List Value} {k:Scu.Kept} (h:KeptEl w B cs k) (ht:9 ∈ Ts) (hs:Same Ts B w w'):KeptEl w' B cs k:=by
 obtain ⟨lv,e,h⟩:=h;exact ⟨lv,e,h.same ht hs⟩
theorem KeptEl.len {w:World} {B:Nat} {cs:List Value} {k:Scu.Kept} (h:KeptEl w B cs k):cs.length=5:=by
 obtain ⟨lv,rfl,_⟩:=h;rfl
structure IsRep (w:World) (B:Nat) (lv hv wv gv nv:Value) (r:Scu.Replica):Prop where
 log:IsStrs w B lv r.kept.log
 have_:IsOnes 3 8 vInt w B hv r.have_
 wants:IsOnes 4 1 Value.bool w B wv r.wants
 gives:IsRow 42 5 56 KeptEl w B gv r.gives
 given:IsOnes 4 1 Value.bool w B nv r.given
section
variable {w w':World} {B B':Nat} {lv hv wv gv nv:Value} {r:Scu.Replica} {Ts:List TypeId}
theorem IsRep.same (h:IsRep w B lv hv wv gv nv r) (hs:Same [9,3,4,42] B w w'):IsRep w' B lv hv wv gv nv r :=
 ⟨h.log.same (by simp) hs,h.have_.same (by simp) hs,h.wants.same (by simp) hs,h.gives.same (by simp) hs (fun _ _ hk=>hk.same (by simp) hs),h.given.same (by simp) hs⟩
theorem IsRep.below (h:IsRep w B lv hv wv gv nv r) (hb:Below w.heap.size w w'):IsRep w' B lv hv wv gv nv r:=h.same (Same.below hb)
theorem IsRep.alloc (h:IsRep w B lv hv wv gv nv r) (o:Obj):IsRep (w.alloc o) B lv hv wv gv nv r:=h.same (Same.alloc w o)
end
section
variable {H:Type} {enc:TypeId × Value->H} {w:World} {base:Nat} {spare:Nat->Bool} {held:Bool} {n:Nat}
end
open Go.RowKit
def haveBad (n : Nat) (h : Int) : Bool := decide (h < 0) || decide ((n : Int) < h)
def giveBad (g : Scu.Kept) : Bool := decide (Scu.keptFault g ≠0)
theorem zLb {r : Scu.Replica} (h : r.me < 0\/3 <= r.me) : Scu.repFault r = 2 := if_pos h
theorem zEa {r : Scu.Replica} (h : ¬ (r.me < 0\/3 <= r.me)) (h' : r.have_.length ≠3\/r.wants.length ≠3\/r.gives.length ≠3\/r.given.length ≠3) : Scu.repFault r = 8 := by
 unfold Scu.repFault;rw [if_neg h, if_pos h']
theorem zOt {r : Scu.Replica} (h : ¬ (r.me < 0\/3 <= r.me)) (h1 : r.have_.length = 3) (h2 : r.wants.length = 3) (h3 : r.gives.length = 3) (h4 : r.given.length = 3) :
 Scu.repFault r = if (r.have_.any (haveBad r.kept.log.length) || r.gives.any giveBad) = true then 8 else Scu.keptFault r.kept := by
 unfold Scu.repFault;rw [if_neg h, if_neg (by omega)];rfl
theorem zDp {w : World} {B : Nat} {A : Option Addr} {css : List (List Value)} {gs : List Scu.Kept} {k : Nat} (hl : css.length = gs.length) (hm : ∀ cs ∈ css, cs.length = 5) (h : Rd w B 42 A css.flatten)
 (h6 : ∀ (j : Nat) (cs : List Value) (x : Scu.Kept), css[j]? = some cs -> gs[j]? = some x -> KeptEl w B cs x) (hk : k < gs.length) :
 ∃ g o lv, A = some ⟨g, o, none⟩ /\ g < w.heap.size /\ w.cell? ⟨g, o + k * 5, none⟩ = some (.int .i64 gs[k].view) /\ w.cell? ⟨g, o + k * 5 + 1, none⟩ = some (.int .i64 gs[k].normal) /\ w.cell? ⟨g, o + k * 5 + 2, none⟩ = some (.bool gs[k].calm) /\
  w.cell? ⟨g, o + k * 5 + 3, none⟩ = some lv /\ w.cell? ⟨g, o + k * 5 + 4, none⟩ = some (.int .i64 gs[k].commit) /\ IsStrs w B lv gs[k].log := by
 obtain ⟨g, o, cs, h1, h2, _, h4, lv, rfl, h5⟩ := zHq hl hm (by omega) h h6 hk;exact ⟨g, o, lv, h1, h2, h4 0 _ rfl, by rw [Nat.add_assoc]; exact h4 1 _ rfl, by rw [Nat.add_assoc]; exact h4 2 _ rfl, by rw [Nat.add_assoc]; exact h4 3 _ rfl, by rw [Nat.add_assoc]; exact h4 4 _ rfl, h5⟩
theorem zA2 {P:Prop} (h:P:=by
 clear Hf Hd Hg He Hh Hb Hc;go_enter Tryz.func103, Tryz.ntmps103
 go_wp2
 go_ret
 exact ⟨zAb (zAd HF.out.symm), (mG _ _).alloc (mC _) _⟩):P:=h
theorem zD2 {P:Prop} (h:P:=by
 go_wp2
 go_quiet (fail)
 go_wp2
 go_ret
 exact ⟨zAb (zAd HX.out.symm), below_drewN (((zAa w _).trans (Hj.out.mono (by simp))).alloc (by omega) _) _⟩):P:=h
theorem zPt (lv Hq wv gv nv : Value) (r : Scu.Replica) (w : World) (B : Nat) (hv : IsRep w B lv Hq wv gv nv r) :
 Calls Tryz.prog 103 #[.agg #[.int .i64 r.me, .int .i64 r.kept.view, .int .i64 r.kept.normal, .bool r.kept.calm, lv, .int .i64 r.kept.commit, Hq, wv, gv, nv]] w fun e w' =>
  e = .returned (.int .i64 (Scu.repFault r)) /\ Below w.heap.size w w' := by
 have HV := mA hv;obtain ⟨⟨A0, c0, rfl, _, Hf⟩, Hv, Hc⟩ := hv.log;obtain ⟨⟨A1, c1, rfl, _, Hd⟩, Hw⟩ := hv.have_;obtain ⟨⟨A2, c2, rfl, _, Hg⟩, Hx⟩ := hv.wants;obtain ⟨⟨A3, c3, css, rfl, _, Hr, Hs, He, Ht⟩, Hy⟩ := hv.gives;obtain ⟨⟨A4, c4, rfl, _, Hh⟩, Hz⟩ := hv.given;unfold R47 at Hv Hw Hx Hy Hz;have Hb := mA (mB Hr (mB Hs Ht));clear hv Hr Hs Ht;cases t1 : decide (r.me < 0) with
 | true =>
   have HF := mA (show Scu.repFault r = 2 from zLb (.inl (of_decide_eq_true t1)));exact zA2
 | false =>
 cases t2 : decide ((3 : Int) <= r.me) with
 | true =>
   have HF := mA (show Scu.repFault r = 2 from zLb (.inr (of_decide_eq_true t2)));exact zA2
 | false =>
 have Hi := mA (show ¬ (r.me < 0\/3 <= r.me) from fun h => h.elim (of_decide_eq_false t1) (of_decide_eq_false t2));cases t3 : ((r.have_.length : Int) != 3) with
 | true =>
   have HF := mA (show Scu.repFault r = 8 from zEa Hi.out (.inl (by have := bne_iff_ne.1 t3; omega)));exact zA2
 | false =>
 cases t4 : ((r.wants.length : Int) != 3) with
 | true =>
   have HF := mA (show Scu.repFault r = 8 from zEa Hi.out (.inr (.inl (by have := bne_iff_ne.1 t4; omega))));exact zA2
 | false =>
 cases t5 : ((r.gives.length : Int) != 3) with
 | true =>
   have HF := mA (show Scu.repFault r = 8 from zEa Hi.out (.inr (.inr (.inl (by have := bne_iff_ne.1 t5; omega)))));exact zA2
 | false =>
 cases t6 : ((r.given.length : Int) != 3) with
 | true =>
   have HF := mA (show Scu.repFault r = 8 from zEa Hi.out (.inr (.inr (.inr (by have := bne_iff_ne.1 t6; omega)))));exact zA2
 | false =>
 have l1 : r.have_.length = 3 := by have h : (r.have_.length : Int) = 3 := by simpa using t3
                                    omega
 have l2 : r.wants.length = 3 := by have h : (r.wants.length : Int) = 3 := by simpa using t4
                                    omega
 have l3 : r.gives.length = 3 := by have h : (r.gives.length : Int) = 3 := by simpa using t5
                                    omega
 have l4 : r.given.length = 3 := by have h : (r.given.length : Int) = 3 := by simpa using t6
                                    omega
 have HF := mA (zOt Hi.out l1 l2 l3 l4);have L1 := mA l1;have L3 := mA l3;have Kf := mA Hc;clear l1 l2 l3 l4 Hc;go_enter Tryz.func103, Tryz.ntmps103
 go_wp2
 go_loopw [38] (fun i wr => ∃ j : Nat, j <= r.gives.length /\ i = .int .i64 j /\ Hid ((r.have_.take j).any (haveBad r.kept.log.length) = false /\ (r.gives.take j).any giveBad = false) /\ Below (w.heap.size + 1) (w.alloc (.cells (rN r A0 r.kept.log.length c0 A1 c1 A2 c2 A3 c3 A4 c4) 47)) wr) (fun i _ => r.gives.length - (intOf i).toNat)
 case atStart => exact ⟨0, mE _, rfl, by simp [Hid], mG _ _⟩
 case round =>
  obtain ⟨j, hj, rfl, ht, Ha⟩ := hrel;have Ka := Ha.size;simp only [World.size_alloc] at Ka
  have Kb : w.heap.size < wr.heap.size := by omega
  obtain ⟨Kg, Kh⟩ := bcell Ha;by_cases Hl : j < r.gives.length
  ·have Hn : (j : Int) < (r.gives.length : Int) := by omega
   have Hm : j < r.have_.length := by have := L1.out; have := L3.out; omega
   have Kc : (j : Int) < (r.have_.length : Int) := by omega
   have Ki := mA ((HV.out.alloc (.cells (rN r A0 r.kept.log.length c0 A1 c1 A2 c2 A3 c3 A4 c4) 47)).below (Ha.mono (by simp)));obtain ⟨g, o, lvj, e3, hg, k0, k1, k2, k3, k4, Ho⟩ := zDp Hb.out.1 Hb.out.2.1 ((He.alloc (.cells (rN r A0 r.kept.log.length c0 A1 c1 A2 c2 A3 c3 A4 c4) 47)).below (Ha.mono (by simp))) (fun j cs x a b => ((Hb.out.2.2 j cs x a b).same (Ts := [9]) (by simp) (Same.alloc w (.cells (rN r A0 r.kept.log.length c0 A1 c1 A2 c2 A3 c3 A4 c4) 47))).same (Ts := [9]) (by simp) (Same.below (Ha.mono (by simp)))) Hl;obtain ⟨g1, o1, e1, Kj, m0⟩ := zDc ((Hd.alloc (.cells (rN r A0 r.kept.log.length c0 A1 c1 A2 c2 A3 c3 A4 c4) 47)).below (Ha.mono (by simp))) Hm;subst e3 e1;have Kd := mA Ho;obtain ⟨Aj, nj, cj, rfl⟩ := Ho.form;have Hj := mA Ha;clear Ho Ha;cases u1 : decide (r.have_[j] < 0) with
   | true =>
     have HX := mA (show Scu.repFault r = 8 by rw [HF.out, zCt (haveBad r.kept.log.length) r.have_ j Hm (by unfold haveBad; rw [u1]; rfl)]; rfl);exact zD2
   | false =>
   cases u2 : decide ((r.kept.log.length : Int) < r.have_[j]) with
   | true =>
     have HX := mA (show Scu.repFault r = 8 by rw [HF.out, zCt (haveBad r.kept.log.length) r.have_ j Hm (by unfold haveBad; rw [u1, u2]; rfl)]; rfl);exact zD2
   | false =>
     have hq : w.heap.size < wr.heap.size + 1 := by omega
     have HH := mA (show haveBad r.kept.log.length r.have_[j] = false by unfold haveBad; rw [u1, u2]; rfl);cases u3 : (Scu.keptFault r.gives[j] != 0)
     all_goals
      have U3 := mA u3;go_wp2_with fail
      go_region_held3 (fun w' => w'.cell? ⟨w.heap.size, 6, none⟩ = some (.slice (some ⟨g1, o1, none⟩) r.have_.length c1) /\ w'.cell? ⟨w.heap.size, 4, none⟩ = some (.slice A0 r.kept.log.length c0) /\ w'.cell? ⟨g1, o1 + j, none⟩ = some (.int .i64 r.have_[j]) /\
       w'.cell? ⟨wr.heap.size, 0, none⟩ = some (.int .i64 r.gives[j].view) /\ w'.cell? ⟨wr.heap.size, 1, none⟩ = some (.int .i64 r.gives[j].normal) /\ w'.cell? ⟨wr.heap.size, 2, none⟩ = some (.bool r.gives[j].calm) /\
       w'.cell? ⟨wr.heap.size, 3, none⟩ = some (.slice Aj nj cj) /\ w'.cell? ⟨wr.heap.size, 4, none⟩ = some (.int .i64 r.gives[j].commit)) (first | go_keep | (go_split_ands; refine ⟨?_, ?_, ?_, ?_, ?_, ?_, ?_, ?_⟩ <;> (refine (h1.cell (by first | (simp; done) | (simp; omega))).trans ?_; assumption)))
       ((go_at_call 21; refine (zDz _ r.gives[j] _ B ((Kd.out.alloc _).drewN _)).mono ?_; rintro e w1 ⟨rfl, h1⟩))
      have Hp := below_drewN (((zAa w _).trans (Hj.out.mono (by simp))).alloc (by omega) (.cells #[.int .i64 r.gives[j].view, .int .i64 r.gives[j].normal, .bool r.gives[j].calm, .slice Aj nj cj, .int .i64 r.gives[j].commit] 42)) 1;have Hu := below_drewN (Hj.out.alloc (by omega) (.cells #[.int .i64 r.gives[j].view, .int .i64 r.gives[j].normal, .bool r.gives[j].calm, .slice Aj nj cj, .int .i64 r.gives[j].commit] 42)) 1;have Hk := mA (Hp.trans (h1.mono Hp.size));have Ke := mA (Hu.trans (h1.mono (by simp; omega)));clear Hp Hu;go_wp2
     ·go_roundw
      case rel =>
       refine ⟨j + 1, Hl, by go_num, ⟨?_, ?_⟩, Ke.out⟩
       ·rw [zDx _ r.have_ j Hm, ht.out.1, HH.out]; rfl
       rw [zDx _ r.gives j Hl, ht.out.2];unfold giveBad;have := U3.out;simpa using this
      case measure => simp only [intOf]; omega
     ·have HX := mA (show Scu.repFault r = 8 by
       rw [HF.out, zCt giveBad r.gives j Hl (by unfold giveBad; have := U3.out; simpa using this)];simp)
      go_ret
      exact ⟨zAb (zAd HX.out.symm), Hk.out⟩
  have Hn : (r.gives.length : Int) <= (j : Int) := by omega
  have HX := mA (show Scu.repFault r = Scu.keptFault r.kept by
   have e1 := zDy _ r.have_ j (by have := L1.out; have := L3.out; omega) ht.out.1;have e2 := zDy _ r.gives j (by omega) ht.out.2;rw [HF.out, e1, e2]; rfl)
  have Hj := mA Ha;have Hk := mA ((zAa w _).trans (Ha.mono (by simp)));clear Ha;go_wp2_with fail
  refine (zDz _ r.kept _ B (HV.out.log.below Hk.out)).mono ?_; rintro e w1 ⟨rfl, h1⟩;go_wp2
  go_ret
  exact ⟨zAb (zAd HX.out.symm), Hk.out.trans (h1.mono Hk.out.size)⟩
theorem zRj (n:Nat) (h:Int):haveBad n h = !inB h 0 n:=by
 unfold haveBad inB;rw [Bool.eq_iff_iff];simp only [Bool.or_eq_true,decide_eq_true_eq,Bool.not_eq_true',Bool.and_eq_false_iff,decide_eq_false_iff_not]
 omega
theorem zY1 {P:Prop} (h:P:=by
 clear Hf Hd Hg He Hh Hb Hc;go_enter Tryz.func62,Tryz.ntmps62
 go_wp2_with (go_at_call 12;refine (zAt _ _ _ _).mono ?_;rintro e w1 ⟨rfl,rfl⟩;rw [U1.out])
 go_ret
 exact ⟨zAb (zAd HF.out.symm),(mG _ _).alloc (mC _) _⟩):P:=h
theorem zJy (lv Hq wv gv nv:Value) (r:Scu.Replica) (w:World) (B:Nat) (hv:IsRep w B lv Hq wv gv nv r) :
 Calls Tryz.prog 62 #[.agg #[.int .i64 r.me,.int .i64 r.kept.view,.int .i64 r.kept.normal,.bool r.kept.calm,lv,.int .i64 r.kept.commit,Hq,wv,gv,nv]] w fun e w' =>
  e=.returned (.int .i64 (Scu.repFault r))/\Below w.heap.size w w':=by
 have HV:=mA hv;obtain ⟨⟨A0,c0,rfl,_,Hf⟩,Hv,Hc⟩:=hv.log;obtain ⟨⟨A1,c1,rfl,_,Hd⟩,Hw⟩:=hv.have_;obtain ⟨⟨A2,c2,rfl,_,Hg⟩,Hx⟩:=hv.wants;obtain ⟨⟨A3,c3,css,rfl,_,Hr,Hs,He,Ht⟩,Hy⟩:=hv.gives;obtain ⟨⟨A4,c4,rfl,_,Hh⟩,Hz⟩:=hv.given;unfold R47 at Hv Hw Hx Hy Hz;have Hb:=mA (mB Hr (mB Hs Ht));clear hv Hr Hs Ht;cases t1:inB r.me 0 2 with
 | false =>
   have U1:=mA t1;clear t1;have HF:=mA (show Scu.repFault r=2 from zLb (by have:=zFo U1.out;omega));exact zY1
 | true =>
 have U1:=mA t1;have Hi:=mA (show ¬ (r.me < 0\/3<=r.me) by have:=zDo t1;omega);clear t1;cases t3:((r.have_.length:Int) != 3) with
 | true =>
   have HF:=mA (show Scu.repFault r=8 from zEa Hi.out (.inl (by have:=bne_iff_ne.1 t3;omega)));exact zY1
 | false =>
 cases t4:((r.wants.length:Int) != 3) with
 | true =>
   have HF:=mA (show Scu.repFault r=8 from zEa Hi.out (.inr (.inl (by have:=bne_iff_ne.1 t4;omega))));exact zY1
 | false =>
 cases t5:((r.gives.length:Int) != 3) with
 | true =>
   have HF:=mA (show Scu.repFault r=8 from zEa Hi.out (.inr (.inr (.inl (by have:=bne_iff_ne.1 t5;omega)))));exact zY1
 | false =>
 cases t6:((r.given.length:Int) != 3) with
 | true =>
   have HF:=mA (show Scu.repFault r=8 from zEa Hi.out (.inr (.inr (.inr (by have:=bne_iff_ne.1 t6;omega)))));exact zY1
 | false =>
 have l1:r.have_.length=3:=by have h:(r.have_.length:Int)=3:=by simpa using t3
                              omega
 have l2:r.wants.length=3:=by have h:(r.wants.length:Int)=3:=by simpa using t4
                              omega
 have l3:r.gives.length=3:=by have h:(r.gives.length:Int)=3:=by simpa using t5
                              omega
 have l4:r.given.length=3:=by have h:(r.given.length:Int)=3:=by simpa using t6
                              omega
 have HF:=mA (zOt Hi.out l1 l2 l3 l4);have L1:=mA l1;have L3:=mA l3;have Kh:=mA Hc;clear l1 l2 l3 l4 Hc;go_enter Tryz.func62,Tryz.ntmps62
 go_wp2_with (go_at_call 12;refine (zAt _ _ _ _).mono ?_;rintro e w1 ⟨rfl,rfl⟩;rw [U1.out])
 go_loopw [3] (fun i wr=>∃ j:Nat,j<=3/\i=.int .i64 j/\Hid ((r.have_.take j).any (haveBad r.kept.log.length)=false/\(r.gives.take j).any giveBad=false)/\Below (w.heap.size+1) (w.alloc (.cells (rN r A0 r.kept.log.length c0 A1 c1 A2 c2 A3 c3 A4 c4) 47)) wr) (fun i _=>3 - (intOf i).toNat)
 case atStart=>exact ⟨0,mE _,rfl,by simp [Hid],mG _ _⟩
 case round =>
  obtain ⟨j,hj,rfl,ht,Ha⟩:=hrel;have Ka:=Ha.size;simp only [World.size_alloc] at Ka
  have Kb:w.heap.size < wr.heap.size:=by omega
  obtain ⟨Ki,Kj⟩:=bcell Ha;by_cases Kc:j < 3
  ·have Kd:(j:Int) < 3:=by omega
   have Hk:j < r.gives.length:=by have:=L3.out;omega
   have Hl:(j:Int) < (r.gives.length:Int):=by omega
   have Hm:j < r.have_.length:=by have:=L1.out;omega
   have Ke:(j:Int) < (r.have_.length:Int):=by omega
   obtain ⟨g,o,lvj,e3,hg,k0,k1,k2,k3,k4,Hn⟩:=zDp Hb.out.1 Hb.out.2.1 ((He.alloc (.cells (rN r A0 r.kept.log.length c0 A1 c1 A2 c2 A3 c3 A4 c4) 47)).below (Ha.mono (by simp))) (fun j cs x a b=>((Hb.out.2.2 j cs x a b).same (Ts:=[9]) (by simp) (Same.alloc w (.cells (rN r A0 r.kept.log.length c0 A1 c1 A2 c2 A3 c3 A4 c4) 47))).same (Ts:=[9]) (by simp) (Same.below (Ha.mono (by simp)))) Hk;obtain ⟨g1,o1,e1,Kk,m0⟩:=zDc ((Hd.alloc (.cells (rN r A0 r.kept.log.length c0 A1 c1 A2 c2 A3 c3 A4 c4) 47)).below (Ha.mono (by simp))) Hm;subst e3 e1;have Kf:=mA Hn;obtain ⟨Aj,nj,cj,rfl⟩:=Hn.form;have Ho:=mA Ha;clear Hn Ha;cases u1:inB r.have_[j] 0 (r.kept.log.length:Int)
   all_goals
    have UI:=mA u1;clear u1
   ·have HX:=mA (show Scu.repFault r=8 by rw [HF.out,zCt (haveBad r.kept.log.length) r.have_ j Hm (by rw [zRj,UI.out];rfl)];rfl);go_wp2
    go_quiet ((go_at_call 12;exact zBk ((zAt _ _ _ _).mono fun _ _ h=>⟨by rw [h.1,UI.out],0,h.2.symm⟩)))
    go_wp2
    go_ret
    exact ⟨zAb (zAd HX.out.symm),below_drewN (((zAa w _).trans (Ho.out.mono (by simp)))) _⟩
   have HH:=mA (show haveBad r.kept.log.length r.have_[j]=false by rw [zRj,UI.out];rfl);cases u3:(Scu.keptFault r.gives[j] != 0)
   all_goals
    have U3:=mA u3;go_wp2_with fail
    go_region_held3 (fun w'=>w'.cell? ⟨w.heap.size,6,none⟩=some (.slice (some ⟨g1,o1,none⟩) r.have_.length c1)/\w'.cell? ⟨w.heap.size,4,none⟩=some (.slice A0 r.kept.log.length c0)/\w'.cell? ⟨g1,o1+j,none⟩=some (.int .i64 r.have_[j])/\w'.cell? ⟨w.heap.size,8,none⟩=some (.slice (some ⟨g,o,none⟩) r.gives.length c3) /\
     w'.cell? ⟨g,o+j*5,none⟩=some (.int .i64 r.gives[j].view)/\w'.cell? ⟨g,o+j*5+1,none⟩=some (.int .i64 r.gives[j].normal)/\w'.cell? ⟨g,o+j*5+2,none⟩=some (.bool r.gives[j].calm) /\
     w'.cell? ⟨g,o+j*5+3,none⟩=some (.slice Aj nj cj)/\w'.cell? ⟨g,o+j*5+4,none⟩=some (.int .i64 r.gives[j].commit)) (first | go_keep | (go_split_ands;refine ⟨?_,?_,?_,?_,?_,?_,?_,?_,?_⟩ <;> (refine (h1.cell (by first | (simp;done) | (simp;omega) | omega)).trans ?_;assumption)))
     (first
      | (go_at_call 12;refine (zAt _ _ _ _).mono ?_;rintro e w1 ⟨rfl,rfl⟩;rw [UI.out])
      | (go_at_call 29;refine (zEz _ r.gives[j] _ B (Kf.out.drewN _)).mono ?_;rintro e w1 ⟨rfl,h1⟩))
    have Hp:=below_drewN ((zAa w _).trans (Ho.out.mono (by simp))) 1;have Hu:=below_drewN Ho.out 1;have Hj:=mA (Hp.trans (h1.mono Hp.size));have Kg:=mA (Hu.trans (h1.mono (by simp;omega)));clear Hp Hu;go_wp2
   ·go_roundw
    case rel =>
     refine ⟨j+1,Kc,by go_num,⟨?_,?_⟩,Kg.out⟩
     ·rw [zDx _ r.have_ j Hm,ht.out.1,HH.out];rfl
     rw [zDx _ r.gives j Hk,ht.out.2];unfold giveBad;have:=U3.out;simpa using this
    case measure=>simp only [intOf];omega
   have HX:=mA (show Scu.repFault r=8 by
    rw [HF.out,zCt giveBad r.gives j Hk (by unfold giveBad;have:=U3.out;simpa using this)];simp)
   go_ret
   exact ⟨zAb (zAd HX.out.symm),Hj.out⟩
  have Hl:(3:Int)<=(j:Int):=by omega
  have HX:=mA (show Scu.repFault r=Scu.keptFault r.kept by
   have e1:=zDy _ r.have_ j (by have:=L1.out;omega) ht.out.1;have e2:=zDy _ r.gives j (by have:=L3.out;omega) ht.out.2;rw [HF.out,e1,e2];rfl)
  have Hj:=mA ((zAa w _).trans (Ha.mono (by simp)));clear Ha;go_wp2_with fail
  refine (zEz _ r.kept _ B (HV.out.log.below Hj.out)).mono ?_;rintro e w1 ⟨rfl,h1⟩;go_wp2
  go_ret
  exact ⟨zAb (zAd HX.out.symm),Hj.out.trans (h1.mono Hj.out.size)⟩
theorem zOu (r:Scu.Replica) (h:r.kept.calm=true):Scu.leads r=(r.kept.view % 3 == r.me):=by
 unfold Scu.leads Scu.leader;rw [h,Bool.eq_iff_iff];simp
theorem zDd (vi:Int) (w:World) (h0:0<=vi):Calls Tryz.prog 85 #[.int .i64 vi] w fun e w'=>e=.returned (.int .i64 (vi % 3))/\w=w':=by
 go_enter Tryz.func85,Tryz.ntmps85
 go_wp2
 go_ret
 exact ⟨rfl,rfl⟩
theorem zF2 {P:Prop} (h:P:=by
 go_wp2
 go_ret
 exact ⟨zAb (zBa HF.out.symm),below_drewN (zAa w _) _⟩):P:=h
theorem zWp (me vi no:Int) (ca:Bool) (lv:Value) (co:Int) (hv wv gv nv:Value) (r:Scu.Replica) (h0:0<=vi) (h1:r.me=me) (h2:r.kept.view=vi) (h3:r.kept.calm=ca) (w:World) :
 Calls Tryz.prog 76 #[.agg #[.int .i64 me,.int .i64 vi,.int .i64 no,.bool ca,lv,.int .i64 co,hv,wv,gv,nv]] w fun e w'=>e=.returned (.bool (Scu.leads r))/\Below w.heap.size w w':=by
 cases ca
 ·have HF:=mA (show Scu.leads r=false by unfold Scu.leads;rw [h3];rfl);clear h1 h2 h3;go_enter Tryz.func76,Tryz.ntmps76
  go_wp2
  go_quiet (fail)
  exact zF2
 have HF:=mA (show Scu.leads r=(vi % 3 == me) by rw [zOu r h3,h1,h2]);clear h1 h2 h3;go_enter Tryz.func76,Tryz.ntmps76
 go_wp2
 go_quiet ((go_at_call 85;exact zBk ((zDd _ _ h0).mono fun _ _ h=>⟨h.1,0,h.2.symm⟩)))
 exact zF2
theorem zE2 {P:Prop} (h:P:=by
 clear h1 h2 h3;go_enter Tryz.func33,Tryz.ntmps33
 go_wp2
 go_ret
 exact ⟨zAb (zBa HF.out.symm),zAa w _⟩):P:=h
theorem zPu (me vi no:Int) (ca:Bool) (lv:Value) (co:Int) (hv wv gv nv:Value) (r:Scu.Replica) (h0:0<=vi) (h1:r.me=me) (h2:r.kept.view=vi) (h3:r.kept.calm=ca) (w:World) :
 Calls Tryz.prog 33 #[.agg #[.int .i64 me,.int .i64 vi,.int .i64 no,.bool ca,lv,.int .i64 co,hv,wv,gv,nv]] w fun e w'=>e=.returned (.bool (Scu.leads r))/\Below w.heap.size w w':=by
 cases ca
 ·have HF:=mA (show Scu.leads r=false by unfold Scu.leads;rw [h3];rfl);exact zE2
 have HF:=mA (show Scu.leads r=(vi % 3 == me) by rw [zOu r h3,h1,h2]);exact zE2
theorem zWq (lv hv wv gv nv:Value) (r:Scu.Replica) (h0:0<=r.kept.view) (w:World):Calls Tryz.prog 76 #[.agg #[.int .i64 r.me,.int .i64 r.kept.view,.int .i64 r.kept.normal,.bool r.kept.calm,lv,.int .i64 r.kept.commit,hv,wv,gv,nv]] w fun e w'=>e=.returned (.bool (Scu.leads r))/\Below w.heap.size w w' :=
 zWp _ _ _ _ _ _ _ _ _ _ r h0 rfl rfl rfl w
theorem zPv (lv hv wv gv nv:Value) (r:Scu.Replica) (h0:0<=r.kept.view) (w:World):Calls Tryz.prog 33 #[.agg #[.int .i64 r.me,.int .i64 r.kept.view,.int .i64 r.kept.normal,.bool r.kept.calm,lv,.int .i64 r.kept.commit,hv,wv,gv,nv]] w fun e w'=>e=.returned (.bool (Scu.leads r))/\Below w.heap.size w w' :=
 zPu _ _ _ _ _ _ _ _ _ _ r h0 rfl rfl rfl w
open Go.RowKit Go.ChangeShapes Go.WideShapes Go.ChangeAt
def MC2 (fr tq vi n:Int):Prop:=fr < 0\/3<=fr\/tq < 0\/3<=tq\/fr=tq\/vi < 0\/1048576 < vi\/n < 0\/60 < n
def MC3 (ki no co n:Int) (lo:List Scu.Str):Prop:=(ki≠4/\no≠0)\/(ki≠2/\n≠0)\/((ki=2\/ki=3)/\(co≠0\/lo≠[]))
def MC4 (ki fr tq vi:Int):Prop:=(ki=1/\fr≠vi % 3)\/((ki=2\/ki=4)/\tq≠vi % 3)
section
variable {ki fr tq vi no co n:Int} {lo:List Scu.Str}
theorem zLc (h:ki < 1\/4 < ki):Scu.msgFault ⟨ki,fr,tq,vi,no,co,n,lo⟩=3:=if_pos h
theorem zCg (h1:¬ (ki < 1\/4 < ki)) (h2:MC2 fr tq vi n):Scu.msgFault ⟨ki,fr,tq,vi,no,co,n,lo⟩=2:=(if_neg h1).trans (if_pos h2)
theorem zAy (h1:¬ (ki < 1\/4 < ki)) (h2:¬ MC2 fr tq vi n) (h3:MC3 ki no co n lo):Scu.msgFault ⟨ki,fr,tq,vi,no,co,n,lo⟩=4:=((if_neg h1).trans (if_neg h2)).trans (if_pos h3)
theorem zEn (h1:¬ (ki < 1\/4 < ki)) (h2:¬ MC2 fr tq vi n) (h3:¬ MC3 ki no co n lo) (h4:MC4 ki fr tq vi):Scu.msgFault ⟨ki,fr,tq,vi,no,co,n,lo⟩=4:=(((if_neg h1).trans (if_neg h2)).trans (if_neg h3)).trans (if_pos h4)
theorem zIb (h1:¬ (ki < 1\/4 < ki)) (h2:¬ MC2 fr tq vi n) (h3:¬ MC3 ki no co n lo) (h4:¬ MC4 ki fr tq vi):Scu.msgFault ⟨ki,fr,tq,vi,no,co,n,lo⟩=Scu.keptFault ⟨vi,no,false,lo,co⟩:=(((if_neg h1).trans (if_neg h2)).trans (if_neg h3)).trans (if_neg h4)
end
theorem zVx {lo:List Scu.Str} (h:decide (0 < lo.length)=false):lo=[]:=by
 have:=of_decide_eq_false h;exact List.eq_nil_of_length_eq_zero (by omega)
theorem zRk {lo:List Scu.Str} (h:decide (0 < lo.length)=true):lo≠[]:=by
 have:=of_decide_eq_true h;rintro rfl;simp at this
theorem zW1 {P:Prop} (h:P:=by
 clear HV;go_enter Tryz.func88,Tryz.ntmps88
 go_wp2
 go_ret
 exact ⟨zAb (zAd HF.out.symm),zAa w _⟩):P:=h
theorem zZ1 {P:Prop} (h:P:=by
 have HB:=mA hB;clear hB;go_wp2_with fail
 refine (zBh _ vi no false lo co _ B ((HV.out.alloc _).drewN _)).mono ?_;rintro e w1 ⟨rfl,h1⟩;go_wp2
 go_ret
 exact ⟨zAb (zAd HF.out.symm),(HB.out _).trans (h1.mono (HB.out _).size)⟩):P:=h
theorem zB2 {P:Prop} (h:P:=by
 clear HV;go_enter Tryz.func88,Tryz.ntmps88
 go_wp2
 go_quiet ((go_at_call 85;exact zBk ((zDd _ _ Ha).mono fun _ _ h=>⟨h.1,0,h.2.symm⟩)))
 go_wp2
 go_ret
 exact ⟨zAb (zAd HF.out.symm),below_drewN (zAa w _) _⟩):P:=h
theorem zPw (lv:Value) (ki fr tq vi no co n:Int) (lo:List Scu.Str) (w:World) (B:Nat) (hv:IsStrs w B lv lo) :
 Calls Tryz.prog 88 #[.agg #[.int .i64 ki,.int .i64 fr,.int .i64 tq,.int .i64 vi,.int .i64 no,.int .i64 co,.int .i64 n,lv]] w fun e w' =>
  e=.returned (.int .i64 (Scu.msgFault ⟨ki,fr,tq,vi,no,co,n,lo⟩))/\Below w.heap.size w w':=by
 have HV:=mA hv;obtain ⟨⟨A,c,rfl,_,hr⟩,hl,he⟩:=hv;unfold R47 at hl;clear hr he;cases t1:decide (ki < 1) with
 | true =>
   have HF:=mA (show Scu.msgFault ⟨ki,fr,tq,vi,no,co,n,lo⟩=3 from zLc (.inl (of_decide_eq_true t1)));exact zW1
 | false =>
 cases t2:decide ((4:Int) < ki) with
 | true =>
   have HF:=mA (show Scu.msgFault ⟨ki,fr,tq,vi,no,co,n,lo⟩=3 from zLc (.inr (of_decide_eq_true t2)));exact zW1
 | false =>
 have H1:=mA (show ¬ (ki < 1\/4 < ki) from fun h=>h.elim (of_decide_eq_false t1) (of_decide_eq_false t2));cases t3:decide (fr < 0) with
 | true =>
   have HF:=mA (show Scu.msgFault ⟨ki,fr,tq,vi,no,co,n,lo⟩=2 from zCg H1.out (.inl (of_decide_eq_true t3)));exact zW1
 | false =>
 cases t4:decide ((3:Int)<=fr) with
 | true =>
   have HF:=mA (show Scu.msgFault ⟨ki,fr,tq,vi,no,co,n,lo⟩=2 from zCg H1.out (.inr (.inl (of_decide_eq_true t4))));exact zW1
 | false =>
 cases t5:decide (tq < 0) with
 | true =>
   have HF:=mA (show Scu.msgFault ⟨ki,fr,tq,vi,no,co,n,lo⟩=2 from zCg H1.out (.inr (.inr (.inl (of_decide_eq_true t5)))));exact zW1
 | false =>
 cases t6:decide ((3:Int)<=tq) with
 | true =>
   have HF:=mA (show Scu.msgFault ⟨ki,fr,tq,vi,no,co,n,lo⟩=2 from zCg H1.out (.inr (.inr (.inr (.inl (of_decide_eq_true t6))))));exact zW1
 | false =>
 cases t7:(fr == tq) with
 | true =>
   have HF:=mA (show Scu.msgFault ⟨ki,fr,tq,vi,no,co,n,lo⟩=2 from zCg H1.out (.inr (.inr (.inr (.inr (.inl (by simpa using t7)))))));exact zW1
 | false =>
 cases t8:decide (vi < 0) with
 | true =>
   have HF:=mA (show Scu.msgFault ⟨ki,fr,tq,vi,no,co,n,lo⟩=2 from zCg H1.out (.inr (.inr (.inr (.inr (.inr (.inl (of_decide_eq_true t8))))))));exact zW1
 | false =>
 cases t9:decide ((1048576:Int) < vi) with
 | true =>
   have HF:=mA (show Scu.msgFault ⟨ki,fr,tq,vi,no,co,n,lo⟩=2 from zCg H1.out (.inr (.inr (.inr (.inr (.inr (.inr (.inl (of_decide_eq_true t9)))))))));exact zW1
 | false =>
 cases t10:decide (n < 0) with
 | true =>
   have HF:=mA (show Scu.msgFault ⟨ki,fr,tq,vi,no,co,n,lo⟩=2 from zCg H1.out (.inr (.inr (.inr (.inr (.inr (.inr (.inr (.inl (of_decide_eq_true t10))))))))));exact zW1
 | false =>
 cases t11:decide ((60:Int) < n) with
 | true =>
   have HF:=mA (show Scu.msgFault ⟨ki,fr,tq,vi,no,co,n,lo⟩=2 from zCg H1.out (.inr (.inr (.inr (.inr (.inr (.inr (.inr (.inr (of_decide_eq_true t11))))))))));exact zW1
 | false =>
 have H2:=mA (show ¬ MC2 fr tq vi n by
  have:=of_decide_eq_false t3;have:=of_decide_eq_false t4;have:=of_decide_eq_false t5;have:=of_decide_eq_false t6;have h7:fr≠tq:=by simpa using t7
  have:=of_decide_eq_false t8;have:=of_decide_eq_false t9;have:=of_decide_eq_false t10;have:=of_decide_eq_false t11;unfold MC2;omega)
 have Ha:0<=vi:=by have:=of_decide_eq_false t8;omega
 have h4:ki=1\/ki=2\/ki=3\/ki=4:=by have:=H1.out;omega
 rcases h4 with rfl | rfl | rfl | rfl;all_goals clear t1 t2
 ·cases u1:(no != 0) with
  | true =>
    have HF:=mA (show Scu.msgFault ⟨1,fr,tq,vi,no,co,n,lo⟩=4 from zAy H1.out H2.out (.inl ⟨by decide,by simpa using u1⟩));exact zW1
  | false =>
  cases u2:(n != 0) with
  | true =>
    have HF:=mA (show Scu.msgFault ⟨1,fr,tq,vi,no,co,n,lo⟩=4 from zAy H1.out H2.out (.inr (.inl ⟨by decide,by simpa using u2⟩)));exact zW1
  | false =>
  have H3:=mA (show ¬ MC3 1 no co n lo by
   have:no=0:=by simpa using u1
   have:n=0:=by simpa using u2
   unfold MC3;simp;omega)
  cases u3:(fr != vi % 3) with
  | true =>
    have HF:=mA (show Scu.msgFault ⟨1,fr,tq,vi,no,co,n,lo⟩=4 from zEn H1.out H2.out H3.out (.inl ⟨rfl,by simpa using u3⟩));exact zB2
  | false =>
  have HF:=mA (show Scu.msgFault ⟨1,fr,tq,vi,no,co,n,lo⟩=Scu.keptFault ⟨vi,no,false,lo,co⟩ from zIb H1.out H2.out H3.out (by have h:fr=vi % 3:=by { simpa using u3 };unfold MC4;omega));go_enter Tryz.func88,Tryz.ntmps88
  go_wp2
  go_quiet ((go_at_call 85;exact zBk ((zDd _ _ Ha).mono fun _ _ h=>⟨h.1,0,h.2.symm⟩)))
  have hB:=below_drewN (zAa w (.cells #[.int .i64 1,.int .i64 fr,.int .i64 tq,.int .i64 vi,.int .i64 no,.int .i64 co,.int .i64 n,.slice A lo.length c] 99));exact zZ1
 ·cases u1:(no != 0) with
  | true =>
    have HF:=mA (show Scu.msgFault ⟨2,fr,tq,vi,no,co,n,lo⟩=4 from zAy H1.out H2.out (.inl ⟨by decide,by simpa using u1⟩));exact zW1
  | false =>
  cases u2:(co != 0) with
  | true =>
    have HF:=mA (show Scu.msgFault ⟨2,fr,tq,vi,no,co,n,lo⟩=4 from zAy H1.out H2.out (.inr (.inr ⟨.inl rfl,.inl (by simpa using u2)⟩)));exact zW1
  | false =>
  cases u4:decide (0 < lo.length) with
  | true =>
    have HF:=mA (show Scu.msgFault ⟨2,fr,tq,vi,no,co,n,lo⟩=4 from zAy H1.out H2.out (.inr (.inr ⟨.inl rfl,.inr (zRk u4)⟩)));exact zW1
  | false =>
  have H3:=mA (show ¬ MC3 2 no co n lo by
   have:no=0:=by simpa using u1
   have:co=0:=by simpa using u2
   have h5:=zVx u4;unfold MC3;simp [h5];omega)
  cases u3:(tq != vi % 3) with
  | true =>
    have HF:=mA (show Scu.msgFault ⟨2,fr,tq,vi,no,co,n,lo⟩=4 from zEn H1.out H2.out H3.out (.inr ⟨.inl rfl,by simpa using u3⟩));exact zB2
  | false =>
  have HF:=mA (show Scu.msgFault ⟨2,fr,tq,vi,no,co,n,lo⟩=Scu.keptFault ⟨vi,no,false,lo,co⟩ from zIb H1.out H2.out H3.out (by have h:tq=vi % 3:=by { simpa using u3 };unfold MC4;omega));go_enter Tryz.func88,Tryz.ntmps88
  go_wp2
  go_quiet ((go_at_call 85;exact zBk ((zDd _ _ Ha).mono fun _ _ h=>⟨h.1,0,h.2.symm⟩)))
  have hB:=below_drewN (zAa w (.cells #[.int .i64 2,.int .i64 fr,.int .i64 tq,.int .i64 vi,.int .i64 no,.int .i64 co,.int .i64 n,.slice A lo.length c] 99));exact zZ1
 ·cases u1:(no != 0) with
  | true =>
    have HF:=mA (show Scu.msgFault ⟨3,fr,tq,vi,no,co,n,lo⟩=4 from zAy H1.out H2.out (.inl ⟨by decide,by simpa using u1⟩));exact zW1
  | false =>
  cases u5:(n != 0) with
  | true =>
    have HF:=mA (show Scu.msgFault ⟨3,fr,tq,vi,no,co,n,lo⟩=4 from zAy H1.out H2.out (.inr (.inl ⟨by decide,by simpa using u5⟩)));exact zW1
  | false =>
  cases u2:(co != 0) with
  | true =>
    have HF:=mA (show Scu.msgFault ⟨3,fr,tq,vi,no,co,n,lo⟩=4 from zAy H1.out H2.out (.inr (.inr ⟨.inr rfl,.inl (by simpa using u2)⟩)));exact zW1
  | false =>
  cases u4:decide (0 < lo.length) with
  | true =>
    have HF:=mA (show Scu.msgFault ⟨3,fr,tq,vi,no,co,n,lo⟩=4 from zAy H1.out H2.out (.inr (.inr ⟨.inr rfl,.inr (zRk u4)⟩)));exact zW1
  | false =>
  have H3:=mA (show ¬ MC3 3 no co n lo by
   have:no=0:=by simpa using u1
   have:co=0:=by simpa using u2
   have:n=0:=by simpa using u5
   have h5:=zVx u4;unfold MC3;simp [h5];omega)
  have HF:=mA (show Scu.msgFault ⟨3,fr,tq,vi,no,co,n,lo⟩=Scu.keptFault ⟨vi,no,false,lo,co⟩ from zIb H1.out H2.out H3.out (by unfold MC4;omega));go_enter Tryz.func88,Tryz.ntmps88
  go_wp2
  go_quiet ((go_at_call 85;exact zBk ((zDd _ _ Ha).mono fun _ _ h=>⟨h.1,0,h.2.symm⟩)))
  have hB:=below_drewN (zAa w (.cells #[.int .i64 3,.int .i64 fr,.int .i64 tq,.int .i64 vi,.int .i64 no,.int .i64 co,.int .i64 n,.slice A lo.length c] 99));exact zZ1
 cases u2:(n != 0) with
 | true =>
   have HF:=mA (show Scu.msgFault ⟨4,fr,tq,vi,no,co,n,lo⟩=4 from zAy H1.out H2.out (.inr (.inl ⟨by decide,by simpa using u2⟩)));exact zW1
 | false =>
 have H3:=mA (show ¬ MC3 4 no co n lo by
  have:n=0:=by simpa using u2
  unfold MC3;simp;omega)
 cases u3:(tq != vi % 3) with
 | true =>
   have HF:=mA (show Scu.msgFault ⟨4,fr,tq,vi,no,co,n,lo⟩=4 from zEn H1.out H2.out H3.out (.inr ⟨.inr rfl,by simpa using u3⟩));exact zB2
 | false =>
 have HF:=mA (show Scu.msgFault ⟨4,fr,tq,vi,no,co,n,lo⟩=Scu.keptFault ⟨vi,no,false,lo,co⟩ from zIb H1.out H2.out H3.out (by have h:tq=vi % 3:=by { simpa using u3 };unfold MC4;omega));go_enter Tryz.func88,Tryz.ntmps88
 go_wp2
 go_quiet ((go_at_call 85;exact zBk ((zDd _ _ Ha).mono fun _ _ h=>⟨h.1,0,h.2.symm⟩)))
 have hB:=below_drewN (zAa w (.cells #[.int .i64 4,.int .i64 fr,.int .i64 tq,.int .i64 vi,.int .i64 no,.int .i64 co,.int .i64 n,.slice A lo.length c] 99));exact zZ1
end Go.Proofs.YtlngfbngnnepiaaGreat
