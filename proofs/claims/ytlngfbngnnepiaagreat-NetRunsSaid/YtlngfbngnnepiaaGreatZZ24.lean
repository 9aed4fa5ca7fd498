/- Part 24: words and walks under the laws of the whole. -/
import Derived.Test.YtlngfbngnnepiaaGreatZZ11
import Derived.Test.YtlngfbngnnepiaaGreatZZ23
set_option linter.unusedVariables false
set_option linter.unusedSimpArgs false
set_option maxHeartbeats 4000000
set_option maxRecDepth 100000
namespace Go.Proofs.YtlngfbngnnepiaaGreat
open Go.RowKit
theorem zKo:Scu.keptFault Scu.keptNew=0:=by
 unfold Scu.keptFault Scu.keptNew Scu.kept0;simp [Scu.logFault]
theorem zHg:(Scu.keptBytes Scu.keptNew 0).size<=4000:=by
 unfold Scu.keptBytes;rw [ByteArray.size_append,Scu.sealS_size,<- Scu.encT_all];have:=Scu.encT_size zKo 0 Scu.keptNew.log.length;omega
theorem encNew:Scu.stageEncode Scu.keptNew 0=(Scu.keptBytes Scu.keptNew 0,0):=zKi (by simp [zKo]) (by omega)
theorem zRy {w:World} {base g:Nat} {a b:Scu.Str} (h:Blk w g 9 #[.string a,.string b]) (hb:base<=g) (h1:a.size<=R47) (h2:b.size<=R47):OwnStrs w base (.slice (some ⟨g,0,none⟩) 2 2) [a,b] :=
 ⟨zLd (xs:=[.string a,.string b]) h hb rfl (by unfold maxLen;omega),by simp [R47],fun s hs=>by
  simp only [List.mem_cons,List.not_mem_nil,or_false] at hs
  rcases hs with rfl | rfl
  ·exact h1
  exact h2⟩
theorem zY3 {P:Prop} (h:P:=by
 go_wp2_with fail
 refine (K.out _).mono ?_;rintro e w1 ⟨rfl,h1⟩;go_wp2
 go_ret
 refine ⟨⟨_,rfl,?_⟩,h1.alloc h1.size _⟩;rw [encNew];exact zRy (Blk.new w1 _ _) h1.size (mD zHg (by simp [R47])) (by simp [R47,Scu.str0])):P:=h
theorem zQb (w:World) :
 Calls Tryz.prog 7 #[] w fun e w'=>(∃ u,e=.returned u/\OwnStrs w' w.heap.size u Scu.stageNew)/\Below w.heap.size w w':=by
 have K:=mA (fun W=>zHd (.slice none 0 0) Scu.keptNew 0 W 0 IsStrs.nil_);go_enter Tryz.func7,Tryz.ntmps7
 exact zY3
theorem zRz (w:World) :
 Calls Tryz.prog 13 #[] w fun e w'=>(∃ u,e=.returned u/\OwnStrs w' w.heap.size u Scu.stageNew)/\Below w.heap.size w w':=by
 have K:=mA (fun W=>zJg (.slice none 0 0) Scu.keptNew 0 W 0 IsStrs.nil_);go_enter Tryz.func13,Tryz.ntmps13
 exact zY3
def LoadRet (w:World) (base:Nat) (q:Scu.Kept × Int × Int × Int) (e:Ending):Prop :=
 ∃ lv,e=.returned (.tuple #[.agg #[.int .i64 q.1.view,.int .i64 q.1.normal,.bool q.1.calm,lv,.int .i64 q.1.commit],.int .i64 q.2.1,.int .i64 q.2.2.1,.int .i64 q.2.2.2])/\OwnStrs w base lv q.1.log
theorem zHh (w:World) (base:Nat) (e:Int):LoadRet w base (Scu.kept0,0,0,e) (.returned (.tuple #[.agg #[.int .i64 0,.int .i64 0,.bool false,.slice none 0 0,.int .i64 0],.int .i64 0,.int .i64 0,.int .i64 e])) :=
 ⟨_,rfl,OwnStrs.nil_⟩
theorem zHi (s:ByteArray) (w:World) (k:Scu.Kept) (g e:Int) (h:Scu.stageDecode s=(k,g,e)) :
 Calls Tryz.prog 105 #[.string s] w fun en w'=>DecRet w' w.heap.size (k,g,e) en/\Below w.heap.size w w':=by
 have:=zLh s w;rw [h] at this;exact this
theorem zTz (s:ByteArray) (w:World) (k:Scu.Kept) (g e:Int) (h:Scu.stageDecode s=(k,g,e)) :
 Calls Tryz.prog 98 #[.string s] w fun en w'=>DecRet w' w.heap.size (k,g,e) en/\Below w.heap.size w w':=by
 have:=zTy s w;rw [h] at this;exact this
theorem zW3 {P:Prop} (h:P:=by
 go_wp2
 refine bodyPost_ret (v:=.tuple #[.agg #[.int .i64 kb.view,.int .i64 kb.normal,.bool kb.calm,.slice A2 n2 c2,.int .i64 kb.commit],.int .i64 gb,.int .i64 1,.int .i64 0]) (by simp [results,Tryz.results83,go_sem,r0,r1,r2,r3,r4]) rfl ?_;refine ⟨?_,zAn He.out (mC _)⟩;rw [HF.out];exact ⟨_,rfl,Hs.out.same (Same.sets5 (B:=0) HZ.out (mE _) (by decide) _ _ _ _ _)⟩):P:=h
theorem zX3 {P:Prop} (h:P:=by
 go_wp2
 refine bodyPost_ret (v:=.tuple #[.agg #[.int .i64 ka.view,.int .i64 ka.normal,.bool ka.calm,.slice A1 n1 c1,.int .i64 ka.commit],.int .i64 ga,.int .i64 0,.int .i64 0]) (by simp [results,Tryz.results83,go_sem,r0,r1,r2,r3,r4]) rfl ?_;refine ⟨?_,zAn He.out (mC _)⟩;rw [HF.out];exact ⟨_,rfl,Hf.out.same (Same.sets5 (B:=0) HZ.out (mE _) (by decide) _ _ _ _ _)⟩):P:=h
theorem zJo (v:Value) (l:List Scu.Str) (w:World) (B:Nat) (hv:IsStrs w B v l) :
 Calls Tryz.prog 83 #[v] w fun e w'=>LoadRet w' w.heap.size (Scu.load l) e/\Below w.heap.size w w':=by
 obtain ⟨⟨A,c,rfl,_,hr⟩,hl,he⟩:=hv;unfold R47 at hl;by_cases h2:l.length=2
 ·obtain ⟨a,b,rfl⟩:∃ a b,l=[a,b]:=by match l,h2 with | [a,b],_=>exact ⟨a,b,rfl⟩
  obtain ⟨g,o,rfl,hg,Ho⟩:=zBz hr (k:=0) (by simp);obtain ⟨g',o',e0,_,Hi⟩:=zBz hr (k:=1) (by simp);cases e0
  simp only [Nat.add_zero,List.getElem_cons_zero,List.getElem_cons_succ] at Ho Hi
  generalize da:Scu.stageDecode a=qa;generalize db:Scu.stageDecode b=qb;obtain ⟨ka,ga,ea⟩:=qa;obtain ⟨kb,gb,eb⟩:=qb;have Hb:=mA (Scu.load_two da db);have HA:=mA (fun W=>zHi a W ka ga ea da);have HB:=mA (fun W=>zHi b W kb gb eb db);clear da db h2 hl he hr;go_enter Tryz.func83,Tryz.ntmps83
  go_wp2_with fail
  refine (HA.out _).mono ?_;rintro e w1 ⟨⟨lv1,rfl,Hj⟩,h1⟩;obtain ⟨A1,n1,c1,rfl⟩:=Hj.form;have Hk:=zAf h1;have Hu:=zBd h1;have Ka:g < w1.heap.size:=by omega
  have Hv:w1.cell? ⟨g,o+1,none⟩=some (.string b):=cW Hk hg Hi;have Hw:=mA ((Blk.new w 42 #[.int .i64 0,.int .i64 0,.bool false,.slice none 0 0,.int .i64 0]).same h1);have Hp:=mA (Hj.base_ (base':=w.heap.size) (by simp));have Hl:=mA Hk;clear Hk h1 Hj Ho Hi;go_wp2_with fail
  refine (HB.out _).mono ?_;rintro e w2 ⟨⟨lv2,rfl,Hm⟩,h2⟩;obtain ⟨A2,n2,c2,rfl⟩:=Hm.form;have Hx:=zBd h2;have Hy:w.heap.size < w2.heap.size:=by omega
  have Hc:Blk w2 w1.heap.size 42 #[.int .i64 ka.view,.int .i64 ka.normal,.bool ka.calm,.slice A1 n1 c1,.int .i64 ka.commit]:=(Blk.new w1 42 #[.int .i64 ka.view,.int .i64 ka.normal,.bool ka.calm,.slice A1 n1 c1,.int .i64 ka.commit]).same h2;have hz:=(Hw.out.alloc (.cells #[.int .i64 ka.view,.int .i64 ka.normal,.bool ka.calm,.slice A1 n1 c1,.int .i64 ka.commit] 42)).same h2;have Hn:=Hl.out.trans ((zAf h2).mono Hl.out.size);have Hq:=(Hp.out.alloc _).below h2;have Hr:=Hm.base_ (base':=w.heap.size) (by have:=Hl.out.size;simp;omega);clear h2 Hm Hp;go_upto_region 5 with fail
  obtain ⟨Wd,Hg⟩:=mJ (w2.alloc (.cells #[.int .i64 kb.view,.int .i64 kb.normal,.bool kb.calm,.slice A2 n2 c2,.int .i64 kb.commit] 42));rw [<- Hg];have Hd:Below w2.heap.size w2 Wd:=by rw [Hg];exact zAa _ _
  have Hh:Blk Wd w2.heap.size 42 #[.int .i64 kb.view,.int .i64 kb.normal,.bool kb.calm,.slice A2 n2 c2,.int .i64 kb.commit]:=by rw [Hg];exact Blk.new _ _ _
  have Hc:=Hc.same Hd;have hz:=hz.same Hd;have He:=mA (Hn.trans (Hd.mono Hn.size));have Hf:=mA (Hq.below Hd);have Hs:=mA (Hr.below Hd);obtain ⟨kc0,kc1,kc2,kc3,kc4⟩:=cz5 Hc;have kcz:=Hc.frozen;obtain ⟨kd0,kd1,kd2,kd3,kd4⟩:=cz5 Hh;have kdz:=Hh.frozen;obtain ⟨zc0,zc1,zc2,zc3,zc4⟩:=cz5 hz;have zcz:=hz.frozen;have Kb:=hz.lt;have Kc:=Hc.lt;have Kd:=Hh.lt;have HZ:=mA hz;clear hz Hc Hh Hn Hq Hr Hd Hg Hv;by_cases ha:ea=0
  ·subst ha;by_cases hb:eb=0
   ·subst hb;by_cases Ht:ga < gb
    ·have HF:=mA (show Scu.load [a,b]=(kb,gb,1,0) by rw [Hb.out];rw [if_neg (by simp),if_pos (.inr ⟨rfl,Ht⟩)]);have Ha:Blk _ w.heap.size 42 #[.int .i64 kb.view,.int .i64 kb.normal,.bool kb.calm,.slice A2 n2 c2,.int .i64 kb.commit]:=((((HZ.out.set_ 0 (.int .i64 kb.view)).set_ 1 (.int .i64 kb.normal)).set_ 2 (.bool kb.calm)).set_ 3 (.slice A2 n2 c2)).set_ 4 (.int .i64 kb.commit);obtain ⟨r0,r1,r2,r3,r4⟩:=cz5 Ha;have rz:=Ha.frozen;clear Hb Ha;exact zW3
    have Ke:gb<=ga:=by omega
    have HF:=mA (show Scu.load [a,b]=(ka,ga,0,0) by rw [Hb.out];rw [if_neg (by simp),if_neg (by omega)]);have Ha:Blk _ w.heap.size 42 #[.int .i64 ka.view,.int .i64 ka.normal,.bool ka.calm,.slice A1 n1 c1,.int .i64 ka.commit]:=((((HZ.out.set_ 0 (.int .i64 ka.view)).set_ 1 (.int .i64 ka.normal)).set_ 2 (.bool ka.calm)).set_ 3 (.slice A1 n1 c1)).set_ 4 (.int .i64 ka.commit);obtain ⟨r0,r1,r2,r3,r4⟩:=cz5 Ha;have rz:=Ha.frozen;clear Hb Ht Ha;exact zX3
   have Hz:(eb != 0)=true:=by simpa using hb
   have Kf:(eb == 0)=false:=by simpa using hb
   have HF:=mA (show Scu.load [a,b]=(ka,ga,0,0) by rw [Hb.out];rw [if_neg (by simp),if_neg (by omega)]);have Ha:Blk _ w.heap.size 42 #[.int .i64 ka.view,.int .i64 ka.normal,.bool ka.calm,.slice A1 n1 c1,.int .i64 ka.commit]:=((((HZ.out.set_ 0 (.int .i64 ka.view)).set_ 1 (.int .i64 ka.normal)).set_ 2 (.bool ka.calm)).set_ 3 (.slice A1 n1 c1)).set_ 4 (.int .i64 ka.commit);obtain ⟨r0,r1,r2,r3,r4⟩:=cz5 Ha;have rz:=Ha.frozen;clear Hb hb Ha;exact zX3
  have Kg:(ea != 0)=true:=by simpa using ha
  by_cases hb:eb=0
  ·subst hb;have HF:=mA (show Scu.load [a,b]=(kb,gb,1,0) by rw [Hb.out];rw [if_neg (by simp),if_pos (.inl ha)]);have Ha:Blk _ w.heap.size 42 #[.int .i64 kb.view,.int .i64 kb.normal,.bool kb.calm,.slice A2 n2 c2,.int .i64 kb.commit]:=((((HZ.out.set_ 0 (.int .i64 kb.view)).set_ 1 (.int .i64 kb.normal)).set_ 2 (.bool kb.calm)).set_ 3 (.slice A2 n2 c2)).set_ 4 (.int .i64 kb.commit);obtain ⟨r0,r1,r2,r3,r4⟩:=cz5 Ha;have rz:=Ha.frozen;clear Hb ha Ha;exact zW3
  have Hz:(eb != 0)=true:=by simpa using hb
  have HF:=mA (show Scu.load [a,b]=(Scu.kept0,0,0,13) by rw [Hb.out,if_pos ⟨ha,hb⟩]);have Ha:Blk _ w.heap.size 42 #[.int .i64 0,.int .i64 0,.bool false,.slice none 0 0,.int .i64 0]:=((((HZ.out.set_ 0 (.int .i64 0)).set_ 1 (.int .i64 0)).set_ 2 (.bool false)).set_ 3 (.slice none 0 0)).set_ 4 (.int .i64 0);obtain ⟨r0,r1,r2,r3,r4⟩:=cz5 Ha;have rz:=Ha.frozen;clear ha hb Ha;go_wp2
  refine bodyPost_ret (v:=.tuple #[.agg #[.int .i64 0,.int .i64 0,.bool false,.slice none 0 0,.int .i64 0],.int .i64 0,.int .i64 0,.int .i64 13]) (by simp [results,Tryz.results83,go_sem,r0,r1,r2,r3,r4]) rfl ?_;exact ⟨by rw [HF.out];exact zHh _ _ _,zAn He.out (mC _)⟩
 rw [Scu.load_len h2];have hb:((l.length:Int) != 2)=true:=by simpa using (show ¬ (l.length:Int)=2 by omega)
 clear h2 hr he;go_enter Tryz.func83,Tryz.ntmps83
 go_wp2
 go_returns
 exact ⟨zHh _ _ _,(mG _ _).alloc (mC _) _⟩
end Go.Proofs.YtlngfbngnnepiaaGreat
