/- Part 28: words and walks under the laws of the whole. -/
import Derived.Test.YtlngfbngnnepiaaGreatZZ27
set_option linter.unusedVariables false
set_option linter.unusedSimpArgs false
set_option maxHeartbeats 4000000
set_option maxRecDepth 100000
namespace Go.Proofs.YtlngfbngnnepiaaGreat
open Go.RowKit
theorem zSd {s:Scu.Str} {up:Int} (h0:0<=up) (h1:up<=s.size):Scu.upTo s up=s.extract 0 up.toNat:=by
 by_cases h:up < s.size
 ·exact zLi h0 h
 rw [zDi (.inr (by omega)),show up.toNat=s.size by omega];exact (ByteArray.extract_zero_size (b:=s)).symm
theorem zCm (lv:Value) (k:Scu.Kept) (w:World) (B:Nat) (hv:IsStrs w B lv k.log) (f:Int) (h:Scu.keptFault k=f) :
 Calls Tryz.prog 29 #[.agg #[.int .i64 k.view,.int .i64 k.normal,.bool k.calm,lv,.int .i64 k.commit]] w fun e w'=>e=.returned (.int .i64 f)/\Below w.heap.size w w':=by
 have:=zEz lv k w B hv;rw [h] at this;exact this
theorem zG4 {P:Prop} (h:P:=by
 have Hd:=mA Hc;clear Hb h1 Ha Hc;go_wp2
 go_ret2
 exact ⟨zDh _ _ _,Hd.out.alloc Hd.out.size _⟩):P:=h
theorem zUj (A0:Option Addr) (n0 c0:Nat) (A2:Option Addr) (n2 c2:Nat) (l:List Scu.Str) (k:Scu.Kept) (up:Int) (k':Scu.Kept) (g a er:Int) (w:World) (B BK:Nat) (hv:IsStrs w B (.slice A0 n0 c0) l) (hk:IsStrs w BK (.slice A2 n2 c2) k.log)
 (hl:Scu.load l=(k',g,a,er)) (he:er≠0) :
 Calls Tryz.prog 65 #[.slice A0 n0 c0,.agg #[.int .i64 k.view,.int .i64 k.normal,.bool k.calm,.slice A2 n2 c2,.int .i64 k.commit],.int .i64 up] w fun e w'=>StoreRet w' w.heap.size ([],er) e/\Below w.heap.size w w':=by
 have He:(er != 0)=true:=by simpa using he
 have Hf:(er == 0)=false:=by simpa using he
 clear he;have HV:=mA hv;have HK:=mA hk;have HL:=mA hl;clear hv hk hl;go_enter Tryz.func65,Tryz.ntmps65
 go_wp2_with fail
 refine (zCf _ l _ B (HV.out.alloc _) k' g a er HL.out).mono ?_;rintro en w1 ⟨⟨lv1,rfl,Hb⟩,h1⟩;obtain ⟨A1,n1,c1,rfl⟩:=Hb.form;have Hg:=zBd h1;have Hc:=zAf h1;have Ha:=(Blk.new w 42 #[.int .i64 k.view,.int .i64 k.normal,.bool k.calm,.slice A2 n2 c2,.int .i64 k.commit]).same h1;obtain ⟨kc0,kc1,kc2,kc3,kc4⟩:=cz5 Ha;have Hh:=mA Ha;exact zG4
theorem zUk (A0:Option Addr) (n0 c0:Nat) (A2:Option Addr) (n2 c2:Nat) (l:List Scu.Str) (k:Scu.Kept) (up:Int) (k':Scu.Kept) (a:Int) (w:World) (B BK:Nat) (hv:IsStrs w B (.slice A0 n0 c0) l) (hk:IsStrs w BK (.slice A2 n2 c2) k.log)
 (hl:Scu.load l=(k',1073741824,a,0))  :
 Calls Tryz.prog 65 #[.slice A0 n0 c0,.agg #[.int .i64 k.view,.int .i64 k.normal,.bool k.calm,.slice A2 n2 c2,.int .i64 k.commit],.int .i64 up] w fun e w'=>StoreRet w' w.heap.size ([],7) e/\Below w.heap.size w w':=by
 have HV:=mA hv;have HK:=mA hk;have HL:=mA hl;clear hv hk hl;go_enter Tryz.func65,Tryz.ntmps65
 go_wp2_with fail
 refine (zCf _ l _ B (HV.out.alloc _) k' 1073741824 a 0 HL.out).mono ?_;rintro en w1 ⟨⟨lv1,rfl,Hb⟩,h1⟩;obtain ⟨A1,n1,c1,rfl⟩:=Hb.form;have He:=zBd h1;have Hc:=zAf h1;have Ha:=(Blk.new w 42 #[.int .i64 k.view,.int .i64 k.normal,.bool k.calm,.slice A2 n2 c2,.int .i64 k.commit]).same h1;obtain ⟨kc0,kc1,kc2,kc3,kc4⟩:=cz5 Ha;have Hf:=mA Ha;exact zG4
theorem zUl (A0:Option Addr) (n0 c0:Nat) (A2:Option Addr) (n2 c2:Nat) (l:List Scu.Str) (k:Scu.Kept) (up:Int) (k':Scu.Kept) (g a f:Int) (w:World) (B BK:Nat) (hv:IsStrs w B (.slice A0 n0 c0) l) (hk:IsStrs w BK (.slice A2 n2 c2) k.log)
 (hl:Scu.load l=(k',g,a,0)) (Hk:0<=g) (Hl:g < 1073741824) (He:Scu.keptFault k=f) (hf:f≠0) :
 Calls Tryz.prog 65 #[.slice A0 n0 c0,.agg #[.int .i64 k.view,.int .i64 k.normal,.bool k.calm,.slice A2 n2 c2,.int .i64 k.commit],.int .i64 up] w fun e w'=>StoreRet w' w.heap.size ([],f) e/\Below w.heap.size w w':=by
 have Hm:(g == 1073741824)=false:=by simp;omega
 have Hn:¬ 1073741824<=g:=by omega
 have Ho:(f != 0)=true:=by simpa using hf
 have Hp:(f == 0)=false:=by simpa using hf
 have HF:=mA He;clear hf He;have HV:=mA hv;have HK:=mA hk;have HL:=mA hl;clear hv hk hl;go_enter Tryz.func65,Tryz.ntmps65
 go_wp2_with fail
 refine (zCf _ l _ B (HV.out.alloc _) k' g a 0 HL.out).mono ?_;rintro en w1 ⟨⟨lv1,rfl,Hf⟩,h1⟩;obtain ⟨A1,n1,c1,rfl⟩:=Hf.form;have Hq:=zBd h1;have Hg:=zAf h1;have Ha:=(Blk.new w 42 #[.int .i64 k.view,.int .i64 k.normal,.bool k.calm,.slice A2 n2 c2,.int .i64 k.commit]).same h1;obtain ⟨kc0,kc1,kc2,kc3,kc4⟩:=cz5 Ha;have Hh:=mA Ha;have Hb:=mA Hg;clear Hf h1 Ha Hg;go_wp2_with fail
 refine (zCm _ k _ BK ((HK.out.below Hb.out).alloc _) f HF.out).mono ?_;rintro en wf ⟨rfl,Hc⟩;have Hd:=(((Hh.out.alloc _).same Hc));obtain ⟨kd0,kd1,kd2,kd3,kd4⟩:=cz5 Hd;have Hi:=mA (Hb.out.trans ((zAf Hc).mono Hb.out.size));have Hj:=Hd.lt;clear Hd Hc;go_wp2
 go_ret2
 exact ⟨zDh _ _ _,Hi.out⟩
theorem zUm (A0:Option Addr) (n0 c0:Nat) (A2:Option Addr) (n2 c2:Nat) (l:List Scu.Str) (k:Scu.Kept) (up:Int) (k':Scu.Kept) (g a:Int) (w:World) (B BK:Nat) (hv:IsStrs w B (.slice A0 n0 c0) l) (hk:IsStrs w BK (.slice A2 n2 c2) k.log)
 (hl:Scu.load l=(k',g,a,0)) (Hj:0<=g) (Hk:g < 1073741824) (hf:¬ Scu.keptFault k≠0) (hu:up < -1) :
 Calls Tryz.prog 65 #[.slice A0 n0 c0,.agg #[.int .i64 k.view,.int .i64 k.normal,.bool k.calm,.slice A2 n2 c2,.int .i64 k.commit],.int .i64 up] w fun e w'=>StoreRet w' w.heap.size ([],2) e/\Below w.heap.size w w':=by
 have Hl:(g == 1073741824)=false:=by simp;omega
 have Hm:¬ 1073741824<=g:=by omega
 have HF:=mA (Decidable.not_not.1 hf);clear hf;have HV:=mA hv;have HK:=mA hk;have HL:=mA hl;clear hv hk hl;go_enter Tryz.func65,Tryz.ntmps65
 go_wp2_with fail
 refine (zCf _ l _ B (HV.out.alloc _) k' g a 0 HL.out).mono ?_;rintro en w1 ⟨⟨lv1,rfl,He⟩,h1⟩;obtain ⟨A1,n1,c1,rfl⟩:=He.form;have Hn:=zBd h1;have Hf:=zAf h1;have Ha:=(Blk.new w 42 #[.int .i64 k.view,.int .i64 k.normal,.bool k.calm,.slice A2 n2 c2,.int .i64 k.commit]).same h1;obtain ⟨kc0,kc1,kc2,kc3,kc4⟩:=cz5 Ha;have Hg:=mA Ha;have Hb:=mA Hf;clear He h1 Ha Hf;go_wp2_with fail
 refine (zCm _ k _ BK ((HK.out.below Hb.out).alloc _) 0 HF.out).mono ?_;rintro en wf ⟨rfl,Hc⟩;have Hd:=(((Hg.out.alloc _).same Hc));obtain ⟨kd0,kd1,kd2,kd3,kd4⟩:=cz5 Hd;have Hh:=mA (Hb.out.trans ((zAf Hc).mono Hb.out.size));have Hi:=Hd.lt;clear Hd Hc;go_wp2
 go_ret2
 exact ⟨zDh _ _ _,Hh.out⟩
theorem zQi (A0:Option Addr) (n0 c0:Nat) (A2:Option Addr) (n2 c2:Nat) (l:List Scu.Str) (k:Scu.Kept) (up:Int) (k':Scu.Kept) (g:Int) (bs:Scu.Str) (w:World) (B BK:Nat) (hv:IsStrs w B (.slice A0 n0 c0) l) (hk:IsStrs w BK (.slice A2 n2 c2) k.log)
 (hl:Scu.load l=(k',g,0,0)) (Kc:0<=g) (Kd:g < 1073741824) (Hr:l.length=2) (hf:Scu.keptFault k=0) (hE:Scu.stageEncode k (g+1)=(bs,0)) (Hs:bs.size<=2488) (Ht:0<=up) (Hd:up<=(bs.size:Int)) :
 Calls Tryz.prog 65 #[.slice A0 n0 c0,.agg #[.int .i64 k.view,.int .i64 k.normal,.bool k.calm,.slice A2 n2 c2,.int .i64 k.commit],.int .i64 up] w fun e w'=>StoreRet w' w.heap.size (l.set 1 (Scu.upTo bs up),0) e/\Below w.heap.size w w':=by
 have Ke:(g == 1073741824)=false:=by simp;omega
 have Kf:¬ 1073741824<=g:=by omega
 rw [zSd Ht Hd];have Kg : -1<=up:=by omega
 have HE:=mA hE;have HF:=mA hf;have Hu:=mA Hs;have Kh:(0:Int) < (l.length:Int):=by omega
 have Ki:(1:Int) < (l.length:Int):=by omega
 have Hv:0 < l.length:=by omega
 have He:1 < l.length:=by omega
 have Kj:¬ maxLen < l.length:=by unfold maxLen;omega
 have Hw:(up == 0)=(up == 0):=rfl;clear hE hf Hr Hw;have Kk:inB up 0 (bs.size:Int)=true:=by simp only [inB,Bool.and_eq_true,decide_eq_true_eq];omega
 have HV:=mA hv;have HK:=mA hk;have HL:=mA hl;clear hv hk hl;go_enter Tryz.func65,Tryz.ntmps65
 go_wp2_with fail
 refine (zCf _ l _ B (HV.out.alloc _) k' g 0 0 HL.out).mono ?_;rintro en w1 ⟨⟨lv1,rfl,Hd⟩,h1⟩;obtain ⟨A1,n1,c1,rfl⟩:=Hd.form;have Kl:=zBd h1;have Ho:=zAf h1;have Hf:=(Blk.new w 42 #[.int .i64 k.view,.int .i64 k.normal,.bool k.calm,.slice A2 n2 c2,.int .i64 k.commit]).same h1;obtain ⟨kc0,kc1,kc2,kc3,kc4⟩:=cz5 Hf;have Hx:=mA Hf;have Hg:=mA Ho;clear Hd h1 Hf Ho;go_wp2_with fail
 refine (zCm _ k _ BK ((HK.out.below Hg.out).alloc _) 0 HF.out).mono ?_;rintro en wf ⟨rfl,Hh⟩;have Hi:=(((Hx.out.alloc _).same Hh));obtain ⟨kd0,kd1,kd2,kd3,kd4⟩:=cz5 Hi;have Hj:=mA (Hg.out.trans ((zAf Hh).mono Hg.out.size));have Hy:=Hi.lt;clear Hi Hh;go_wp2_with fail
 refine (zCz _ k (g+1) _ BK (HK.out.below Hj.out) bs 0 HE.out).mono ?_;rintro en w2 ⟨rfl,h2⟩;have Ha:=mA (Hj.out.trans (h2.mono Hj.out.size));clear h2;obtain ⟨⟨AN,cN,eN,Hz,Hk⟩,Hp,_⟩:=HV.out.below Ha.out;obtain ⟨rfl,rfl,rfl⟩:A0=AN/\n0=l.length/\c0=cN:=by cases eN;exact ⟨rfl,rfl,rfl⟩
 have Hl:=mA (zAq (size:=1) Hk (by simp) (fun e=>by subst e;have:=zBi Hk;simpa using this):Src1 w2 1 (.slice A0 l.length c0) l.length (l.map Value.string));have Hq:=mA (show 0+l.length<=maxLen/\(0+l.length)*16<=140737488355328 by unfold R47 at Hp;unfold maxLen;omega);clear eN Hz Hk Hp;go_wp2_with (first
  | (go_at_call 12;refine (zAt _ _ _ _).mono ?_;rintro en w' ⟨rfl,rfl⟩)
  | (at_builtin;refine zAz _ rfl (.const (.slice none 0 0)) (.tmp 55) 39 rfl zBl w2.heap.size (.slice none 0 0) 0 [] rfl (World.ownsRow_nil _ _ _ _) (.slice A0 l.length c0) l.length (l.map Value.string) rfl Hl.out (zBf _) Hq.out.1 Hq.out.2 (mC _) ?_))
 intro u w3 hu Hb _;have hu:w3.ownsRow w2.heap.size 9 1 u l.length (l.map Value.string):=by simpa only [Nat.zero_add,List.nil_append] using hu
 have h3:Below w.heap.size w2 w3:=zAk Hb Ha.out.size (fun q hq=>by cases hq);clear Hb;have Hm:OwnStrs w3 w2.heap.size u l:=⟨hu,HV.out.len,HV.out.each⟩;obtain ⟨g3,c3,cur3,rfl,Hb,Hn,Hc⟩:=Hm.at_ Hv;have HU:=mA Hm;have Km:=Hn.frozen;have Kn:=Hn.lt;have Ko:w3.cell? ⟨g3,1,none⟩=some (.string (l[1]'He)):=by rw [Hc 1 He,List.getElem?_map,mH He];rfl
 have Ka:=mA (Ha.out.trans h3);have Kb:=mA Hb;clear hu Hm Hc Hn h3 Hb;go_wp2
 go_ret2
 refine ⟨⟨_,rfl,?_⟩,Ka.out.setCell (p:=⟨g3,1,none⟩) (by have:=Kb.out;have:=Ha.out.size;show w.heap.size<=g3;omega) _⟩;exact (HU.out.base_ Ha.out.size).put 1 _ (by have:=Hu.out;simp only [R47];first | (rw [ByteArray.size_extract];omega) | omega)
theorem zE4 {P:Prop} (h:P:=by
 have HE:=mA hE;have HF:=mA hf;have Ht:=mA Hs;have Kh:(0:Int) < (l.length:Int):=by omega
 have Ki:(1:Int) < (l.length:Int):=by omega
 have Hu:0 < l.length:=by omega
 have He:1 < l.length:=by omega
 have Kj:¬ maxLen < l.length:=by unfold maxLen;omega
 have Hv:(up == 0)=(up == 0):=rfl;clear hE hf Hr Hv;have Kk:inB up 0 (bs.size:Int)=false:=by simp only [inB,Bool.and_eq_false_iff,decide_eq_false_iff_not];omega
 have HV:=mA hv;have HK:=mA hk;have HL:=mA hl;clear hv hk hl;go_enter Tryz.func65,Tryz.ntmps65
 go_wp2_with fail
 refine (zCf _ l _ B (HV.out.alloc _) k' g 0 0 HL.out).mono ?_;rintro en w1 ⟨⟨lv1,rfl,Hd⟩,h1⟩;obtain ⟨A1,n1,c1,rfl⟩:=Hd.form;have Kl:=zBd h1;have Ho:=zAf h1;have Hf:=(Blk.new w 42 #[.int .i64 k.view,.int .i64 k.normal,.bool k.calm,.slice A2 n2 c2,.int .i64 k.commit]).same h1;obtain ⟨kc0,kc1,kc2,kc3,kc4⟩:=cz5 Hf;have Hw:=mA Hf;have Hg:=mA Ho;clear Hd h1 Hf Ho;go_wp2_with fail
 refine (zCm _ k _ BK ((HK.out.below Hg.out).alloc _) 0 HF.out).mono ?_;rintro en wf ⟨rfl,Hh⟩;have Hi:=(((Hw.out.alloc _).same Hh));obtain ⟨kd0,kd1,kd2,kd3,kd4⟩:=cz5 Hi;have Hj:=mA (Hg.out.trans ((zAf Hh).mono Hg.out.size));have Hx:=Hi.lt;clear Hi Hh;go_wp2_with fail
 refine (zCz _ k (g+1) _ BK (HK.out.below Hj.out) bs 0 HE.out).mono ?_;rintro en w2 ⟨rfl,h2⟩;have Ha:=mA (Hj.out.trans (h2.mono Hj.out.size));clear h2;obtain ⟨⟨AN,cN,eN,Hy,Hk⟩,Hp,_⟩:=HV.out.below Ha.out;obtain ⟨rfl,rfl,rfl⟩:A0=AN/\n0=l.length/\c0=cN:=by cases eN;exact ⟨rfl,rfl,rfl⟩
 have Hl:=mA (zAq (size:=1) Hk (by simp) (fun e=>by subst e;have:=zBi Hk;simpa using this):Src1 w2 1 (.slice A0 l.length c0) l.length (l.map Value.string));have Hq:=mA (show 0+l.length<=maxLen/\(0+l.length)*16<=140737488355328 by unfold R47 at Hp;unfold maxLen;omega);clear eN Hy Hk Hp;go_wp2_with (first
  | (go_at_call 12;refine (zAt _ _ _ _).mono ?_;rintro en w' ⟨rfl,rfl⟩)
  | (at_builtin;refine zAz _ rfl (.const (.slice none 0 0)) (.tmp 55) 39 rfl zBl w2.heap.size (.slice none 0 0) 0 [] rfl (World.ownsRow_nil _ _ _ _) (.slice A0 l.length c0) l.length (l.map Value.string) rfl Hl.out (zBf _) Hq.out.1 Hq.out.2 (mC _) ?_))
 intro u w3 hu Hb _;have hu:w3.ownsRow w2.heap.size 9 1 u l.length (l.map Value.string):=by simpa only [Nat.zero_add,List.nil_append] using hu
 have h3:Below w.heap.size w2 w3:=zAk Hb Ha.out.size (fun q hq=>by cases hq);clear Hb;have Hm:OwnStrs w3 w2.heap.size u l:=⟨hu,HV.out.len,HV.out.each⟩;obtain ⟨g3,c3,cur3,rfl,Hb,Hn,Hc⟩:=Hm.at_ Hu;have HU:=mA Hm;have Km:=Hn.frozen;have Kn:=Hn.lt;have Ko:w3.cell? ⟨g3,1,none⟩=some (.string (l[1]'He)):=by rw [Hc 1 He,List.getElem?_map,mH He];rfl
 have Hz:=mA (Ha.out.trans h3);have Ka:=mA Hb;clear hu Hm Hc Hn h3 Hb;go_wp2
 go_ret2
 refine ⟨⟨_,rfl,?_⟩,Hz.out.setCell (p:=⟨g3,1,none⟩) (by have:=Ka.out;have:=Ha.out.size;show w.heap.size<=g3;omega) _⟩;exact (HU.out.base_ Ha.out.size).put 1 _ (by have:=Ht.out;simp only [R47];first | (rw [ByteArray.size_extract];omega) | omega)):P:=h
theorem zNz (A0:Option Addr) (n0 c0:Nat) (A2:Option Addr) (n2 c2:Nat) (l:List Scu.Str) (k:Scu.Kept) (up:Int) (k':Scu.Kept) (g:Int) (bs:Scu.Str) (w:World) (B BK:Nat) (hv:IsStrs w B (.slice A0 n0 c0) l) (hk:IsStrs w BK (.slice A2 n2 c2) k.log)
 (hl:Scu.load l=(k',g,0,0)) (Kb:0<=g) (Kc:g < 1073741824) (Hr:l.length=2) (hf:Scu.keptFault k=0) (hE:Scu.stageEncode k (g+1)=(bs,0)) (Hs:bs.size<=2488) (Kd : -1<=up) (Hd:up < 0) :
 Calls Tryz.prog 65 #[.slice A0 n0 c0,.agg #[.int .i64 k.view,.int .i64 k.normal,.bool k.calm,.slice A2 n2 c2,.int .i64 k.commit],.int .i64 up] w fun e w'=>StoreRet w' w.heap.size (l.set 1 (Scu.upTo bs up),0) e/\Below w.heap.size w w':=by
 have Ke:(g == 1073741824)=false:=by simp;omega
 have Kf:¬ 1073741824<=g:=by omega
 rw [zDi (.inl Hd)];have Kg:¬ 0<=up:=by omega
 exact zE4
theorem zQj (A0:Option Addr) (n0 c0:Nat) (A2:Option Addr) (n2 c2:Nat) (l:List Scu.Str) (k:Scu.Kept) (up:Int) (k':Scu.Kept) (g:Int) (bs:Scu.Str) (w:World) (B BK:Nat) (hv:IsStrs w B (.slice A0 n0 c0) l) (hk:IsStrs w BK (.slice A2 n2 c2) k.log)
 (hl:Scu.load l=(k',g,0,0)) (Kb:0<=g) (Kc:g < 1073741824) (Hr:l.length=2) (hf:Scu.keptFault k=0) (hE:Scu.stageEncode k (g+1)=(bs,0)) (Hs:bs.size<=2488) (Kd:0<=up) (Hd:(bs.size:Int) < up) :
 Calls Tryz.prog 65 #[.slice A0 n0 c0,.agg #[.int .i64 k.view,.int .i64 k.normal,.bool k.calm,.slice A2 n2 c2,.int .i64 k.commit],.int .i64 up] w fun e w'=>StoreRet w' w.heap.size (l.set 1 (Scu.upTo bs up),0) e/\Below w.heap.size w w':=by
 have Ke:(g == 1073741824)=false:=by simp;omega
 have Kf:¬ 1073741824<=g:=by omega
 rw [zDi (.inr (by omega))];have Kg : -1<=up:=by omega
 exact zE4
theorem zQk (A0:Option Addr) (n0 c0:Nat) (A2:Option Addr) (n2 c2:Nat) (l:List Scu.Str) (k:Scu.Kept) (up:Int) (k':Scu.Kept) (g:Int) (bs:Scu.Str) (w:World) (B BK:Nat) (hv:IsStrs w B (.slice A0 n0 c0) l) (hk:IsStrs w BK (.slice A2 n2 c2) k.log)
 (hl:Scu.load l=(k',g,1,0)) (Kb:0<=g) (Kc:g < 1073741824) (Hr:l.length=2) (hf:Scu.keptFault k=0) (hE:Scu.stageEncode k (g+1)=(bs,0)) (Hs:bs.size<=2488) (Ht:0<=up) (Hd:up<=(bs.size:Int)) :
 Calls Tryz.prog 65 #[.slice A0 n0 c0,.agg #[.int .i64 k.view,.int .i64 k.normal,.bool k.calm,.slice A2 n2 c2,.int .i64 k.commit],.int .i64 up] w fun e w'=>StoreRet w' w.heap.size (l.set 0 (Scu.upTo bs up),0) e/\Below w.heap.size w w':=by
 have Kd:(g == 1073741824)=false:=by simp;omega
 have Ke:¬ 1073741824<=g:=by omega
 rw [zSd Ht Hd];have Kf : -1<=up:=by omega
 have HE:=mA hE;have HF:=mA hf;have Hu:=mA Hs;have Kg:(0:Int) < (l.length:Int):=by omega
 have Kh:(1:Int) < (l.length:Int):=by omega
 have He:0 < l.length:=by omega
 have Ki:1 < l.length:=by omega
 have Kj:¬ maxLen < l.length:=by unfold maxLen;omega
 have Hv:(up == 0)=(up == 0):=rfl;clear hE hf Hr Hv;have Kk:inB up 0 (bs.size:Int)=true:=by simp only [inB,Bool.and_eq_true,decide_eq_true_eq];omega
 have HV:=mA hv;have HK:=mA hk;have HL:=mA hl;clear hv hk hl;go_enter Tryz.func65,Tryz.ntmps65
 go_wp2_with fail
 refine (zCf _ l _ B (HV.out.alloc _) k' g 1 0 HL.out).mono ?_;rintro en w1 ⟨⟨lv1,rfl,Hd⟩,h1⟩;obtain ⟨A1,n1,c1,rfl⟩:=Hd.form;have Kl:=zBd h1;have Ho:=zAf h1;have Hf:=(Blk.new w 42 #[.int .i64 k.view,.int .i64 k.normal,.bool k.calm,.slice A2 n2 c2,.int .i64 k.commit]).same h1;obtain ⟨kc0,kc1,kc2,kc3,kc4⟩:=cz5 Hf;have Hw:=mA Hf;have Hg:=mA Ho;clear Hd h1 Hf Ho;go_wp2_with fail
 refine (zCm _ k _ BK ((HK.out.below Hg.out).alloc _) 0 HF.out).mono ?_;rintro en wf ⟨rfl,Hh⟩;have Hi:=(((Hw.out.alloc _).same Hh));obtain ⟨kd0,kd1,kd2,kd3,kd4⟩:=cz5 Hi;have Hj:=mA (Hg.out.trans ((zAf Hh).mono Hg.out.size));have Hx:=Hi.lt;clear Hi Hh;go_wp2_with fail
 refine (zCz _ k (g+1) _ BK (HK.out.below Hj.out) bs 0 HE.out).mono ?_;rintro en w2 ⟨rfl,h2⟩;have Ha:=mA (Hj.out.trans (h2.mono Hj.out.size));clear h2;obtain ⟨⟨AN,cN,eN,Hy,Hk⟩,Hp,_⟩:=HV.out.below Ha.out;obtain ⟨rfl,rfl,rfl⟩:A0=AN/\n0=l.length/\c0=cN:=by cases eN;exact ⟨rfl,rfl,rfl⟩
 have Hl:=mA (zAq (size:=1) Hk (by simp) (fun e=>by subst e;have:=zBi Hk;simpa using this):Src1 w2 1 (.slice A0 l.length c0) l.length (l.map Value.string));have Hq:=mA (show 0+l.length<=maxLen/\(0+l.length)*16<=140737488355328 by unfold R47 at Hp;unfold maxLen;omega);clear eN Hy Hk Hp;go_wp2_with (first
  | (go_at_call 12;refine (zAt _ _ _ _).mono ?_;rintro en w' ⟨rfl,rfl⟩)
  | (at_builtin;refine zAz _ rfl (.const (.slice none 0 0)) (.tmp 55) 39 rfl zBl w2.heap.size (.slice none 0 0) 0 [] rfl (World.ownsRow_nil _ _ _ _) (.slice A0 l.length c0) l.length (l.map Value.string) rfl Hl.out (zBf _) Hq.out.1 Hq.out.2 (mC _) ?_))
 intro u w3 hu Hb _;have hu:w3.ownsRow w2.heap.size 9 1 u l.length (l.map Value.string):=by simpa only [Nat.zero_add,List.nil_append] using hu
 have h3:Below w.heap.size w2 w3:=zAk Hb Ha.out.size (fun q hq=>by cases hq);clear Hb;have Hm:OwnStrs w3 w2.heap.size u l:=⟨hu,HV.out.len,HV.out.each⟩;obtain ⟨g3,c3,cur3,rfl,Hb,Hn,Hc⟩:=Hm.at_ He;have HU:=mA Hm;have Km:=Hn.frozen;have Kn:=Hn.lt;have Ko:w3.cell? ⟨g3,0,none⟩=some (.string (l[0]'He)):=by rw [Hc 0 He,List.getElem?_map,mH He];rfl
 have Hz:=mA (Ha.out.trans h3);have Ka:=mA Hb;clear hu Hm Hc Hn h3 Hb;go_wp2
 go_ret2
 refine ⟨⟨_,rfl,?_⟩,Hz.out.setCell (p:=⟨g3,0,none⟩) (by have:=Ka.out;have:=Ha.out.size;show w.heap.size<=g3;omega) _⟩;exact (HU.out.base_ Ha.out.size).put 0 _ (by have:=Hu.out;simp only [R47];first | (rw [ByteArray.size_extract];omega) | omega)
theorem zF4 {P:Prop} (h:P:=by
 have Hy:=mA (Ha.out.trans h3);have Hz:=mA Hb;clear hu Hm Hc Hn h3 Hb;go_wp2
 go_ret2
 refine ⟨⟨_,rfl,?_⟩,Hy.out.setCell (p:=⟨g3,0,none⟩) (by have:=Hz.out;have:=Ha.out.size;show w.heap.size<=g3;omega) _⟩;exact (HU.out.base_ Ha.out.size).put 0 _ (by have:=Ht.out;simp only [R47];first | (rw [ByteArray.size_extract];omega) | omega)):P:=h
theorem zOa (A0:Option Addr) (n0 c0:Nat) (A2:Option Addr) (n2 c2:Nat) (l:List Scu.Str) (k:Scu.Kept) (up:Int) (k':Scu.Kept) (g:Int) (bs:Scu.Str) (w:World) (B BK:Nat) (hv:IsStrs w B (.slice A0 n0 c0) l) (hk:IsStrs w BK (.slice A2 n2 c2) k.log)
 (hl:Scu.load l=(k',g,1,0)) (Ka:0<=g) (Kb:g < 1073741824) (Hr:l.length=2) (hf:Scu.keptFault k=0) (hE:Scu.stageEncode k (g+1)=(bs,0)) (Hs:bs.size<=2488) (Kc : -1<=up) (Hd:up < 0) :
 Calls Tryz.prog 65 #[.slice A0 n0 c0,.agg #[.int .i64 k.view,.int .i64 k.normal,.bool k.calm,.slice A2 n2 c2,.int .i64 k.commit],.int .i64 up] w fun e w'=>StoreRet w' w.heap.size (l.set 0 (Scu.upTo bs up),0) e/\Below w.heap.size w w':=by
 have Kd:(g == 1073741824)=false:=by simp;omega
 have Ke:¬ 1073741824<=g:=by omega
 rw [zDi (.inl Hd)];have Kf:¬ 0<=up:=by omega
 have HE:=mA hE;have HF:=mA hf;have Ht:=mA Hs;have Kg:(0:Int) < (l.length:Int):=by omega
 have Kh:(1:Int) < (l.length:Int):=by omega
 have He:0 < l.length:=by omega
 have Ki:1 < l.length:=by omega
 have Kj:¬ maxLen < l.length:=by unfold maxLen;omega
 have Hu:(up == 0)=(up == 0):=rfl;clear hE hf Hr Hu;have Kk:inB up 0 (bs.size:Int)=false:=by simp only [inB,Bool.and_eq_false_iff,decide_eq_false_iff_not];omega
 have HV:=mA hv;have HK:=mA hk;have HL:=mA hl;clear hv hk hl;go_enter Tryz.func65,Tryz.ntmps65
 go_wp2_with fail
 refine (zCf _ l _ B (HV.out.alloc _) k' g 1 0 HL.out).mono ?_;rintro en w1 ⟨⟨lv1,rfl,Hd⟩,h1⟩;obtain ⟨A1,n1,c1,rfl⟩:=Hd.form;have Kl:=zBd h1;have Ho:=zAf h1;have Hf:=(Blk.new w 42 #[.int .i64 k.view,.int .i64 k.normal,.bool k.calm,.slice A2 n2 c2,.int .i64 k.commit]).same h1;obtain ⟨kc0,kc1,kc2,kc3,kc4⟩:=cz5 Hf;have Hv:=mA Hf;have Hg:=mA Ho;clear Hd h1 Hf Ho;go_wp2_with fail
 refine (zCm _ k _ BK ((HK.out.below Hg.out).alloc _) 0 HF.out).mono ?_;rintro en wf ⟨rfl,Hh⟩;have Hi:=(((Hv.out.alloc _).same Hh));obtain ⟨kd0,kd1,kd2,kd3,kd4⟩:=cz5 Hi;have Hj:=mA (Hg.out.trans ((zAf Hh).mono Hg.out.size));have Hw:=Hi.lt;clear Hi Hh;go_wp2_with fail
 refine (zCz _ k (g+1) _ BK (HK.out.below Hj.out) bs 0 HE.out).mono ?_;rintro en w2 ⟨rfl,h2⟩;have Ha:=mA (Hj.out.trans (h2.mono Hj.out.size));clear h2;obtain ⟨⟨AN,cN,eN,Hx,Hk⟩,Hp,_⟩:=HV.out.below Ha.out;obtain ⟨rfl,rfl,rfl⟩:A0=AN/\n0=l.length/\c0=cN:=by cases eN;exact ⟨rfl,rfl,rfl⟩
 have Hl:=mA (zAq (size:=1) Hk (by simp) (fun e=>by subst e;have:=zBi Hk;simpa using this):Src1 w2 1 (.slice A0 l.length c0) l.length (l.map Value.string));have Hq:=mA (show 0+l.length<=maxLen/\(0+l.length)*16<=140737488355328 by unfold R47 at Hp;unfold maxLen;omega);clear eN Hx Hk Hp;go_wp2_with (first
  | (go_at_call 12;refine (zAt _ _ _ _).mono ?_;rintro en w' ⟨rfl,rfl⟩)
  | (at_builtin;refine zAz _ rfl (.const (.slice none 0 0)) (.tmp 55) 39 rfl zBl w2.heap.size (.slice none 0 0) 0 [] rfl (World.ownsRow_nil _ _ _ _) (.slice A0 l.length c0) l.length (l.map Value.string) rfl Hl.out (zBf _) Hq.out.1 Hq.out.2 (mC _) ?_))
 intro u w3 hu Hb _;have hu:w3.ownsRow w2.heap.size 9 1 u l.length (l.map Value.string):=by simpa only [Nat.zero_add,List.nil_append] using hu
 have h3:Below w.heap.size w2 w3:=zAk Hb Ha.out.size (fun q hq=>by cases hq);clear Hb;have Hm:OwnStrs w3 w2.heap.size u l:=⟨hu,HV.out.len,HV.out.each⟩;obtain ⟨g3,c3,cur3,rfl,Hb,Hn,Hc⟩:=Hm.at_ He;have HU:=mA Hm;have Km:=Hn.frozen;have Kn:=Hn.lt;have Ko:w3.cell? ⟨g3,0,none⟩=some (.string (l[0]'He)):=by rw [Hc 0 He,List.getElem?_map,mH He];rfl
 exact zF4
theorem zQl (A0:Option Addr) (n0 c0:Nat) (A2:Option Addr) (n2 c2:Nat) (l:List Scu.Str) (k:Scu.Kept) (up:Int) (k':Scu.Kept) (g:Int) (bs:Scu.Str) (w:World) (B BK:Nat) (hv:IsStrs w B (.slice A0 n0 c0) l) (hk:IsStrs w BK (.slice A2 n2 c2) k.log)
 (hl:Scu.load l=(k',g,1,0)) (Ka:0<=g) (Kb:g < 1073741824) (Hr:l.length=2) (hf:Scu.keptFault k=0) (hE:Scu.stageEncode k (g+1)=(bs,0)) (Hs:bs.size<=2488) (Kc:0<=up) (He:(bs.size:Int) < up) :
 Calls Tryz.prog 65 #[.slice A0 n0 c0,.agg #[.int .i64 k.view,.int .i64 k.normal,.bool k.calm,.slice A2 n2 c2,.int .i64 k.commit],.int .i64 up] w fun e w'=>StoreRet w' w.heap.size (l.set 0 (Scu.upTo bs up),0) e/\Below w.heap.size w w':=by
 have Kd:(g == 1073741824)=false:=by simp;omega
 have Ke:¬ 1073741824<=g:=by omega
 rw [zDi (.inr (by omega))];have Kf : -1<=up:=by omega
 have HE:=mA hE;have HF:=mA hf;have Ht:=mA Hs;have Kg:(0:Int) < (l.length:Int):=by omega
 have Kh:(1:Int) < (l.length:Int):=by omega
 have Hd:0 < l.length:=by omega
 have Ki:1 < l.length:=by omega
 have Kj:¬ maxLen < l.length:=by unfold maxLen;omega
 have Hu:(up == 0)=(up == 0):=rfl;clear hE hf Hr Hu;have Kk:inB up 0 (bs.size:Int)=false:=by simp only [inB,Bool.and_eq_false_iff,decide_eq_false_iff_not];omega
 have HV:=mA hv;have HK:=mA hk;have HL:=mA hl;clear hv hk hl;go_enter Tryz.func65,Tryz.ntmps65
 go_wp2_with fail
 refine (zCf _ l _ B (HV.out.alloc _) k' g 1 0 HL.out).mono ?_;rintro en w1 ⟨⟨lv1,rfl,He⟩,h1⟩;obtain ⟨A1,n1,c1,rfl⟩:=He.form;have Kl:=zBd h1;have Ho:=zAf h1;have Hf:=(Blk.new w 42 #[.int .i64 k.view,.int .i64 k.normal,.bool k.calm,.slice A2 n2 c2,.int .i64 k.commit]).same h1;obtain ⟨kc0,kc1,kc2,kc3,kc4⟩:=cz5 Hf;have Hv:=mA Hf;have Hg:=mA Ho;clear He h1 Hf Ho;go_wp2_with fail
 refine (zCm _ k _ BK ((HK.out.below Hg.out).alloc _) 0 HF.out).mono ?_;rintro en wf ⟨rfl,Hh⟩;have Hi:=(((Hv.out.alloc _).same Hh));obtain ⟨kd0,kd1,kd2,kd3,kd4⟩:=cz5 Hi;have Hj:=mA (Hg.out.trans ((zAf Hh).mono Hg.out.size));have Hw:=Hi.lt;clear Hi Hh;go_wp2_with fail
 refine (zCz _ k (g+1) _ BK (HK.out.below Hj.out) bs 0 HE.out).mono ?_;rintro en w2 ⟨rfl,h2⟩;have Ha:=mA (Hj.out.trans (h2.mono Hj.out.size));clear h2;obtain ⟨⟨AN,cN,eN,Hx,Hk⟩,Hp,_⟩:=HV.out.below Ha.out;obtain ⟨rfl,rfl,rfl⟩:A0=AN/\n0=l.length/\c0=cN:=by cases eN;exact ⟨rfl,rfl,rfl⟩
 have Hl:=mA (zAq (size:=1) Hk (by simp) (fun e=>by subst e;have:=zBi Hk;simpa using this):Src1 w2 1 (.slice A0 l.length c0) l.length (l.map Value.string));have Hq:=mA (show 0+l.length<=maxLen/\(0+l.length)*16<=140737488355328 by unfold R47 at Hp;unfold maxLen;omega);clear eN Hx Hk Hp;go_wp2_with (first
  | (go_at_call 12;refine (zAt _ _ _ _).mono ?_;rintro en w' ⟨rfl,rfl⟩)
  | (at_builtin;refine zAz _ rfl (.const (.slice none 0 0)) (.tmp 55) 39 rfl zBl w2.heap.size (.slice none 0 0) 0 [] rfl (World.ownsRow_nil _ _ _ _) (.slice A0 l.length c0) l.length (l.map Value.string) rfl Hl.out (zBf _) Hq.out.1 Hq.out.2 (mC _) ?_))
 intro u w3 hu Hb _;have hu:w3.ownsRow w2.heap.size 9 1 u l.length (l.map Value.string):=by simpa only [Nat.zero_add,List.nil_append] using hu
 have h3:Below w.heap.size w2 w3:=zAk Hb Ha.out.size (fun q hq=>by cases hq);clear Hb;have Hm:OwnStrs w3 w2.heap.size u l:=⟨hu,HV.out.len,HV.out.each⟩;obtain ⟨g3,c3,cur3,rfl,Hb,Hn,Hc⟩:=Hm.at_ Hd;have HU:=mA Hm;have Km:=Hn.frozen;have Kn:=Hn.lt;have Ko:w3.cell? ⟨g3,0,none⟩=some (.string (l[0]'Hd)):=by rw [Hc 0 Hd,List.getElem?_map,mH Hd];rfl
 exact zF4
theorem zQm (v lv:Value) (l:List Scu.Str) (k:Scu.Kept) (up:Int) (w:World) (B BK:Nat) (hv:IsStrs w B v l) (hk:IsStrs w BK lv k.log) :
 Calls Tryz.prog 65 #[v,.agg #[.int .i64 k.view,.int .i64 k.normal,.bool k.calm,lv,.int .i64 k.commit],.int .i64 up] w fun e w'=>StoreRet w' w.heap.size (Scu.store l k up) e/\Below w.heap.size w w':=by
 obtain ⟨A0,n0,c0,rfl⟩:=hv.form;obtain ⟨A2,n2,c2,rfl⟩:=hk.form;obtain ⟨q,hl⟩:=mK (Scu.load l);obtain ⟨k',g,a,e⟩:=q;by_cases he:e=0
 ·subst he;obtain ⟨He,ha,Ha,Hf⟩:=Scu.load_at hl;by_cases hg:g=1073741824
  ·rw [st2 hl hg];subst hg;exact zUk A0 n0 c0 A2 n2 c2 l k up k' a w B BK hv hk hl
  have Hb:g < 1073741824:=by omega
  by_cases hf:Scu.keptFault k≠0
  ·rw [st3 hl hg hf];exact zUl A0 n0 c0 A2 n2 c2 l k up k' g a (Scu.keptFault k) w B BK hv hk hl Ha Hb rfl hf
  by_cases hu:up < -1
  ·rw [st4 hl hg hf hu];exact zUm A0 n0 c0 A2 n2 c2 l k up k' g a w B BK hv hk hl Ha Hb hf hu
  rw [st5 hl hg hf hu];have hE:=zKi (k:=k) (gen:=g+1) hf (by omega);have Hc:Scu.keptFault k=0:=Decidable.not_not.1 hf;have Hd:=zEf Hc (g+1);generalize Scu.keptBytes k (g+1)=bs at hE Hd;rcases ha with rfl | rfl
  ·show Calls _ _ _ _ fun e w'=>StoreRet w' w.heap.size (l.set 1 (Scu.upTo bs up),0) e/\Below w.heap.size w w'
   by_cases h0:0<=up
   ·by_cases h1:up<=(bs.size:Int)
    ·exact zQi A0 n0 c0 A2 n2 c2 l k up k' g bs w B BK hv hk hl Ha Hb He Hc hE Hd h0 h1
    exact zQj A0 n0 c0 A2 n2 c2 l k up k' g bs w B BK hv hk hl Ha Hb He Hc hE Hd h0 (by omega)
   exact zNz A0 n0 c0 A2 n2 c2 l k up k' g bs w B BK hv hk hl Ha Hb He Hc hE Hd (by omega) (by omega)
  show Calls _ _ _ _ fun e w'=>StoreRet w' w.heap.size (l.set 0 (Scu.upTo bs up),0) e/\Below w.heap.size w w'
  by_cases h0:0<=up
  ·by_cases h1:up<=(bs.size:Int)
   ·exact zQk A0 n0 c0 A2 n2 c2 l k up k' g bs w B BK hv hk hl Ha Hb He Hc hE Hd h0 h1
   exact zQl A0 n0 c0 A2 n2 c2 l k up k' g bs w B BK hv hk hl Ha Hb He Hc hE Hd h0 (by omega)
  exact zOa A0 n0 c0 A2 n2 c2 l k up k' g bs w B BK hv hk hl Ha Hb He Hc hE Hd (by omega) (by omega)
 rw [st1 hl he];exact zUj A0 n0 c0 A2 n2 c2 l k up k' g a e w B BK hv hk hl he
end Go.Proofs.YtlngfbngnnepiaaGreat
