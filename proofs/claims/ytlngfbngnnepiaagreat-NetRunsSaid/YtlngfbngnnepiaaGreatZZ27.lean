/- Part 27: words and walks under the laws of the whole. -/
import Derived.Test.YtlngfbngnnepiaaGreatZZ26
set_option linter.unusedVariables false
set_option linter.unusedSimpArgs false
set_option maxHeartbeats 4000000
set_option maxRecDepth 100000
namespace Go.Proofs.YtlngfbngnnepiaaGreat
open Go.RowKit
theorem rgo {w:World} {g o n:Nat} {cs:List Value} (H:∀ (j:Nat) (u:Value),cs[j]? = some u->w.cell? ⟨g,o+(n+j),none⟩=some u):w.rangeAt g (o+n) cs:=fun j u hj=>by rw [Nat.add_assoc];exact H j u hj
theorem zZh (A:Option Addr) (c:Nat) (ms:List Scu.Message) (w:World) (base gx:Nat) (x:Scu.Net) (rv sv fv cv tv:Value) (hN:NetG true w base gx x rv sv fv cv tv) (hb:base<=w.heap.size) (hx:IsRow 99 8 80 MsgE w 0 (.slice A ms.length c) ms)
 (Hn:∀ g,(Value.slice A ms.length c).ownBlock=some g->fv.ownBlock≠some g) (Hx:x.flying.length<=80) :
 Calls Tryz.prog 64 #[.pointer (some ⟨gx,0,none⟩),.slice A ms.length c] w fun e w'=>e=.returned (.tuple #[])/\NetGE true w' base gx { x with flying:=Scu.sendAll x.flying ms }/\Fr base w w':=by
 have Kd:ms.length<=1759218604390:=by have:=hx.len;unfold R47 at this;omega
 have HI:=mA (show SndG true base gx x w (.slice A ms.length c) ms 0 rv sv fv cv tv w from ⟨hN,hx,Hn,Fr.refl _ _⟩);clear hN hx Hn;go_enter Tryz.func64,Tryz.ntmps64
 go_wp2_with fail
 go_loopw [4] (fun i wr=>∃ (k:Nat) (rv sv fv cv tv:Value),k<=ms.length/\i=.int .i64 k/\Hid (SndG true base gx x w (.slice A ms.length c) ms k rv sv fv cv tv wr)) (fun i _=>ms.length - (intOf i).toNat)
 case atStart=>exact ⟨0,_,_,_,_,_,mE _,rfl,HI⟩
 case round =>
  obtain ⟨k,rv,sv,fv,cv,tv,hk,rfl,HR⟩:=hrel;by_cases Hg:k < ms.length
  ·have Hh:(k:Int) < (ms.length:Int):=by omega
   obtain ⟨⟨A',c',css,e,_,Ho,Hp,Hq,Hr⟩,_⟩:=HR.out.row;obtain ⟨rfl,rfl⟩:=slq e;obtain ⟨g,o,cs,rfl,Hy,Hi,Hb,lx,rfl,Hj⟩:=zHq Ho Hp (by decide) Hq Hr Hg;obtain ⟨Al,nl,cl,rfl⟩:=Hj.form;obtain ⟨c0,c1,c2,c3,c4,c5,c6,c7⟩:=rg8 (rgo Hb);have HX:=mA Hj;obtain ⟨fs,Hf⟩:=mK (Scu.sendAll x.flying (ms.take k));have Hz:fs.length<=80:=by rw [<- Hf];exact zEm _ _ Hx
   have Ha:=HR.out.net;rw [Hf] at Ha;obtain ⟨B0,e0,B1,e1,Af,cf,B3,e3,B4,e4,rfl,rfl,rfl,rfl,rfl⟩:=Ha.forms;obtain ⟨fss,Hk⟩:=Ha.fly;dsimp only at Hk Ha HR
   obtain ⟨-,-,d2,-⟩:=cz4 Ha.box;have dz:=Ha.box.frozen;have dl:=Ha.box.lt;have Hl:=mA Ha;have Hs:=mA Hk;have Ht:=mA Hf;have Hc:base<=wr.heap.size:=mD hb HR.out.low.size;clear e Ho Hp Hq Hr Hi Hb Hj Hf Ha Hk;by_cases hl:fs.length < 80
   ·have Ka:(fs.length:Int) < 80:=by omega
    have Kb:=mA (show base<=((wr.alloc (.cells (msgV ms[k] (.slice Al nl cl)).toArray 99)).drew).heap.size from mD Hc ((zAa wr _).drew).size);have Hd:=mA (show fs.length+1<=maxLen/\(fs.length+1)*80<=140737488355328 from ⟨by unfold maxLen;omega,by omega⟩);go_wp2_with fail
    go_region_law (first
     | (refine zBq _ rfl (.tmp 21) (.tmp 26) 25 rfl zCr base (.slice Af fs.length cf) fs.length fss.flatten rfl ?_ (.slice (some ⟨wr.heap.size,0,none⟩) 1 1) 1 (msgV ms[k] (.slice Al nl cl)) rfl ⟨rfl,.inr ⟨_,_,rfl,?_⟩⟩ ?_ ?_ ?_ ?_ ?_
        ·exact (zAg Hs.out.row (zAa wr _).drew)
        ·exact zNx
        ·exact zNy
        ·exact Hd.out.1
        ·exact Hd.out.2
        ·exact Kb.out
        intro v4 x4 h4 Hu Hv;have He:=HR.out.push hb Hy Hg HX.out Ht.out hl Hs.out h4 Hu Hv;have g2:=He.2.1;have gz:=He.2.2.1;have gl:=He.2.2.2;obtain ⟨A9,c9,rfl,_,_,_,_⟩:=zAi h4;have Kc:=mA He.1;clear He h4 Hu Hv))
    all_goals
     clear g2 gz gl d2 dz dl c0 c1 c2 c3 c4 c5 c6 c7;go_wp2_with fail
     go_roundw
     case rel=>exact ⟨k+1,_,_,_,_,_,by omega,rfl,Kc⟩
     case measure=>simp only [intOf];omega
   have Ka:¬ (fs.length:Int) < 80:=by omega
   have Hm:=mA (show SndG true base gx x w (.slice (some ⟨g,o,none⟩) ms.length c) ms (k+1) _ _ (.slice Af fs.length cf) _ _ wr from
    ⟨by rw [zFs Hg,Ht.out,if_neg hl];exact Hl.out,HR.out.row,HR.out.apart,HR.out.low⟩)
   go_wp2_with fail
   go_roundw
   case rel=>exact ⟨k+1,_,_,_,_,_,by omega,rfl,Hm⟩
   case measure=>simp only [intOf];omega
  have Hw:k=ms.length:=by omega
  have Hh:¬ (k:Int) < (ms.length:Int):=by omega
  have HF:=mA (show NetGE true wr base gx { x with flying:=Scu.sendAll x.flying ms }/\Fr base w wr from by
   have:=HR.out.net;rw [Hw,List.take_length] at this;exact ⟨this.e,HR.out.low⟩)
  clear Hw;go_wp2
  go_end0
  exact ⟨rfl,HF.out⟩
section
variable {l:List Scu.Str} {k k':Scu.Kept} {up g a e:Int}
theorem st1 (h:Scu.load l=(k',g,a,e)) (he:e≠0):Scu.store l k up=([],e):=by
 unfold Scu.store;simp only [h]
 rw [if_pos he]
theorem st2 (h:Scu.load l=(k',g,a,0)) (hg:g=1073741824):Scu.store l k up=([],7):=by
 unfold Scu.store;simp only [h]
 rw [if_neg (by simp),if_pos hg]
theorem st3 (h:Scu.load l=(k',g,a,0)) (hg:g≠1073741824) (hk:Scu.keptFault k≠0):Scu.store l k up=([],Scu.keptFault k):=by
 unfold Scu.store;simp only [h]
 rw [if_neg (by simp),if_neg hg,if_pos hk]
theorem st4 (h:Scu.load l=(k',g,a,0)) (hg:g≠1073741824) (hk:¬ Scu.keptFault k≠0) (hu:up < -1):Scu.store l k up=([],2):=by
 unfold Scu.store;simp only [h]
 rw [if_neg (by simp),if_neg hg,if_neg hk,if_pos hu]
theorem st5 (h:Scu.load l=(k',g,a,0)) (hg:g≠1073741824) (hk:¬ Scu.keptFault k≠0) (hu:¬ up < -1):Scu.store l k up=(l.set (1 - a).toNat (Scu.upTo (Scu.keptBytes k (g+1)) up),0):=by
 unfold Scu.store;simp only [h]
 rw [if_neg (by simp),if_neg hg,if_neg hk,if_neg hu]
theorem zLi {s:Scu.Str} (h0:0<=up) (h1:up < s.size):Scu.upTo s up=s.extract 0 up.toNat:=if_pos ⟨h0,h1⟩
theorem zDi {s:Scu.Str} (h:up < 0\/(s.size:Int)<=up):Scu.upTo s up=s:=if_neg (by omega)
end
theorem zEf {k:Scu.Kept} (h:Scu.keptFault k=0) (g:Int):(Scu.keptBytes k g).size<=2488:=by
 unfold Scu.keptBytes;rw [ByteArray.size_append,Scu.sealS_size,<- Scu.encT_all];have:=Scu.encT_size h g k.log.length;omega
def StoreRet (w:World) (base:Nat) (q:List Scu.Str × Int) (e:Ending):Prop:=∃ u,e=.returned (.tuple #[u,.int .i64 q.2])/\OwnStrs w base u q.1
theorem zDh (w:World) (base:Nat) (e:Int):StoreRet w base ([],e) (.returned (.tuple #[.slice none 0 0,.int .i64 e])):=⟨_,rfl,OwnStrs.nil_⟩
theorem zBt (lv:Value) (k:Scu.Kept) (gen:Int) (w:World) (B:Nat) (hv:IsStrs w B lv k.log) (s:Scu.Str) (e:Int) (h:Scu.stageEncode k gen=(s,e)) :
 Calls Tryz.prog 20 #[.agg #[.int .i64 k.view,.int .i64 k.normal,.bool k.calm,lv,.int .i64 k.commit],.int .i64 gen] w fun en w'=>en=.returned (.tuple #[.string s,.int .i64 e])/\Below w.heap.size w w':=by
 have:=zHd lv k gen w B hv;rw [h] at this;exact this
theorem zCz (lv:Value) (k:Scu.Kept) (gen:Int) (w:World) (B:Nat) (hv:IsStrs w B lv k.log) (s:Scu.Str) (e:Int) (h:Scu.stageEncode k gen=(s,e)) :
 Calls Tryz.prog 28 #[.agg #[.int .i64 k.view,.int .i64 k.normal,.bool k.calm,lv,.int .i64 k.commit],.int .i64 gen] w fun en w'=>en=.returned (.tuple #[.string s,.int .i64 e])/\Below w.heap.size w w':=by
 have:=zJg lv k gen w B hv;rw [h] at this;exact this
open Go.RowKit
theorem zC4 {P:Prop} (h:P:=by
 have Hb:=zAf h1;have Hc:=(Blk.new w 42 #[.int .i64 k.view,.int .i64 k.normal,.bool k.calm,.slice A2 n2 c2,.int .i64 k.commit]).same h1;obtain ⟨kc0,kc1,kc2,kc3,kc4⟩:=cz5 Hc;have Hd:=mA Hb;clear Ha h1 Hc Hb;go_wp2
 go_ret2
 exact ⟨zDh _ _ _,Hd.out.alloc Hd.out.size _⟩):P:=h
theorem zXh (A0:Option Addr) (n0 c0:Nat) (A2:Option Addr) (n2 c2:Nat) (l:List Scu.Str) (k:Scu.Kept) (up:Int) (k':Scu.Kept) (g a er:Int) (w:World) (B BK:Nat) (hv:IsStrs w B (.slice A0 n0 c0) l) (hk:IsStrs w BK (.slice A2 n2 c2) k.log)
 (hl:Scu.load l=(k',g,a,er)) (he:er≠0) :
 Calls Tryz.prog 82 #[.slice A0 n0 c0,.agg #[.int .i64 k.view,.int .i64 k.normal,.bool k.calm,.slice A2 n2 c2,.int .i64 k.commit],.int .i64 up] w fun e w'=>StoreRet w' w.heap.size ([],er) e/\Below w.heap.size w w':=by
 have He:(er != 0)=true:=by simpa using he
 have Hf:(er == 0)=false:=by simpa using he
 clear he;have HV:=mA hv;have HK:=mA hk;have HL:=mA hl;clear hv hk hl;go_enter Tryz.func82,Tryz.ntmps82
 go_wp2_with fail
 refine (zBx _ l _ B (HV.out.alloc _) k' g a er HL.out).mono ?_;rintro en w1 ⟨⟨lv1,rfl,Ha⟩,h1⟩;obtain ⟨A1,n1,c1,rfl⟩:=Ha.form;have Hg:=zBd h1;exact zC4
theorem zXi (A0:Option Addr) (n0 c0:Nat) (A2:Option Addr) (n2 c2:Nat) (l:List Scu.Str) (k:Scu.Kept) (up:Int) (k':Scu.Kept) (a:Int) (w:World) (B BK:Nat) (hv:IsStrs w B (.slice A0 n0 c0) l) (hk:IsStrs w BK (.slice A2 n2 c2) k.log)
 (hl:Scu.load l=(k',1073741824,a,0))  :
 Calls Tryz.prog 82 #[.slice A0 n0 c0,.agg #[.int .i64 k.view,.int .i64 k.normal,.bool k.calm,.slice A2 n2 c2,.int .i64 k.commit],.int .i64 up] w fun e w'=>StoreRet w' w.heap.size ([],7) e/\Below w.heap.size w w':=by
 have HV:=mA hv;have HK:=mA hk;have HL:=mA hl;clear hv hk hl;go_enter Tryz.func82,Tryz.ntmps82
 go_wp2_with fail
 refine (zBx _ l _ B (HV.out.alloc _) k' 1073741824 a 0 HL.out).mono ?_;rintro en w1 ⟨⟨lv1,rfl,Ha⟩,h1⟩;obtain ⟨A1,n1,c1,rfl⟩:=Ha.form;have He:=zBd h1;exact zC4
theorem zD4 {P:Prop} (h:P:=by
 have He:=mA (Ha.out.trans ((zAf h2).mono Ha.out.size));have Hf:=zBd h2;clear h2;go_wp2
 go_ret2
 exact ⟨zDh _ _ _,He.out⟩):P:=h
theorem zXj (A0:Option Addr) (n0 c0:Nat) (A2:Option Addr) (n2 c2:Nat) (l:List Scu.Str) (k:Scu.Kept) (up:Int) (k':Scu.Kept) (g a:Int) (w:World) (B BK:Nat) (hv:IsStrs w B (.slice A0 n0 c0) l) (hk:IsStrs w BK (.slice A2 n2 c2) k.log)
 (hl:Scu.load l=(k',g,a,0)) (Hg:0<=g) (Hh:g < 1073741824) (hf:Scu.keptFault k≠0) :
 Calls Tryz.prog 82 #[.slice A0 n0 c0,.agg #[.int .i64 k.view,.int .i64 k.normal,.bool k.calm,.slice A2 n2 c2,.int .i64 k.commit],.int .i64 up] w fun e w'=>StoreRet w' w.heap.size ([],Scu.keptFault k) e/\Below w.heap.size w w':=by
 have Hi:(g == 1073741824)=false:=by simp;omega
 have Hj:¬ 1073741824<=g:=by omega
 have HE:=mA (zNq (k:=k) (gen:=g+1) hf);have Hk:(Scu.keptFault k != 0)=true:=by simpa using hf
 clear hf;have HV:=mA hv;have HK:=mA hk;have HL:=mA hl;clear hv hk hl;go_enter Tryz.func82,Tryz.ntmps82
 go_wp2_with fail
 refine (zBx _ l _ B (HV.out.alloc _) k' g a 0 HL.out).mono ?_;rintro en w1 ⟨⟨lv1,rfl,Hb⟩,h1⟩;obtain ⟨A1,n1,c1,rfl⟩:=Hb.form;have Hl:=zBd h1;have Hc:=zAf h1;have Hd:=(Blk.new w 42 #[.int .i64 k.view,.int .i64 k.normal,.bool k.calm,.slice A2 n2 c2,.int .i64 k.commit]).same h1;obtain ⟨kc0,kc1,kc2,kc3,kc4⟩:=cz5 Hd;have Ha:=mA Hc;clear Hb h1 Hd Hc;go_wp2_with fail
 refine (zBt _ k (g+1) _ BK ((HK.out.below Ha.out).alloc _) Scu.str0 (Scu.keptFault k) HE.out).mono ?_;rintro en w2 ⟨rfl,h2⟩;exact zD4
theorem zXk (A0:Option Addr) (n0 c0:Nat) (A2:Option Addr) (n2 c2:Nat) (l:List Scu.Str) (k:Scu.Kept) (up:Int) (k':Scu.Kept) (g a:Int) (w:World) (B BK:Nat) (hv:IsStrs w B (.slice A0 n0 c0) l) (hk:IsStrs w BK (.slice A2 n2 c2) k.log)
 (hl:Scu.load l=(k',g,a,0)) (Hg:0<=g) (Hh:g < 1073741824) (hf:¬ Scu.keptFault k≠0) (hu:up < -1) :
 Calls Tryz.prog 82 #[.slice A0 n0 c0,.agg #[.int .i64 k.view,.int .i64 k.normal,.bool k.calm,.slice A2 n2 c2,.int .i64 k.commit],.int .i64 up] w fun e w'=>StoreRet w' w.heap.size ([],2) e/\Below w.heap.size w w':=by
 have Hi:(g == 1073741824)=false:=by simp;omega
 have Hj:¬ 1073741824<=g:=by omega
 have HE:=mA (zKi (k:=k) (gen:=g+1) hf (by omega));generalize Scu.keptBytes k (g+1)=bs at HE;clear hf;have HV:=mA hv;have HK:=mA hk;have HL:=mA hl;clear hv hk hl;go_enter Tryz.func82,Tryz.ntmps82
 go_wp2_with fail
 refine (zBx _ l _ B (HV.out.alloc _) k' g a 0 HL.out).mono ?_;rintro en w1 ⟨⟨lv1,rfl,Hb⟩,h1⟩;obtain ⟨A1,n1,c1,rfl⟩:=Hb.form;have Hk:=zBd h1;have Hc:=zAf h1;have Hd:=(Blk.new w 42 #[.int .i64 k.view,.int .i64 k.normal,.bool k.calm,.slice A2 n2 c2,.int .i64 k.commit]).same h1;obtain ⟨kc0,kc1,kc2,kc3,kc4⟩:=cz5 Hd;have Ha:=mA Hc;clear Hb h1 Hd Hc;go_wp2_with fail
 refine (zBt _ k (g+1) _ BK ((HK.out.below Ha.out).alloc _) bs 0 HE.out).mono ?_;rintro en w2 ⟨rfl,h2⟩;exact zD4
theorem zQc (A0:Option Addr) (n0 c0:Nat) (A2:Option Addr) (n2 c2:Nat) (l:List Scu.Str) (k:Scu.Kept) (up:Int) (k':Scu.Kept) (g:Int) (bs:Scu.Str) (w:World) (B BK:Nat) (hv:IsStrs w B (.slice A0 n0 c0) l) (hk:IsStrs w BK (.slice A2 n2 c2) k.log)
 (hl:Scu.load l=(k',g,0,0)) (Ht:0<=g) (Hu:g < 1073741824) (Hk:l.length=2) (hf:Scu.keptFault k=0) (hE:Scu.stageEncode k (g+1)=(bs,0)) (Hl:bs.size<=2488) (Hm:0<=up) (Hc:up < (bs.size:Int)) :
 Calls Tryz.prog 82 #[.slice A0 n0 c0,.agg #[.int .i64 k.view,.int .i64 k.normal,.bool k.calm,.slice A2 n2 c2,.int .i64 k.commit],.int .i64 up] w fun e w'=>StoreRet w' w.heap.size (l.set 1 (Scu.upTo bs up),0) e/\Below w.heap.size w w':=by
 have Hv:(g == 1073741824)=false:=by simp;omega
 have Hw:¬ 1073741824<=g:=by omega
 rw [zLi Hm Hc];have Hx : -1<=up:=by omega
 have HE:=mA hE;have HF:=mA hf;have Hn:=mA Hl;have Hy:(0:Int) < (l.length:Int):=by omega
 have Hz:(1:Int) < (l.length:Int):=by omega
 have Ho:0 < l.length:=by omega
 have Hd:1 < l.length:=by omega
 have Ka:¬ maxLen < l.length:=by unfold maxLen;omega
 have Hp:(up == 0)=(up == 0):=rfl;clear hE hf Hk Hp;have HV:=mA hv;have HK:=mA hk;have HL:=mA hl;clear hv hk hl;go_enter Tryz.func82,Tryz.ntmps82
 go_wp2_with fail
 refine (zBx _ l _ B (HV.out.alloc _) k' g 0 0 HL.out).mono ?_;rintro en w1 ⟨⟨lv1,rfl,Hc⟩,h1⟩;obtain ⟨A1,n1,c1,rfl⟩:=Hc.form;have Kb:=zBd h1;have Hh:=zAf h1;have Hi:=(Blk.new w 42 #[.int .i64 k.view,.int .i64 k.normal,.bool k.calm,.slice A2 n2 c2,.int .i64 k.commit]).same h1;obtain ⟨kc0,kc1,kc2,kc3,kc4⟩:=cz5 Hi;have He:=mA Hh;clear Hc h1 Hi Hh;go_wp2_with fail
 refine (zBt _ k (g+1) _ BK ((HK.out.below He.out).alloc _) bs 0 HE.out).mono ?_;rintro en w2 ⟨rfl,h2⟩;have Ha:=mA (He.out.trans ((zAf h2).mono He.out.size));have Hq:=zBd h2;clear h2;go_wp2_with fail
 refine (zAp _ l _ B (HV.out.below Ha.out)).mono ?_;rintro en w3 ⟨⟨u,rfl,hu⟩,h3⟩;have Hf:OwnStrs w3 w2.heap.size u l:=⟨hu,HV.out.len,HV.out.each⟩;have h3:=h3.mono Ha.out.size;obtain ⟨g3,c3,cur3,rfl,Hj,Hg,Hb⟩:=Hf.at_ Ho;have HU:=mA Hf;have Kc:=Hg.frozen;have Kd:=Hg.lt;have Ke:w3.cell? ⟨g3,1,none⟩=some (.string (l[1]'Hd)):=by rw [Hb 1 Hd,List.getElem?_map,mH Hd];rfl
 have Hr:=mA (Ha.out.trans h3);have Hs:=mA Hj;clear hu Hf Hb Hg h3 Hj;go_wp2
 go_ret2
 refine ⟨⟨_,rfl,?_⟩,Hr.out.setCell (p:=⟨g3,1,none⟩) (by have:=Hs.out;have:=Ha.out.size;show w.heap.size<=g3;omega) _⟩;exact (HU.out.base_ Ha.out.size).put 1 _ (by have:=Hn.out;simp only [R47];first | (rw [ByteArray.size_extract];omega) | omega)
theorem zA4 {P:Prop} (h:P:=by
 have HE:=mA hE;have HF:=mA hf;have Hm:=mA Hl;have Hy:(0:Int) < (l.length:Int):=by omega
 have Hz:(1:Int) < (l.length:Int):=by omega
 have Hn:0 < l.length:=by omega
 have Hd:1 < l.length:=by omega
 have Ka:¬ maxLen < l.length:=by unfold maxLen;omega
 have Ho:(up == 0)=(up == 0):=rfl;clear hE hf Hk Ho;have HV:=mA hv;have HK:=mA hk;have HL:=mA hl;clear hv hk hl;go_enter Tryz.func82,Tryz.ntmps82
 go_wp2_with fail
 refine (zBx _ l _ B (HV.out.alloc _) k' g 0 0 HL.out).mono ?_;rintro en w1 ⟨⟨lv1,rfl,Hc⟩,h1⟩;obtain ⟨A1,n1,c1,rfl⟩:=Hc.form;have Kb:=zBd h1;have Hh:=zAf h1;have Hi:=(Blk.new w 42 #[.int .i64 k.view,.int .i64 k.normal,.bool k.calm,.slice A2 n2 c2,.int .i64 k.commit]).same h1;obtain ⟨kc0,kc1,kc2,kc3,kc4⟩:=cz5 Hi;have He:=mA Hh;clear Hc h1 Hi Hh;go_wp2_with fail
 refine (zBt _ k (g+1) _ BK ((HK.out.below He.out).alloc _) bs 0 HE.out).mono ?_;rintro en w2 ⟨rfl,h2⟩;have Ha:=mA (He.out.trans ((zAf h2).mono He.out.size));have Hp:=zBd h2;clear h2;go_wp2_with fail
 refine (zAp _ l _ B (HV.out.below Ha.out)).mono ?_;rintro en w3 ⟨⟨u,rfl,hu⟩,h3⟩;have Hf:OwnStrs w3 w2.heap.size u l:=⟨hu,HV.out.len,HV.out.each⟩;have h3:=h3.mono Ha.out.size;obtain ⟨g3,c3,cur3,rfl,Hj,Hg,Hb⟩:=Hf.at_ Hn;have HU:=mA Hf;have Kc:=Hg.frozen;have Kd:=Hg.lt;have Ke:w3.cell? ⟨g3,1,none⟩=some (.string (l[1]'Hd)):=by rw [Hb 1 Hd,List.getElem?_map,mH Hd];rfl
 have Hq:=mA (Ha.out.trans h3);have Hr:=mA Hj;clear hu Hf Hb Hg h3 Hj;go_wp2
 go_ret2
 refine ⟨⟨_,rfl,?_⟩,Hq.out.setCell (p:=⟨g3,1,none⟩) (by have:=Hr.out;have:=Ha.out.size;show w.heap.size<=g3;omega) _⟩;exact (HU.out.base_ Ha.out.size).put 1 _ (by have:=Hm.out;simp only [R47];first | (rw [ByteArray.size_extract];omega) | omega)):P:=h
theorem zQd (A0:Option Addr) (n0 c0:Nat) (A2:Option Addr) (n2 c2:Nat) (l:List Scu.Str) (k:Scu.Kept) (up:Int) (k':Scu.Kept) (g:Int) (bs:Scu.Str) (w:World) (B BK:Nat) (hv:IsStrs w B (.slice A0 n0 c0) l) (hk:IsStrs w BK (.slice A2 n2 c2) k.log)
 (hl:Scu.load l=(k',g,0,0)) (Hs:0<=g) (Ht:g < 1073741824) (Hk:l.length=2) (hf:Scu.keptFault k=0) (hE:Scu.stageEncode k (g+1)=(bs,0)) (Hl:bs.size<=2488) (Hu : -1<=up) (Hc:up < 0) :
 Calls Tryz.prog 82 #[.slice A0 n0 c0,.agg #[.int .i64 k.view,.int .i64 k.normal,.bool k.calm,.slice A2 n2 c2,.int .i64 k.commit],.int .i64 up] w fun e w'=>StoreRet w' w.heap.size (l.set 1 (Scu.upTo bs up),0) e/\Below w.heap.size w w':=by
 have Hv:(g == 1073741824)=false:=by simp;omega
 have Hw:¬ 1073741824<=g:=by omega
 rw [zDi (.inl Hc)];have Hx:¬ 0<=up:=by omega
 exact zA4
theorem zQe (A0:Option Addr) (n0 c0:Nat) (A2:Option Addr) (n2 c2:Nat) (l:List Scu.Str) (k:Scu.Kept) (up:Int) (k':Scu.Kept) (g:Int) (bs:Scu.Str) (w:World) (B BK:Nat) (hv:IsStrs w B (.slice A0 n0 c0) l) (hk:IsStrs w BK (.slice A2 n2 c2) k.log)
 (hl:Scu.load l=(k',g,0,0)) (Hs:0<=g) (Ht:g < 1073741824) (Hk:l.length=2) (hf:Scu.keptFault k=0) (hE:Scu.stageEncode k (g+1)=(bs,0)) (Hl:bs.size<=2488) (Hu:0<=up) (Hc:(bs.size:Int)<=up) :
 Calls Tryz.prog 82 #[.slice A0 n0 c0,.agg #[.int .i64 k.view,.int .i64 k.normal,.bool k.calm,.slice A2 n2 c2,.int .i64 k.commit],.int .i64 up] w fun e w'=>StoreRet w' w.heap.size (l.set 1 (Scu.upTo bs up),0) e/\Below w.heap.size w w':=by
 have Hv:(g == 1073741824)=false:=by simp;omega
 have Hw:¬ 1073741824<=g:=by omega
 rw [zDi (.inr Hc)];have Hx : -1<=up:=by omega
 exact zA4
theorem zQf (A0:Option Addr) (n0 c0:Nat) (A2:Option Addr) (n2 c2:Nat) (l:List Scu.Str) (k:Scu.Kept) (up:Int) (k':Scu.Kept) (g:Int) (bs:Scu.Str) (w:World) (B BK:Nat) (hv:IsStrs w B (.slice A0 n0 c0) l) (hk:IsStrs w BK (.slice A2 n2 c2) k.log)
 (hl:Scu.load l=(k',g,1,0)) (Hs:0<=g) (Ht:g < 1073741824) (Hk:l.length=2) (hf:Scu.keptFault k=0) (hE:Scu.stageEncode k (g+1)=(bs,0)) (Hl:bs.size<=2488) (Hm:0<=up) (Hc:up < (bs.size:Int)) :
 Calls Tryz.prog 82 #[.slice A0 n0 c0,.agg #[.int .i64 k.view,.int .i64 k.normal,.bool k.calm,.slice A2 n2 c2,.int .i64 k.commit],.int .i64 up] w fun e w'=>StoreRet w' w.heap.size (l.set 0 (Scu.upTo bs up),0) e/\Below w.heap.size w w':=by
 have Hu:(g == 1073741824)=false:=by simp;omega
 have Hv:¬ 1073741824<=g:=by omega
 rw [zLi Hm Hc];have Hw : -1<=up:=by omega
 have HE:=mA hE;have HF:=mA hf;have Hn:=mA Hl;have Hx:(0:Int) < (l.length:Int):=by omega
 have Hy:(1:Int) < (l.length:Int):=by omega
 have Hd:0 < l.length:=by omega
 have Hz:1 < l.length:=by omega
 have Ka:¬ maxLen < l.length:=by unfold maxLen;omega
 have Ho:(up == 0)=(up == 0):=rfl;clear hE hf Hk Ho;have HV:=mA hv;have HK:=mA hk;have HL:=mA hl;clear hv hk hl;go_enter Tryz.func82,Tryz.ntmps82
 go_wp2_with fail
 refine (zBx _ l _ B (HV.out.alloc _) k' g 1 0 HL.out).mono ?_;rintro en w1 ⟨⟨lv1,rfl,Hc⟩,h1⟩;obtain ⟨A1,n1,c1,rfl⟩:=Hc.form;have Kb:=zBd h1;have Hh:=zAf h1;have Hi:=(Blk.new w 42 #[.int .i64 k.view,.int .i64 k.normal,.bool k.calm,.slice A2 n2 c2,.int .i64 k.commit]).same h1;obtain ⟨kc0,kc1,kc2,kc3,kc4⟩:=cz5 Hi;have He:=mA Hh;clear Hc h1 Hi Hh;go_wp2_with fail
 refine (zBt _ k (g+1) _ BK ((HK.out.below He.out).alloc _) bs 0 HE.out).mono ?_;rintro en w2 ⟨rfl,h2⟩;have Ha:=mA (He.out.trans ((zAf h2).mono He.out.size));have Hp:=zBd h2;clear h2;go_wp2_with fail
 refine (zAp _ l _ B (HV.out.below Ha.out)).mono ?_;rintro en w3 ⟨⟨u,rfl,hu⟩,h3⟩;have Hf:OwnStrs w3 w2.heap.size u l:=⟨hu,HV.out.len,HV.out.each⟩;have h3:=h3.mono Ha.out.size;obtain ⟨g3,c3,cur3,rfl,Hj,Hg,Hb⟩:=Hf.at_ Hd;have HU:=mA Hf;have Kc:=Hg.frozen;have Kd:=Hg.lt;have Ke:w3.cell? ⟨g3,0,none⟩=some (.string (l[0]'Hd)):=by rw [Hb 0 Hd,List.getElem?_map,mH Hd];rfl
 have Hq:=mA (Ha.out.trans h3);have Hr:=mA Hj;clear hu Hf Hb Hg h3 Hj;go_wp2
 go_ret2
 refine ⟨⟨_,rfl,?_⟩,Hq.out.setCell (p:=⟨g3,0,none⟩) (by have:=Hr.out;have:=Ha.out.size;show w.heap.size<=g3;omega) _⟩;exact (HU.out.base_ Ha.out.size).put 0 _ (by have:=Hn.out;simp only [R47];first | (rw [ByteArray.size_extract];omega) | omega)
theorem zB4 {P:Prop} (h:P:=by
 have HE:=mA hE;have HF:=mA hf;have Hm:=mA Hl;have Hx:(0:Int) < (l.length:Int):=by omega
 have Hy:(1:Int) < (l.length:Int):=by omega
 have Hd:0 < l.length:=by omega
 have Hz:1 < l.length:=by omega
 have Ka:¬ maxLen < l.length:=by unfold maxLen;omega
 have Hn:(up == 0)=(up == 0):=rfl;clear hE hf Hk Hn;have HV:=mA hv;have HK:=mA hk;have HL:=mA hl;clear hv hk hl;go_enter Tryz.func82,Tryz.ntmps82
 go_wp2_with fail
 refine (zBx _ l _ B (HV.out.alloc _) k' g 1 0 HL.out).mono ?_;rintro en w1 ⟨⟨lv1,rfl,Hc⟩,h1⟩;obtain ⟨A1,n1,c1,rfl⟩:=Hc.form;have Kb:=zBd h1;have Hh:=zAf h1;have Hi:=(Blk.new w 42 #[.int .i64 k.view,.int .i64 k.normal,.bool k.calm,.slice A2 n2 c2,.int .i64 k.commit]).same h1;obtain ⟨kc0,kc1,kc2,kc3,kc4⟩:=cz5 Hi;have He:=mA Hh;clear Hc h1 Hi Hh;go_wp2_with fail
 refine (zBt _ k (g+1) _ BK ((HK.out.below He.out).alloc _) bs 0 HE.out).mono ?_;rintro en w2 ⟨rfl,h2⟩;have Ha:=mA (He.out.trans ((zAf h2).mono He.out.size));have Ho:=zBd h2;clear h2;go_wp2_with fail
 refine (zAp _ l _ B (HV.out.below Ha.out)).mono ?_;rintro en w3 ⟨⟨u,rfl,hu⟩,h3⟩;have Hf:OwnStrs w3 w2.heap.size u l:=⟨hu,HV.out.len,HV.out.each⟩;have h3:=h3.mono Ha.out.size;obtain ⟨g3,c3,cur3,rfl,Hj,Hg,Hb⟩:=Hf.at_ Hd;have HU:=mA Hf;have Kc:=Hg.frozen;have Kd:=Hg.lt;have Ke:w3.cell? ⟨g3,0,none⟩=some (.string (l[0]'Hd)):=by rw [Hb 0 Hd,List.getElem?_map,mH Hd];rfl
 have Hp:=mA (Ha.out.trans h3);have Hq:=mA Hj;clear hu Hf Hb Hg h3 Hj;go_wp2
 go_ret2
 refine ⟨⟨_,rfl,?_⟩,Hp.out.setCell (p:=⟨g3,0,none⟩) (by have:=Hq.out;have:=Ha.out.size;show w.heap.size<=g3;omega) _⟩;exact (HU.out.base_ Ha.out.size).put 0 _ (by have:=Hm.out;simp only [R47];first | (rw [ByteArray.size_extract];omega) | omega)):P:=h
theorem zQg (A0:Option Addr) (n0 c0:Nat) (A2:Option Addr) (n2 c2:Nat) (l:List Scu.Str) (k:Scu.Kept) (up:Int) (k':Scu.Kept) (g:Int) (bs:Scu.Str) (w:World) (B BK:Nat) (hv:IsStrs w B (.slice A0 n0 c0) l) (hk:IsStrs w BK (.slice A2 n2 c2) k.log)
 (hl:Scu.load l=(k',g,1,0)) (Hr:0<=g) (Hs:g < 1073741824) (Hk:l.length=2) (hf:Scu.keptFault k=0) (hE:Scu.stageEncode k (g+1)=(bs,0)) (Hl:bs.size<=2488) (Ht : -1<=up) (Hc:up < 0) :
 Calls Tryz.prog 82 #[.slice A0 n0 c0,.agg #[.int .i64 k.view,.int .i64 k.normal,.bool k.calm,.slice A2 n2 c2,.int .i64 k.commit],.int .i64 up] w fun e w'=>StoreRet w' w.heap.size (l.set 0 (Scu.upTo bs up),0) e/\Below w.heap.size w w':=by
 have Hu:(g == 1073741824)=false:=by simp;omega
 have Hv:¬ 1073741824<=g:=by omega
 rw [zDi (.inl Hc)];have Hw:¬ 0<=up:=by omega
 exact zB4
theorem zQh (A0:Option Addr) (n0 c0:Nat) (A2:Option Addr) (n2 c2:Nat) (l:List Scu.Str) (k:Scu.Kept) (up:Int) (k':Scu.Kept) (g:Int) (bs:Scu.Str) (w:World) (B BK:Nat) (hv:IsStrs w B (.slice A0 n0 c0) l) (hk:IsStrs w BK (.slice A2 n2 c2) k.log)
 (hl:Scu.load l=(k',g,1,0)) (Hr:0<=g) (Hs:g < 1073741824) (Hk:l.length=2) (hf:Scu.keptFault k=0) (hE:Scu.stageEncode k (g+1)=(bs,0)) (Hl:bs.size<=2488) (Ht:0<=up) (Hc:(bs.size:Int)<=up) :
 Calls Tryz.prog 82 #[.slice A0 n0 c0,.agg #[.int .i64 k.view,.int .i64 k.normal,.bool k.calm,.slice A2 n2 c2,.int .i64 k.commit],.int .i64 up] w fun e w'=>StoreRet w' w.heap.size (l.set 0 (Scu.upTo bs up),0) e/\Below w.heap.size w w':=by
 have Hu:(g == 1073741824)=false:=by simp;omega
 have Hv:¬ 1073741824<=g:=by omega
 rw [zDi (.inr Hc)];have Hw : -1<=up:=by omega
 exact zB4
theorem zMx (v lv:Value) (l:List Scu.Str) (k:Scu.Kept) (up:Int) (w:World) (B BK:Nat) (hv:IsStrs w B v l) (hk:IsStrs w BK lv k.log) :
 Calls Tryz.prog 82 #[v,.agg #[.int .i64 k.view,.int .i64 k.normal,.bool k.calm,lv,.int .i64 k.commit],.int .i64 up] w fun e w'=>StoreRet w' w.heap.size (Scu.store l k up) e/\Below w.heap.size w w':=by
 obtain ⟨A0,n0,c0,rfl⟩:=hv.form;obtain ⟨A2,n2,c2,rfl⟩:=hk.form;obtain ⟨q,hl⟩:=mK (Scu.load l);obtain ⟨k',g,a,e⟩:=q;by_cases he:e=0
 ·subst he;obtain ⟨He,ha,Ha,Hf⟩:=Scu.load_at hl;by_cases hg:g=1073741824
  ·rw [st2 hl hg];subst hg;exact zXi A0 n0 c0 A2 n2 c2 l k up k' a w B BK hv hk hl
  have Hb:g < 1073741824:=by omega
  by_cases hf:Scu.keptFault k≠0
  ·rw [st3 hl hg hf];exact zXj A0 n0 c0 A2 n2 c2 l k up k' g a w B BK hv hk hl Ha Hb hf
  by_cases hu:up < -1
  ·rw [st4 hl hg hf hu];exact zXk A0 n0 c0 A2 n2 c2 l k up k' g a w B BK hv hk hl Ha Hb hf hu
  rw [st5 hl hg hf hu];have hE:=zKi (k:=k) (gen:=g+1) hf (by omega);have Hc:Scu.keptFault k=0:=Decidable.not_not.1 hf;have Hd:=zEf Hc (g+1);generalize Scu.keptBytes k (g+1)=bs at hE Hd;rcases ha with rfl | rfl
  ·show Calls _ _ _ _ fun e w'=>StoreRet w' w.heap.size (l.set 1 (Scu.upTo bs up),0) e/\Below w.heap.size w w'
   by_cases h0:0<=up
   ·by_cases h1:up < (bs.size:Int)
    ·exact zQc A0 n0 c0 A2 n2 c2 l k up k' g bs w B BK hv hk hl Ha Hb He Hc hE Hd h0 h1
    exact zQe A0 n0 c0 A2 n2 c2 l k up k' g bs w B BK hv hk hl Ha Hb He Hc hE Hd h0 (by omega)
   exact zQd A0 n0 c0 A2 n2 c2 l k up k' g bs w B BK hv hk hl Ha Hb He Hc hE Hd (by omega) (by omega)
  show Calls _ _ _ _ fun e w'=>StoreRet w' w.heap.size (l.set 0 (Scu.upTo bs up),0) e/\Below w.heap.size w w'
  by_cases h0:0<=up
  ·by_cases h1:up < (bs.size:Int)
   ·exact zQf A0 n0 c0 A2 n2 c2 l k up k' g bs w B BK hv hk hl Ha Hb He Hc hE Hd h0 h1
   exact zQh A0 n0 c0 A2 n2 c2 l k up k' g bs w B BK hv hk hl Ha Hb He Hc hE Hd h0 (by omega)
  exact zQg A0 n0 c0 A2 n2 c2 l k up k' g bs w B BK hv hk hl Ha Hb He Hc hE Hd (by omega) (by omega)
 rw [st1 hl he];exact zXh A0 n0 c0 A2 n2 c2 l k up k' g a e w B BK hv hk hl he
end Go.Proofs.YtlngfbngnnepiaaGreat
