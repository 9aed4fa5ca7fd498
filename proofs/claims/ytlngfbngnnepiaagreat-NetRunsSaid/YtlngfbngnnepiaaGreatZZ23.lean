/- Part 23: words and walks under the laws of the whole. -/
import Derived.Deep.DeepCutAuto
import Derived.Test.YtlngfbngnnepiaaGreatZZ9
set_option linter.unusedVariables false
set_option linter.unusedSimpArgs false
set_option maxHeartbeats 4000000
set_option maxRecDepth 100000
namespace Go.Proofs.YtlngfbngnnepiaaGreat
open Go.RowKit
def DecRet (w:World) (base:Nat) (q:Scu.Kept × Int × Int) (e:Ending):Prop :=
 ∃ lv,e=.returned (.tuple #[.agg #[.int .i64 q.1.view,.int .i64 q.1.normal,.bool q.1.calm,lv,.int .i64 q.1.commit],.int .i64 q.2.1,.int .i64 q.2.2])/\OwnStrs w base lv q.1.log
theorem OwnStrs.nil_ {w:World} {base:Nat} : OwnStrs w base (.slice none 0 0) []:=⟨World.ownsRow_nil _ _ _ _,by simp [R47],fun s hs=>by cases hs⟩
theorem zBs (w:World) (base:Nat) (e:Int):DecRet w base (Scu.kept0,0,e) (.returned (.tuple #[.agg #[.int .i64 0,.int .i64 0,.bool false,.slice none 0 0,.int .i64 0],.int .i64 0,.int .i64 e])) :=
 ⟨_,rfl,OwnStrs.nil_⟩
theorem Blk.at_ {Ts:List TypeId} {B g:Nat} {w w':World} {t:TypeId} {cs:Array Value} (h:Blk w g t cs) (hs:Same Ts B w w') (ht:t ∈ Ts):Blk w' g t cs :=
 (hs.keep g h.lt (.inr ⟨_,_,_,ht,h⟩)).trans h
def arr6 (xs:List Int):Array Value:=((xs ++ List.replicate (6 - xs.length) 0).map (Value.int .i64)).toArray
theorem zTv (xs:List Int) (h:xs.length<=6):(xs ++ List.replicate (6 - xs.length) (0:Int)).length=6:=by simp;omega
theorem zPd (xs:List Int) (n:Int) (h:xs.length < 6):(arr6 xs).setIfInBounds xs.length (.int .i64 n)=arr6 (xs ++ [n]):=by
 unfold arr6;rw [List.setIfInBounds_toArray,<- List.map_set,List.set_append_right _ _ (mC _),Nat.sub_self];obtain ⟨k,hk⟩:∃ k,6 - xs.length=k+1:=⟨6 - xs.length - 1,by omega⟩;rw [hk,List.replicate_succ,List.set_cons_zero,List.length_append,List.length_singleton,show 6 - (xs.length+1)=k by omega];simp
theorem zPe {w:World} {g:Nat} {t:TypeId} {xs:List Int} (h:Blk w g t (arr6 xs)) (hl:xs.length<=6) {j:Nat} (hj:j < 6):∃ n,w.cell? ⟨g,j,none⟩=some (.int .i64 n):=by
 have Ha:j < (xs ++ List.replicate (6 - xs.length) (0:Int)).length:=by rw [zTv xs hl];exact hj
 refine ⟨(xs ++ List.replicate (6 - xs.length) 0)[j],?_⟩;rw [h.cell];unfold arr6;rw [List.getElem?_toArray,List.getElem?_map,mH Ha];rfl
theorem six {xs:List Int} (h:xs.length=6):∃ a b c d e f,xs=[a,b,c,d,e,f]:=by
 match xs,h with
 | [a,b,c,d,e,f],_=>exact ⟨a,b,c,d,e,f,rfl⟩
theorem zMt (s:ByteArray) (w:World) (n:Int) (r:ByteArray) (c:Int) (h:Scu.readNumber s=(n,r,c)) :
 Calls Tryz.prog 73 #[.string s] w fun e w'=>e=.returned (.tuple #[.int .i64 n,.string r,.int .i64 c])/\Below w.heap.size w w':=by
 have:=zHx s w;rw [h] at this;exact this
theorem zPz (s:ByteArray) (w:World) (hm:s.size<=maxLen) (n r:ByteArray) (c:Int) (h:Scu.readText s=(n,r,c)) :
 Calls Tryz.prog 74 #[.string s] w fun e w'=>e=.returned (.tuple #[.string n,.string r,.int .i64 c])/\Below w.heap.size w w':=by
 have:=zKc s w hm;rw [h] at this;exact this
theorem zFt {w w':World} {base g n:Nat} {t e:TypeId} {cs:Array Value} {lv:Value} {xs:List Value} (hb:Blk w g t cs) (Ha:w.ownsRow base e 1 lv n xs) (Hb:t≠e) (hg:w.grownBy w' lv.ownBlock):Blk w' g t cs :=
 (hg.block g hb.lt fun e'=>by
  obtain ⟨C',fz',hh⟩:=zDb Ha e'.symm;unfold Blk at hb;rw [hh] at hb;cases hb
  exact Hb rfl).trans hb
structure LogI (w:World) (gk ga:Nat) (ta:TypeId) (vi no:Int) (ca:Bool) (co:Int) (xs:List Int) (lv:Value) (ys:List Scu.Str) (wr:World):Prop where
 kept:Blk wr gk 42 #[.int .i64 vi,.int .i64 no,.bool ca,lv,.int .i64 co]
 own:wr.ownsRow w.heap.size 9 1 lv ys.length (ys.map Value.string)
 nums:Blk wr ga ta (arr6 xs)
 zero:Blk wr w.heap.size 42 #[.int .i64 0,.int .i64 0,.bool false,.slice none 0 0,.int .i64 0]
 low:Below w.heap.size w wr
section
variable {w wr w':World} {gk ga:Nat} {ta:TypeId} {vi no:Int} {ca:Bool} {co:Int} {xs:List Int} {lv:Value} {ys:List Scu.Str}
theorem LogI.below (h:LogI w gk ga ta vi no ca co xs lv ys wr) (hb:Below wr.heap.size wr w'):LogI w gk ga ta vi no ca co xs lv ys w' :=
 ⟨h.kept.same hb,zAg h.own hb,h.nums.same hb,h.zero.same hb,h.low.trans (hb.mono h.low.size)⟩
theorem LogI.alloc (h:LogI w gk ga ta vi no ca co xs lv ys wr) (o:Obj):LogI w gk ga ta vi no ca co xs lv ys (wr.alloc o):=h.below (zAa wr o)
theorem LogI.app {v4:Value} {x:Scu.Str} (h:LogI w gk ga ta vi no ca co xs lv ys wr) (Ha:ta≠9) (Hc:w.heap.size < gk) (Hb:ga≠gk) (hg:wr.grownBy w' lv.ownBlock)
 (h4:w'.ownsRow w.heap.size 9 1 v4 (ys.length+1) (ys.map Value.string ++ [.string x])):LogI w gk ga ta vi no ca co xs v4 (ys ++ [x]) (w'.setCell ⟨gk,3,none⟩ v4):=by
 have hk:=zFt h.kept h.own (by decide) hg;refine ⟨hk.set_ 3 v4,?_,(zFt h.nums h.own Ha hg).far (by simpa using Hb) v4,(zFt h.zero h.own (by decide) hg).far (by simp;omega) v4,?_⟩
 ·rw [List.length_append,List.map_append];exact zFm h4 hk (by decide) v4
 exact (h.low.grown hg h.low.size (fun q hq=>(h.own.lt q hq).1)).setCell (p:=⟨gk,3,none⟩) (by show w.heap.size<=gk;omega) v4
theorem LogI.strs (h:LogI w gk ga ta vi no ca co xs lv ys wr) (h1:ys.length<=60) (h2:∀ s ∈ ys,s.size<=4000):OwnStrs wr w.heap.size lv ys :=
 ⟨h.own,by unfold R47;omega,fun s hs=>by have:=h2 s hs;unfold R47;omega⟩
end
theorem zP3 {P:Prop} (h:P:=by
 go_wp2
 refine bodyPost_ret (v:=.tuple #[.agg #[.int .i64 0,.int .i64 0,.bool false,.slice none 0 0,.int .i64 0],.int .i64 0,.int .i64 4]) (by simp [results,Tryz.results105,go_sem,zc0,zc1,zc2,zc3,zc4]) rfl ?_;exact ⟨by rw [HF.out];exact zBs _ _ _,zAn Ht.out (mC _)⟩):P:=h
theorem zR3 {P:Prop} (h:P:=by
 go_wp2_with fail
 go_meet
 exact ⟨rfl,(mG _ _).drew.trans (h1.mono (by simp))⟩):P:=h
theorem zS3 {P:Prop} (h:P:=by
 go_wp2
 go_returns
 exact ⟨zBs _ _ _,(mG _ _).alloc (mC _) _⟩):P:=h
theorem zT3 {P:Prop} (h:P:=by
 rw [hT.out,show f.toNat - ys.length=(f.toNat - (ys.length+1))+1 by omega,Scu.readTexts_bad (by rw [HQ.out];exact Hm),HQ.out,Scu.glue_bad _ _ Hm]):P:=h
theorem zU3 {P:Prop} (h:P:=by
 exact ⟨zBs _ _ _,zAn ((zAa w _).trans (Ho.mono (by omega))) (mC _)⟩):P:=h
theorem zV3 {P:Prop} (h:P:=by
 exact ⟨by rw [HF.out];exact zBs _ _ _,zAn HL.out.low (mC _)⟩):P:=h
theorem zLh (s:ByteArray) (w:World) :
 Calls Tryz.prog 105 #[.string s] w fun e w'=>DecRet w' w.heap.size (Scu.stageDecode s) e/\Below w.heap.size w w':=by
 by_cases h1:4000 < s.size
 ·rw [Scu.dec1 h1];have Vb:(4000:Int) < (s.size:Int):=by omega
  clear h1;go_enter Tryz.func105,Tryz.ntmps105
  exact zS3
 by_cases h2:s.size < 4
 ·rw [Scu.dec2 h2];have Vc:(s.size:Int) < 4:=by omega
  clear h2 h1;go_enter Tryz.func105,Tryz.ntmps105
  exact zS3
 have g1:(s.size:Int)<=4000:=by omega
 have g2:(4:Int)<=(s.size:Int):=by omega
 have Kd:(s.extract 4 s.size).size<=maxLen:=by rw [ByteArray.size_extract];unfold maxLen;omega
 by_cases h3:Scu.sealS (Scu.dropS s 4)≠s.extract 0 4
 ·rw [Scu.dec3 h1 h2 h3];have hb:((Scu.sealS (s.extract 4 s.size)).toList == (s.extract 0 4).toList)=false:=by rw [zEj];exact decide_eq_false (fun e=>h3 e)
  clear h3 h1 h2;go_enter Tryz.func105,Tryz.ntmps105
  go_upto_region 5 with fail
  go_cut [25] (fun b wx=>b=.bool true/\Below (w.heap.size+1) (w.alloc (.cells #[.int .i64 0,.int .i64 0,.bool false,.slice none 0 0,.int .i64 0] 42)) wx)
  case first =>
   go_region_with (go_at_call 45;refine (zOk _ _ Kd).mono ?_;rintro e w1 ⟨rfl,h1⟩)
   all_goals
    exact zR3
  case rest =>
   obtain ⟨rfl,Ho⟩:=hcut;have Ha:Blk wc w.heap.size 42 #[.int .i64 0,.int .i64 0,.bool false,.slice none 0 0,.int .i64 0]:=(Blk.new w _ _).below Ho (by omega);obtain ⟨zc0,zc1,zc2,zc3,zc4⟩:=cz5 Ha;have zcz:=Ha.frozen;go_wp2
   refine bodyPost_ret (v:=.tuple #[.agg #[.int .i64 0,.int .i64 0,.bool false,.slice none 0 0,.int .i64 0],.int .i64 0,.int .i64 11]) (by simp [results,Tryz.results105,go_sem,zc0,zc1,zc2,zc3,zc4]) rfl ?_;exact zU3
 have hb:((Scu.sealS (s.extract 4 s.size)).toList == (s.extract 0 4).toList)=true:=by rw [zEj];exact decide_eq_true (Decidable.byContradiction h3)
 have HD:=mA (fun a b c d e f t (h:Scu.readNumbers 6 (Scu.dropS s 4)=([a,b,c,d,e,f],t,0))=>Scu.dec5 h1 h2 h3 h);have HE:=mA (fun e (h:Scu.readNumbers 6 (Scu.dropS s 4)=([],Scu.str0,e)) he=>Scu.dec4 h1 h2 h3 h he);have Kq:(s.extract 4 s.size).size<=4000:=by rw [ByteArray.size_extract];omega
 clear h1 h2 h3;go_enter Tryz.func105,Tryz.ntmps105
 go_upto_region 5 with fail
 go_cut [25] (fun b wx=>b=.bool false/\Below (w.heap.size+1) (w.alloc (.cells #[.int .i64 0,.int .i64 0,.bool false,.slice none 0 0,.int .i64 0] 42)) wx)
 case first =>
  go_region_with (go_at_call 45;refine (zOk _ _ Kd).mono ?_;rintro e w1 ⟨rfl,h1⟩)
  all_goals
   exact zR3
 case rest =>
 obtain ⟨rfl,Ho⟩:=hcut;have Ke:w.heap.size < wc.heap.size:=by have:=Ho.size;simp at this;omega
 go_wp2_with fail
 go_loopw [0,29] (fun sv i wr=>∃ (xs:List Int) (r:Scu.Str),xs.length<=6/\i=.int .i64 xs.length/\sv=.string r/\r.size<=4000/\Below (w.heap.size+1) (w.alloc (.cells #[.int .i64 0,.int .i64 0,.bool false,.slice none 0 0,.int .i64 0] 42)) wr/\wc.heap.size < wr.heap.size/\Blk wr wc.heap.size 151 (arr6 xs) /\
  Hid (Scu.readNumbers 6 (Scu.dropS s 4)=Scu.glue xs (Scu.readNumbers (6 - xs.length) r))) (fun _ i _=>6 - (intOf i).toNat)
 case atStart=>exact ⟨[],_,by simp,rfl,rfl,Kq,Ho.alloc (by omega) _,by simp,Blk.new wc _ _,Scu.nil_glue _ _⟩
 case round =>
  obtain ⟨xs,r,hj,rfl,rfl,Kf,Hj,Kr,Hp,Hk⟩:=hrel;by_cases Hx:xs.length < 6
  ·have Hy:(xs.length:Int) < 6:=by omega
   have Vd:(0:Int)<=(xs.length:Int):=by omega
   generalize hq:Scu.readNumber r=q;obtain ⟨n,r',c⟩:=q;have HQ:=mA hq;have HS:=mA (show r'.size<=4000 by have:=Scu.rn_size r;rw [hq] at this;exact mD this Kf);have HB:=mA (mB Hj Hp);clear hq Hj Hp;go_wp2_with fail
   refine (zMt r _ n r' c HQ.out).mono ?_;rintro e w2 ⟨rfl,h2⟩;have Hf:=HB.out.1.trans (h2.mono (by omega));have Hc:=HB.out.2.same h2;obtain ⟨n0,Ve⟩:=zPe Hc hj Hx;have Ks:=Hc.frozen;have Hz:wc.heap.size < w2.heap.size:=by have:=h2.size;omega
   have Ha:Blk w2 w.heap.size 42 #[.int .i64 0,.int .i64 0,.bool false,.slice none 0 0,.int .i64 0]:=(Blk.new w _ _).below Hf (by omega);obtain ⟨zc0,zc1,zc2,zc3,zc4⟩:=cz5 Ha;have zcz:=Ha.frozen;have Ka:=mA (mB Hf Hc);clear Hf Hc Ha;by_cases Hl:c=0
   ·subst Hl;have Hg:6 - xs.length=(6 - (xs.length+1))+1:=by omega
    have HN:=mA (show Scu.readNumbers 6 (Scu.dropS s 4)=Scu.glue (xs ++ [n]) (Scu.readNumbers (6 - (xs.length+1)) r') by
     rw [Hk.out,Hg,Scu.readNumbers_more (by rw [HQ.out]),HQ.out,Scu.glue_glue])
    clear Hg Hk;go_wp2
    go_roundw
    case rel =>
     refine ⟨xs ++ [n],r',by simp;omega,by simp,rfl,HS.out,Ka.out.1.setCell (p:=⟨wc.heap.size,xs.length,none⟩) Ke _,by simpa [World.setCell] using Hz,?_,?_⟩
     ·rw [<- zPd _ _ Hx];exact Ka.out.2.set_ _ _
     rw [List.length_append];exact HN
    case measure=>simp only [intOf];omega
   have Vf:(c != 0)=true:=by simpa using Hl
   have HF:=mA (show Scu.stageDecode s=(Scu.kept0,0,c) by
    refine HE.out c ?_ Hl;have Hg:6 - xs.length=(6 - (xs.length+1))+1:=by omega
    rw [Hk.out,Hg,Scu.readNumbers_bad (by rw [HQ.out];exact Hl),HQ.out,Scu.glue_bad _ _ Hl])
   clear Hk Hl;go_wp2
   refine bodyPost_ret (v:=.tuple #[.agg #[.int .i64 0,.int .i64 0,.bool false,.slice none 0 0,.int .i64 0],.int .i64 0,.int .i64 c]) (by simp [results,Tryz.results105,go_sem,zc0,zc1,zc2,zc3,zc4]) rfl ?_;refine ⟨by rw [HF.out];exact zBs _ _ _,?_⟩;exact zAn ((zAa w _).trans ((Ka.out.1.setCell (p:=⟨wc.heap.size,xs.length,none⟩) Ke _).mono (by omega))) (mC _)
  have Kg:xs.length=6:=by omega
  have Hy:(6:Int)<=(xs.length:Int):=by omega
  obtain ⟨a,b,c,d,e,f,rfl⟩:=six Kg;have HR:=mA (show Scu.readNumbers 6 (Scu.dropS s 4)=([a,b,c,d,e,f],r,0) by rw [Hk.out];exact Scu.glue_done _ _);have Hs:=mA (HD.out _ _ _ _ _ _ _ HR.out);have Hh:Blk wr wc.heap.size 151 #[.int .i64 a,.int .i64 b,.int .i64 c,.int .i64 d,.int .i64 e,.int .i64 f]:=Hp;obtain ⟨ac0,ac1,ac2,ac3,ac4,ac5⟩:=cz6 Hh;have acz:=Hh.frozen;have Ha:Blk wr w.heap.size 42 #[.int .i64 0,.int .i64 0,.bool false,.slice none 0 0,.int .i64 0]:=(Blk.new w _ _).below Hj (by omega);obtain ⟨zc0,zc1,zc2,zc3,zc4⟩:=cz5 Ha;have zcz:=Ha.frozen;have HB:=mA (mB Hj (mB Hp Ha));have Ht:=mA (show Below w.heap.size w wr from (zAa w _).trans (Hj.mono (by omega)));have Kt:w.heap.size < wr.heap.size:=by omega
  clear Hj Hp Hh Ha Hk hj Kg;by_cases t3:1 < d
  ·have HF:=mA (show Scu.stageDecode s=(Scu.kept0,0,4) by rw [Hs.out,if_pos (.inl t3)]);exact zP3
  have t3':d<=1:=by omega
  by_cases t5:60 < f
  ·have HF:=mA (show Scu.stageDecode s=(Scu.kept0,0,4) by rw [Hs.out,if_pos (.inr t5)]);clear t3;exact zP3
  have t5':f<=60:=by omega
  have Kh:=mA (show Scu.stageDecode s=if (Scu.readTexts f.toNat r).2.2≠0 then (Scu.kept0,0,(Scu.readTexts f.toNat r).2.2) else if (Scu.readTexts f.toNat r).2.1≠Scu.str0 then (Scu.kept0,0,4) else
   if Scu.keptFault ⟨b,c,d == 1,(Scu.readTexts f.toNat r).1,e⟩≠0 then (Scu.kept0,0,Scu.keptFault ⟨b,c,d == 1,(Scu.readTexts f.toNat r).1,e⟩) else (⟨b,c,d == 1,(Scu.readTexts f.toNat r).1,e⟩,a,0) by
   rw [Hs.out,if_neg (by omega)])
  have Vg:f.toNat<=60:=by omega
  clear t3 t5 Hs HD HE;obtain ⟨wa,Ku⟩:=mJ (wr);subst Ku;go_wp2_with fail
  go_loopw [0,66] (fun sv i wl=>∃ (ys:List Scu.Str) (q:Scu.Str) (A:Option Addr) (cp:Nat),ys.length<=f.toNat/\i=.int .i64 ys.length/\sv=.string q/\q.size<=4000/\(∀ y ∈ ys,y.size<=4000) /\
   LogI w wa.heap.size wc.heap.size 151 b c (d == 1) e [a,b,c,d,e,f] (.slice A ys.length cp) ys wl/\wa.heap.size < wl.heap.size /\
   Hid (Scu.readTexts f.toNat r=Scu.glue ys (Scu.readTexts (f.toNat - ys.length) q))) (fun _ i _=>f.toNat - (intOf i).toNat)
  case atStart =>
   refine ⟨[],r,none,0,mE _,rfl,rfl,Kf,(fun y hy=>by cases hy),?_,by simp,Scu.nil_glueT _ _⟩;exact ⟨Blk.new wa _ _,World.ownsRow_nil _ _ _ _,HB.out.2.1.alloc _,HB.out.2.2.alloc _,Ht.out.alloc Ht.out.size _⟩
  case round =>
   obtain ⟨ys,q,A,cp,hm,rfl,rfl,Ki,Hu,hL,Vh,hT⟩:=hrel;by_cases Hx:ys.length < f.toNat
   ·have Hq:(ys.length:Int) < f:=by omega
    generalize hq:Scu.readText q=p;obtain ⟨y,q',g⟩:=p;have HQ:=mA hq;have Hd:=Scu.rt_size q;rw [hq] at Hd;have HS:=mA (show q'.size<=4000/\y.size<=4000 from ⟨mD Hd.1 Ki,mD Hd.2 Ki⟩);have HL:=mA hL;have Kv:=mA Hu;clear hq Hd hL Hu;go_wp2_with fail
    refine (zPz q _ (by unfold maxLen;omega) y q' g HQ.out).mono ?_;rintro e2 w2 ⟨rfl,h2⟩;have Kw:wa.heap.size < w2.heap.size:=by have:=h2.size;omega
    have Hi:=HL.out.below h2;by_cases Hm:g=0
    ·subst Hm;have Hg:f.toNat - ys.length=(f.toNat - (ys.length+1))+1:=by omega
     have HN:=mA (show Scu.readTexts f.toNat r=Scu.glue (ys ++ [y]) (Scu.readTexts (f.toNat - (ys.length+1)) q') by
      rw [hT.out,Hg,Scu.readTexts_more (by rw [HQ.out]),HQ.out,Scu.glue_glue])
     have Kb:=Hi.kept;obtain ⟨kc0,kc1,kc2,kc3,kc4⟩:=cz5 Kb;have kcz:=Kb.frozen;have Kj:=mA Hi;have Hb:=mA (Hi.alloc (.cells #[.string y] 9));clear Hg hT Hi Kb kc0 kc1 kc2 kc4;go_wp2_with
      (at_builtin
       refine zAz _ rfl (.tmp 79) (.tmp 81) 39 rfl zBl w.heap.size (.slice A ys.length cp) ys.length (ys.map Value.string) rfl Hb.out.own (.slice (some ⟨w2.heap.size,0,none⟩) 1 1) 1 [.string y] rfl (zRl (xs:=[.string y]) (Blk.new w2 9 #[.string y]) rfl) (zBf [y]) (by unfold maxLen;omega) (by omega) (by simp;omega) ?_;intro v4 w4 h4 Hv _;obtain ⟨A4,c4,rfl,_,_,_,_⟩:=zAi h4;have Kk:=Hb.out.app (by decide) Kt (by omega) Hv h4;have Kl:=mA (zFt Hb.out.kept Hb.out.own (by decide) Hv);have Vi:=Kl.out.frozen;have Vj:=Kl.out.cell 3;have Kx:=mA Kk;have Ky:=mA (show wa.heap.size < w4.heap.size by have:=Hv.size;simp at this;omega);clear Hv h4 Kk)
     go_roundw
     case rel =>
      refine ⟨ys ++ [y],q',A4,c4,by simp;omega,by simp,rfl,HS.out.1,?_,?_,by simpa [World.setCell] using Ky.out,?_⟩
      ·intro z hz;rcases List.mem_append.1 hz with h | h
       ·exact Kv.out z h
       rw [List.mem_singleton] at h;subst h;exact HS.out.2
      ·rw [List.length_append];exact Kx.out
      rw [List.length_append];exact HN
     case measure=>simp only [intOf];omega
    have Vk:(g != 0)=true:=by simpa using Hm
    have Hr:Scu.readTexts f.toNat r=([],Scu.str0,g):=by
     exact zT3
    have HF:=mA (show Scu.stageDecode s=(Scu.kept0,0,g) by rw [Kh.out,Hr,if_pos Hm]);have Ha:=Hi.zero;obtain ⟨zc0,zc1,zc2,zc3,zc4⟩:=cz5 Ha;have zcz:=Ha.frozen;have Kj:=mA Hi.low;clear hT Hr Ha Hi Hm;go_wp2
    refine bodyPost_ret (v:=.tuple #[.agg #[.int .i64 0,.int .i64 0,.bool false,.slice none 0 0,.int .i64 0],.int .i64 0,.int .i64 g]) (by simp [results,Tryz.results105,go_sem,zc0,zc1,zc2,zc3,zc4]) rfl ?_;exact ⟨by rw [HF.out];exact zBs _ _ _,zAn Kj.out (mC _)⟩
   have Hq:f<=(ys.length:Int):=by omega
   have Hr:Scu.readTexts f.toNat r=(ys,q,0):=by rw [hT.out,show f.toNat - ys.length=0 by omega];exact Scu.glue_done _ _
   have Km:=mA (show Scu.stageDecode s=if q≠Scu.str0 then (Scu.kept0,0,4) else if Scu.keptFault ⟨b,c,d == 1,ys,e⟩≠0 then (Scu.kept0,0,Scu.keptFault ⟨b,c,d == 1,ys,e⟩) else (⟨b,c,d == 1,ys,e⟩,a,0) by
    rw [Kh.out,Hr,if_neg (by simp)])
   have Ha:=hL.zero;obtain ⟨zc0,zc1,zc2,zc3,zc4⟩:=cz5 Ha;have zcz:=Ha.frozen;have He:=hL.kept;obtain ⟨kc0,kc1,kc2,kc3,kc4⟩:=cz5 He;have kcz:=He.frozen;have Kn:=mA (hL.strs (by omega) Hu);have HL:=mA hL;clear hT Hr hL Hu Ha He;by_cases Hn:q=Scu.str0
   ·have Ko:q.toList=[]:=(zBe q).2 (by rw [Hn];rfl);have Kp:=mA (show Scu.stageDecode s=if Scu.keptFault ⟨b,c,d == 1,ys,e⟩≠0 then (Scu.kept0,0,Scu.keptFault ⟨b,c,d == 1,ys,e⟩) else (⟨b,c,d == 1,ys,e⟩,a,0) by
     rw [Km.out,if_neg (by simp [Hn])])
    clear Hn;go_wp2_with fail
    refine (zBh _ b c (d == 1) ys e _ 0 Kn.out.is).mono ?_;rintro e2 w3 ⟨rfl,h3⟩;have Hb:=HL.out.below h3;have Ha:=Hb.zero;obtain ⟨yc0,yc1,yc2,yc3,yc4⟩:=cz5 Ha;have ycz:=Ha.frozen;have He:=Hb.kept;obtain ⟨kd0,kd1,kd2,kd3,kd4⟩:=cz5 He;have kdz:=He.frozen;have Hw:Blk w3 wc.heap.size 151 #[.int .i64 a,.int .i64 b,.int .i64 c,.int .i64 d,.int .i64 e,.int .i64 f]:=Hb.nums;obtain ⟨nd0,nd1,nd2,nd3,nd4,nd5⟩:=cz6 Hw;have ndz:=Hw.frozen;have Kz:=mA (Kn.out.below h3);have Kc:=mA Hb;by_cases hf:Scu.keptFault ⟨b,c,d == 1,ys,e⟩=0
    ·have Va:(Scu.keptFault ⟨b,c,d == 1,ys,e⟩ != 0)=false:=by simpa using hf
     have HF:=mA (show Scu.stageDecode s=(⟨b,c,d == 1,ys,e⟩,a,0) by rw [Kp.out,if_neg (by simpa using hf)]);clear hf He Ha Hw Hb;go_wp2_with fail
     go_region
     go_wp2
     refine bodyPost_ret (v:=.tuple #[.agg #[.int .i64 b,.int .i64 c,.bool (d == 1),.slice A ys.length cp,.int .i64 e],.int .i64 a,.int .i64 0]) (by simp [results,Tryz.results105,go_sem,yc0,yc1,yc2,yc3,yc4]) rfl ?_;refine ⟨?_,(zAn Kc.out.low (mC _)).drew⟩;rw [HF.out];exact ⟨_,rfl,(Kz.out.same (Same.sets5 (B:=0) Kc.out.zero (mE _) (by decide) _ _ _ _ _)).below (mG _ _).drew⟩
    have Va:(Scu.keptFault ⟨b,c,d == 1,ys,e⟩ != 0)=true:=by simpa using hf
    have HF:=mA (show Scu.stageDecode s=(Scu.kept0,0,Scu.keptFault ⟨b,c,d == 1,ys,e⟩) by rw [Kp.out,if_pos hf]);clear hf He Ha Hw Hb;go_wp2
    refine bodyPost_ret (v:=.tuple #[.agg #[.int .i64 0,.int .i64 0,.bool false,.slice none 0 0,.int .i64 0],.int .i64 0,.int .i64 (Scu.keptFault ⟨b,c,d == 1,ys,e⟩)]) (by simp [results,Tryz.results105,go_sem,yc0,yc1,yc2,yc3,yc4]) rfl ?_;exact ⟨by rw [HF.out];exact zBs _ _ _,zAn Kc.out.low (mC _)⟩
   have Ko:¬ q.toList=[]:=fun e=>Hn ((Scu.size_zero_iff _).1 ((zBe q).1 e))
   have Vl:q.toList.isEmpty=false:=by simpa using Ko
   have HF:=mA (show Scu.stageDecode s=(Scu.kept0,0,4) by rw [Km.out,if_pos Hn]);clear Hn;go_wp2
   refine bodyPost_ret (v:=.tuple #[.agg #[.int .i64 0,.int .i64 0,.bool false,.slice none 0 0,.int .i64 0],.int .i64 0,.int .i64 4]) (by simp [results,Tryz.results105,go_sem,zc0,zc1,zc2,zc3,zc4]) rfl ?_;exact zV3
open Go.RowKit
theorem zQa (s:ByteArray) (w:World) (n:Int) (r:ByteArray) (c:Int) (h:Scu.readNumber s=(n,r,c)) :
 Calls Tryz.prog 93 #[.string s] w fun e w'=>e=.returned (.tuple #[.int .i64 n,.string r,.int .i64 c])/\Below w.heap.size w w':=by
 have:=zKb s w;rw [h] at this;exact this
theorem zTw (s:ByteArray) (w:World) (hm:s.size<=maxLen) (n r:ByteArray) (c:Int) (h:Scu.readText s=(n,r,c)) :
 Calls Tryz.prog 94 #[.string s] w fun e w'=>e=.returned (.tuple #[.string n,.string r,.int .i64 c])/\Below w.heap.size w w':=by
 have:=zOj s w hm;rw [h] at this;exact this
theorem zTx (w:World):(Instr.makeSlice 43 (.int .i64 6) (.int .i64 6)).run Tryz.prog w =
 .ok (.slice (some ⟨w.heap.size,0,none⟩) 6 6) (w.alloc (.cells #[.int .i64 0,.int .i64 0,.int .i64 0,.int .i64 0,.int .i64 0,.int .i64 0] 3)):=by kernel_rfl
theorem zQ3 {P:Prop} (h:P:=by
 go_wp2
 refine bodyPost_ret (v:=.tuple #[.agg #[.int .i64 0,.int .i64 0,.bool false,.slice none 0 0,.int .i64 0],.int .i64 0,.int .i64 4]) (by simp [results,Tryz.results98,go_sem,zc0,zc1,zc2,zc3,zc4]) rfl ?_;exact ⟨by rw [HF.out];exact zBs _ _ _,zAn Ht.out (mC _)⟩):P:=h
theorem zTy (s:ByteArray) (w:World) :
 Calls Tryz.prog 98 #[.string s] w fun e w'=>DecRet w' w.heap.size (Scu.stageDecode s) e/\Below w.heap.size w w':=by
 by_cases h1:4000 < s.size
 ·rw [Scu.dec1 h1];have Vc:(4000:Int) < (s.size:Int):=by omega
  clear h1;go_enter Tryz.func98,Tryz.ntmps98
  exact zS3
 by_cases h2:s.size < 4
 ·rw [Scu.dec2 h2];have Vd:(s.size:Int) < 4:=by omega
  clear h2 h1;go_enter Tryz.func98,Tryz.ntmps98
  exact zS3
 have g1:(s.size:Int)<=4000:=by omega
 have g2:(4:Int)<=(s.size:Int):=by omega
 have Ke:(s.extract 4 s.size).size<=maxLen:=by rw [ByteArray.size_extract];unfold maxLen;omega
 by_cases h3:Scu.sealS (Scu.dropS s 4)≠s.extract 0 4
 ·rw [Scu.dec3 h1 h2 h3];have hb:((Scu.sealS (s.extract 4 s.size)).toList == (s.extract 0 4).toList)=false:=by rw [zEj];exact decide_eq_false (fun e=>h3 e)
  clear h3 h1 h2;go_enter Tryz.func98,Tryz.ntmps98
  go_upto_region 6 with fail
  go_cut [28] (fun b wx=>b=.bool true/\Below (w.heap.size+1) (w.alloc (.cells #[.int .i64 0,.int .i64 0,.bool false,.slice none 0 0,.int .i64 0] 42)) wx)
  case first =>
   go_region_with (go_at_call 59;refine (zIk _ _ Ke).mono ?_;rintro e w1 ⟨rfl,h1⟩)
   all_goals
    exact zR3
  case rest =>
   obtain ⟨rfl,Ho⟩:=hcut;have Ha:Blk wc w.heap.size 42 #[.int .i64 0,.int .i64 0,.bool false,.slice none 0 0,.int .i64 0]:=(Blk.new w _ _).below Ho (by omega);obtain ⟨zc0,zc1,zc2,zc3,zc4⟩:=cz5 Ha;have zcz:=Ha.frozen;go_wp2
   refine bodyPost_ret (v:=.tuple #[.agg #[.int .i64 0,.int .i64 0,.bool false,.slice none 0 0,.int .i64 0],.int .i64 0,.int .i64 11]) (by simp [results,Tryz.results98,go_sem,zc0,zc1,zc2,zc3,zc4]) rfl ?_;exact zU3
 have hb:((Scu.sealS (s.extract 4 s.size)).toList == (s.extract 0 4).toList)=true:=by rw [zEj];exact decide_eq_true (Decidable.byContradiction h3)
 have HD:=mA (fun a b c d e f t (h:Scu.readNumbers 6 (Scu.dropS s 4)=([a,b,c,d,e,f],t,0))=>Scu.dec5 h1 h2 h3 h);have HE:=mA (fun e (h:Scu.readNumbers 6 (Scu.dropS s 4)=([],Scu.str0,e)) he=>Scu.dec4 h1 h2 h3 h he);have Kr:(s.extract 4 s.size).size<=4000:=by rw [ByteArray.size_extract];omega
 clear h1 h2 h3;have Ve:=zTx;go_enter Tryz.func98,Tryz.ntmps98
 go_upto_region 6 with fail
 go_cut [28] (fun b wx=>b=.bool false/\Below (w.heap.size+1) (w.alloc (.cells #[.int .i64 0,.int .i64 0,.bool false,.slice none 0 0,.int .i64 0] 42)) wx)
 case first =>
  go_region_with (go_at_call 59;refine (zIk _ _ Ke).mono ?_;rintro e w1 ⟨rfl,h1⟩)
  all_goals
   exact zR3
 case rest =>
 obtain ⟨rfl,Ho⟩:=hcut;have Kf:w.heap.size < wc.heap.size:=by have:=Ho.size;simp at this;omega
 go_wp2_with fail
 go_loopw [5,8] (fun sv i wr=>∃ (xs:List Int) (r:Scu.Str),xs.length<=6/\i=.int .i64 xs.length/\sv=.string r/\r.size<=4000/\Below (w.heap.size+1) (w.alloc (.cells #[.int .i64 0,.int .i64 0,.bool false,.slice none 0 0,.int .i64 0] 42)) wr/\wc.heap.size < wr.heap.size/\Blk wr wc.heap.size 3 (arr6 xs) /\
  Hid (Scu.readNumbers 6 (Scu.dropS s 4)=Scu.glue xs (Scu.readNumbers (6 - xs.length) r))) (fun _ i _=>6 - (intOf i).toNat)
 case atStart=>exact ⟨[],_,by simp,rfl,rfl,Kr,Ho.alloc (by omega) _,by simp,Blk.new wc _ _,Scu.nil_glue _ _⟩
 case round =>
  obtain ⟨xs,r,hj,rfl,rfl,Kg,Hj,Ks,Hp,Hk⟩:=hrel;by_cases Hx:xs.length < 6
  ·have Hy:(xs.length:Int) < 6:=by omega
   have Vf:(0:Int)<=(xs.length:Int):=by omega
   generalize hq:Scu.readNumber r=q;obtain ⟨n,r',c⟩:=q;have HQ:=mA hq;have HS:=mA (show r'.size<=4000 by have:=Scu.rn_size r;rw [hq] at this;exact mD this Kg);have HB:=mA (mB Hj Hp);clear hq Hj Hp;go_wp2_with fail
   refine (zQa r _ n r' c HQ.out).mono ?_;rintro e w2 ⟨rfl,h2⟩;have Hf:=HB.out.1.trans (h2.mono (by omega));have Hc:=HB.out.2.same h2;obtain ⟨n0,Vg⟩:=zPe Hc hj Hx;have Kt:=Hc.frozen;have Hz:wc.heap.size < w2.heap.size:=by have:=h2.size;omega
   have Ha:Blk w2 w.heap.size 42 #[.int .i64 0,.int .i64 0,.bool false,.slice none 0 0,.int .i64 0]:=(Blk.new w _ _).below Hf (by omega);obtain ⟨zc0,zc1,zc2,zc3,zc4⟩:=cz5 Ha;have zcz:=Ha.frozen;have Ka:=mA (mB Hf Hc);clear Hf Hc Ha;by_cases Hl:c=0
   ·subst Hl;have Hg:6 - xs.length=(6 - (xs.length+1))+1:=by omega
    have HN:=mA (show Scu.readNumbers 6 (Scu.dropS s 4)=Scu.glue (xs ++ [n]) (Scu.readNumbers (6 - (xs.length+1)) r') by
     rw [Hk.out,Hg,Scu.readNumbers_more (by rw [HQ.out]),HQ.out,Scu.glue_glue])
    clear Hg Hk;go_wp2
    go_roundw
    case rel =>
     refine ⟨xs ++ [n],r',by simp;omega,by simp,rfl,HS.out,Ka.out.1.setCell (p:=⟨wc.heap.size,xs.length,none⟩) Kf _,by simpa [World.setCell] using Hz,?_,?_⟩
     ·rw [<- zPd _ _ Hx];exact Ka.out.2.set_ _ _
     rw [List.length_append];exact HN
    case measure=>simp only [intOf];omega
   have Vh:(c != 0)=true:=by simpa using Hl
   have HF:=mA (show Scu.stageDecode s=(Scu.kept0,0,c) by
    refine HE.out c ?_ Hl;have Hg:6 - xs.length=(6 - (xs.length+1))+1:=by omega
    rw [Hk.out,Hg,Scu.readNumbers_bad (by rw [HQ.out];exact Hl),HQ.out,Scu.glue_bad _ _ Hl])
   clear Hk Hl;go_wp2
   refine bodyPost_ret (v:=.tuple #[.agg #[.int .i64 0,.int .i64 0,.bool false,.slice none 0 0,.int .i64 0],.int .i64 0,.int .i64 c]) (by simp [results,Tryz.results98,go_sem,zc0,zc1,zc2,zc3,zc4]) rfl ?_;refine ⟨by rw [HF.out];exact zBs _ _ _,?_⟩;exact zAn ((zAa w _).trans ((Ka.out.1.setCell (p:=⟨wc.heap.size,xs.length,none⟩) Kf _).mono (by omega))) (mC _)
  have Kh:xs.length=6:=by omega
  have Hy:(6:Int)<=(xs.length:Int):=by omega
  obtain ⟨a,b,c,d,e,f,rfl⟩:=six Kh;have HR:=mA (show Scu.readNumbers 6 (Scu.dropS s 4)=([a,b,c,d,e,f],r,0) by rw [Hk.out];exact Scu.glue_done _ _);have Hs:=mA (HD.out _ _ _ _ _ _ _ HR.out);have Hh:Blk wr wc.heap.size 3 #[.int .i64 a,.int .i64 b,.int .i64 c,.int .i64 d,.int .i64 e,.int .i64 f]:=Hp;obtain ⟨ac0,ac1,ac2,ac3,ac4,ac5⟩:=cz6 Hh;have acz:=Hh.frozen;have Ha:Blk wr w.heap.size 42 #[.int .i64 0,.int .i64 0,.bool false,.slice none 0 0,.int .i64 0]:=(Blk.new w _ _).below Hj (by omega);obtain ⟨zc0,zc1,zc2,zc3,zc4⟩:=cz5 Ha;have zcz:=Ha.frozen;have HB:=mA (mB Hj (mB Hp Ha));have Ht:=mA (show Below w.heap.size w wr from (zAa w _).trans (Hj.mono (by omega)));have Ku:w.heap.size < wr.heap.size:=by omega
  clear Hj Hp Hh Ha Hk hj Kh;by_cases t3:1 < d
  ·have HF:=mA (show Scu.stageDecode s=(Scu.kept0,0,4) by rw [Hs.out,if_pos (.inl t3)]);exact zQ3
  have t3':d<=1:=by omega
  by_cases t5:60 < f
  ·have HF:=mA (show Scu.stageDecode s=(Scu.kept0,0,4) by rw [Hs.out,if_pos (.inr t5)]);clear t3;exact zQ3
  have t5':f<=60:=by omega
  have Ki:=mA (show Scu.stageDecode s=if (Scu.readTexts f.toNat r).2.2≠0 then (Scu.kept0,0,(Scu.readTexts f.toNat r).2.2) else if (Scu.readTexts f.toNat r).2.1≠Scu.str0 then (Scu.kept0,0,4) else
   if Scu.keptFault ⟨b,c,d == 1,(Scu.readTexts f.toNat r).1,e⟩≠0 then (Scu.kept0,0,Scu.keptFault ⟨b,c,d == 1,(Scu.readTexts f.toNat r).1,e⟩) else (⟨b,c,d == 1,(Scu.readTexts f.toNat r).1,e⟩,a,0) by
   rw [Hs.out,if_neg (by omega)])
  have Vi:f.toNat<=60:=by omega
  clear t3 t5 Hs HD HE;obtain ⟨wa,Kv⟩:=mJ (wr);subst Kv;go_wp2_with fail
  go_region
  go_wp2_with fail
  go_loopw [5,10] (fun sv i wl=>∃ (ys:List Scu.Str) (q:Scu.Str) (A:Option Addr) (cp:Nat),ys.length<=f.toNat/\i=.int .i64 ys.length/\sv=.string q/\q.size<=4000/\(∀ y ∈ ys,y.size<=4000) /\
   LogI w wa.heap.size wc.heap.size 3 b c (d == 1) e [a,b,c,d,e,f] (.slice A ys.length cp) ys wl/\wa.heap.size < wl.heap.size /\
   Hid (Scu.readTexts f.toNat r=Scu.glue ys (Scu.readTexts (f.toNat - ys.length) q))) (fun _ i _=>f.toNat - (intOf i).toNat)
  case atStart =>
   refine ⟨[],r,none,0,mE _,rfl,rfl,Kg,(fun y hy=>by cases hy),?_,by simp,Scu.nil_glueT _ _⟩;exact ⟨(Blk.new wa _ _).drew,World.ownsRow_nil _ _ _ _,(HB.out.2.1.alloc _).drew,(HB.out.2.2.alloc _).drew,(Ht.out.alloc Ht.out.size _).drew⟩
  case round =>
   obtain ⟨ys,q,A,cp,hm,rfl,rfl,Kj,Hu,hL,Vj,hT⟩:=hrel;have Kb:Blk wr wc.heap.size 3 #[.int .i64 a,.int .i64 b,.int .i64 c,.int .i64 d,.int .i64 e,.int .i64 f]:=hL.nums;obtain ⟨ne0,ne1,ne2,ne3,ne4,ne5⟩:=cz6 Kb;have nez:=Kb.frozen;clear Kb;by_cases Hx:ys.length < f.toNat
   ·have Hq:(ys.length:Int) < f:=by omega
    generalize hq:Scu.readText q=p;obtain ⟨y,q',g⟩:=p;have HQ:=mA hq;have Hd:=Scu.rt_size q;rw [hq] at Hd;have HS:=mA (show q'.size<=4000/\y.size<=4000 from ⟨mD Hd.1 Kj,mD Hd.2 Kj⟩);have HL:=mA hL;have Kw:=mA Hu;clear hq Hd hL Hu;go_wp2_with fail
    refine (zTw q _ (by unfold maxLen;omega) y q' g HQ.out).mono ?_;rintro e2 w2 ⟨rfl,h2⟩;have Kx:wa.heap.size < w2.heap.size:=by have:=h2.size;omega
    have Hi:=HL.out.below h2;by_cases Hm:g=0
    ·subst Hm;have Hg:f.toNat - ys.length=(f.toNat - (ys.length+1))+1:=by omega
     have HN:=mA (show Scu.readTexts f.toNat r=Scu.glue (ys ++ [y]) (Scu.readTexts (f.toNat - (ys.length+1)) q') by
      rw [hT.out,Hg,Scu.readTexts_more (by rw [HQ.out]),HQ.out,Scu.glue_glue])
     have Kc:=Hi.kept;obtain ⟨kc0,kc1,kc2,kc3,kc4⟩:=cz5 Kc;have kcz:=Kc.frozen;have Kk:=mA Hi;have Hb:=mA (Hi.alloc (.cells #[.string y] 9));clear Hg hT Hi Kc kc0 kc1 kc2 kc4;go_wp2_with
      (at_builtin
       refine zAz _ rfl (.tmp 91) (.tmp 93) 39 rfl zBl w.heap.size (.slice A ys.length cp) ys.length (ys.map Value.string) rfl Hb.out.own (.slice (some ⟨w2.heap.size,0,none⟩) 1 1) 1 [.string y] rfl (zRl (xs:=[.string y]) (Blk.new w2 9 #[.string y]) rfl) (zBf [y]) (by unfold maxLen;omega) (by omega) (by simp;omega) ?_;intro v4 w4 h4 Hv _;obtain ⟨A4,c4,rfl,_,_,_,_⟩:=zAi h4;have Kl:=Hb.out.app (by decide) Ku (by omega) Hv h4;have Km:=mA (zFt Hb.out.kept Hb.out.own (by decide) Hv);have Vk:=Km.out.frozen;have Vl:=Km.out.cell 3;have Ky:=mA Kl;have Kz:=mA (show wa.heap.size < w4.heap.size by have:=Hv.size;simp at this;omega);clear Hv h4 Kl)
     go_roundw
     case rel =>
      refine ⟨ys ++ [y],q',A4,c4,by simp;omega,by simp,rfl,HS.out.1,?_,?_,by simpa [World.setCell] using Kz.out,?_⟩
      ·intro z hz;rcases List.mem_append.1 hz with h | h
       ·exact Kw.out z h
       rw [List.mem_singleton] at h;subst h;exact HS.out.2
      ·rw [List.length_append];exact Ky.out
      rw [List.length_append];exact HN
     case measure=>simp only [intOf];omega
    have Vm:(g != 0)=true:=by simpa using Hm
    have Hr:Scu.readTexts f.toNat r=([],Scu.str0,g):=by
     exact zT3
    have HF:=mA (show Scu.stageDecode s=(Scu.kept0,0,g) by rw [Ki.out,Hr,if_pos Hm]);have Ha:=Hi.zero;obtain ⟨zc0,zc1,zc2,zc3,zc4⟩:=cz5 Ha;have zcz:=Ha.frozen;have Kk:=mA Hi.low;clear hT Hr Ha Hi Hm;go_wp2
    refine bodyPost_ret (v:=.tuple #[.agg #[.int .i64 0,.int .i64 0,.bool false,.slice none 0 0,.int .i64 0],.int .i64 0,.int .i64 g]) (by simp [results,Tryz.results98,go_sem,zc0,zc1,zc2,zc3,zc4]) rfl ?_;exact ⟨by rw [HF.out];exact zBs _ _ _,zAn Kk.out (mC _)⟩
   have Hq:f<=(ys.length:Int):=by omega
   have Hr:Scu.readTexts f.toNat r=(ys,q,0):=by rw [hT.out,show f.toNat - ys.length=0 by omega];exact Scu.glue_done _ _
   have Kn:=mA (show Scu.stageDecode s=if q≠Scu.str0 then (Scu.kept0,0,4) else if Scu.keptFault ⟨b,c,d == 1,ys,e⟩≠0 then (Scu.kept0,0,Scu.keptFault ⟨b,c,d == 1,ys,e⟩) else (⟨b,c,d == 1,ys,e⟩,a,0) by
    rw [Ki.out,Hr,if_neg (by simp)])
   have Ha:=hL.zero;obtain ⟨zc0,zc1,zc2,zc3,zc4⟩:=cz5 Ha;have zcz:=Ha.frozen;have He:=hL.kept;obtain ⟨kc0,kc1,kc2,kc3,kc4⟩:=cz5 He;have kcz:=He.frozen;have Ko:=mA (hL.strs (by omega) Hu);have HL:=mA hL;clear hT Hr hL Hu Ha He;by_cases Hn:q=Scu.str0
   ·have Kp:q.toList=[]:=(zBe q).2 (by rw [Hn];rfl);have Kq:=mA (show Scu.stageDecode s=if Scu.keptFault ⟨b,c,d == 1,ys,e⟩≠0 then (Scu.kept0,0,Scu.keptFault ⟨b,c,d == 1,ys,e⟩) else (⟨b,c,d == 1,ys,e⟩,a,0) by
     rw [Kn.out,if_neg (by simp [Hn])])
    clear Hn;go_wp2_with fail
    refine (zBw _ b c (d == 1) ys e _ 0 Ko.out.is).mono ?_;rintro e2 w3 ⟨rfl,h3⟩;have Hb:=HL.out.below h3;have Ha:=Hb.zero;obtain ⟨yc0,yc1,yc2,yc3,yc4⟩:=cz5 Ha;have ycz:=Ha.frozen;have He:=Hb.kept;obtain ⟨kd0,kd1,kd2,kd3,kd4⟩:=cz5 He;have kdz:=He.frozen;have Hw:Blk w3 wc.heap.size 3 #[.int .i64 a,.int .i64 b,.int .i64 c,.int .i64 d,.int .i64 e,.int .i64 f]:=Hb.nums;obtain ⟨nd0,nd1,nd2,nd3,nd4,nd5⟩:=cz6 Hw;have ndz:=Hw.frozen;have Va:=mA (Ko.out.below h3);have Kd:=mA Hb;by_cases hf:Scu.keptFault ⟨b,c,d == 1,ys,e⟩=0
    ·have Vb:(Scu.keptFault ⟨b,c,d == 1,ys,e⟩ != 0)=false:=by simpa using hf
     have HF:=mA (show Scu.stageDecode s=(⟨b,c,d == 1,ys,e⟩,a,0) by rw [Kq.out,if_neg (by simpa using hf)]);clear hf He Ha Hw Hb;go_wp2_with fail
     go_region
     go_wp2
     refine bodyPost_ret (v:=.tuple #[.agg #[.int .i64 b,.int .i64 c,.bool (d == 1),.slice A ys.length cp,.int .i64 e],.int .i64 a,.int .i64 0]) (by simp [results,Tryz.results98,go_sem,yc0,yc1,yc2,yc3,yc4]) rfl ?_;refine ⟨?_,(zAn Kd.out.low (mC _)).drew⟩;rw [HF.out];exact ⟨_,rfl,(Va.out.same (Same.sets5 (B:=0) Kd.out.zero (mE _) (by decide) _ _ _ _ _)).below (mG _ _).drew⟩
    have Vb:(Scu.keptFault ⟨b,c,d == 1,ys,e⟩ != 0)=true:=by simpa using hf
    have HF:=mA (show Scu.stageDecode s=(Scu.kept0,0,Scu.keptFault ⟨b,c,d == 1,ys,e⟩) by rw [Kq.out,if_pos hf]);clear hf He Ha Hw Hb;go_wp2
    refine bodyPost_ret (v:=.tuple #[.agg #[.int .i64 0,.int .i64 0,.bool false,.slice none 0 0,.int .i64 0],.int .i64 0,.int .i64 (Scu.keptFault ⟨b,c,d == 1,ys,e⟩)]) (by simp [results,Tryz.results98,go_sem,yc0,yc1,yc2,yc3,yc4]) rfl ?_;exact ⟨by rw [HF.out];exact zBs _ _ _,zAn Kd.out.low (mC _)⟩
   have Kp:¬ q.toList=[]:=fun e=>Hn ((Scu.size_zero_iff _).1 ((zBe q).1 e))
   have Vn:q.toList.isEmpty=false:=by simpa using Kp
   have HF:=mA (show Scu.stageDecode s=(Scu.kept0,0,4) by rw [Kn.out,if_pos Hn]);clear Hn;go_wp2
   refine bodyPost_ret (v:=.tuple #[.agg #[.int .i64 0,.int .i64 0,.bool false,.slice none 0 0,.int .i64 0],.int .i64 0,.int .i64 4]) (by simp [results,Tryz.results98,go_sem,zc0,zc1,zc2,zc3,zc4]) rfl ?_;exact zV3
end Go.Proofs.YtlngfbngnnepiaaGreat
