/- Part 11: words and walks under the laws of the whole. -/
import Derived.Test.YtlngfbngnnepiaaGreatZZ7
set_option linter.unusedVariables false
set_option linter.unusedSimpArgs false
set_option maxHeartbeats 4000000
set_option maxRecDepth 100000
namespace Go.Proofs.YtlngfbngnnepiaaGreat
open Go.RowKit
theorem zNq {k:Scu.Kept} {gen:Int} (h:Scu.keptFault k≠0):Scu.stageEncode k gen=(Scu.str0,Scu.keptFault k):=if_pos h
theorem zNr {k:Scu.Kept} {gen:Int} (h:¬ Scu.keptFault k≠0) (hg:gen < 0\/1073741824 < gen):Scu.stageEncode k gen=(Scu.str0,2):=by unfold Scu.stageEncode;rw [if_neg h,if_pos hg]
theorem zKi {k:Scu.Kept} {gen:Int} (h:¬ Scu.keptFault k≠0) (hg:¬ (gen < 0\/1073741824 < gen)):Scu.stageEncode k gen=(Scu.keptBytes k gen,0):=by unfold Scu.stageEncode;rw [if_neg h,if_neg hg]
theorem zIm {w:World} {g:Nat} {l:List Int} (h:Blk w g 3 (l.map (Value.int .i64)).toArray) {j:Nat} (hj:j < l.length):w.cell? ⟨g,j,none⟩=some (.int .i64 l[j]):=by
 rw [h.cell];simp [mH hj]
theorem zFg (a b:ByteArray) (h:a.size<=2484) (h':b.size<=2484):¬ 9223372036854775807 < a.size+b.size:=by omega
theorem zK2 {P:Prop} (h:P:=by
 have Hh:=mA Hg;have HB:=mA (mB Ha (mB Hc He));clear Hg Ha Hc He;go_wp2_with fail
 refine (zJc _ _ hb.1 hb.2).mono ?_;rintro e w2 ⟨rfl,h2⟩;go_wp2
 go_roundw
 case rel=>exact ⟨j+1,by omega,by go_num,by rw [Hh.out],HB.out.1.trans (h2.mono HB.out.1.size),HB.out.2.1.same h2,HB.out.2.2.same h2⟩
 case measure=>simp only [intOf];omega):P:=h
theorem zN2 {P:Prop} (h:P:=by
 go_wp2
 go_ret2
 exact ⟨zDa (zFf (by rw [HM.out];rfl)) rfl,Hd.out.trans (h2.mono Hd.out.size)⟩):P:=h
theorem zO2 {P:Prop} (h:P:=by
 have Hd:=mA Ha;clear Ha Hi;go_wp2_with fail
 refine (zNm _ _ (by omega)).mono ?_;rintro e w2 ⟨rfl,h2⟩;go_wp2
 go_roundw
 case rel=>exact ⟨m+1,Hb,by go_num,by rw [Hh.out],Hd.out.trans (h2.mono Hd.out.size)⟩
 case measure=>simp only [intOf];omega):P:=h
theorem zP2 {P:Prop} (h:P:=by
 rw [hs];have HK:=mA hk;clear hs hr he hk t0;go_enter Tryz.func20,Tryz.ntmps20
 go_wp2_with fail
 refine (zBh _ vi no ca lo co _ B (HV.out.alloc _)).mono ?_;rintro e w1 ⟨rfl,h1⟩;rw [HK.out];go_wp2
 go_ret2
 exact ⟨rfl,zAf h1⟩):P:=h
theorem zR2 {P:Prop} (h:P:=by
 have Hd:=mA Ha;clear Ha Hi;go_wp2_with fail
 refine (zOk _ _ (by unfold maxLen;omega)).mono ?_;rintro e w2 ⟨rfl,h2⟩;exact zN2):P:=h
theorem zLe (lv:Value) (vi no:Int) (ca:Bool) (lo:List Scu.Str) (co gen:Int) (w:World) (B:Nat) (hv:IsStrs w B lv lo) :
 Calls Tryz.prog 20 #[.agg #[.int .i64 vi,.int .i64 no,.bool ca,lv,.int .i64 co],.int .i64 gen] w fun e w' =>
  e=.returned (.tuple #[.string (Scu.stageEncode (⟨vi,no,ca,lo,co⟩:Scu.Kept) gen).1,.int .i64 (Scu.stageEncode (⟨vi,no,ca,lo,co⟩:Scu.Kept) gen).2])/\Below w.heap.size w w':=by
 have HV:=mA hv;obtain ⟨⟨A,c,rfl,_,hr⟩,hl,he⟩:=hv;unfold R47 at hl he;cases t0:(Scu.keptFault (⟨vi,no,ca,lo,co⟩:Scu.Kept) != 0) with
 | true =>
   have hs:=zNq (k:=(⟨vi,no,ca,lo,co⟩:Scu.Kept)) (gen:=gen) (by simpa using t0);rw [hs];clear hs hr he;go_enter Tryz.func20,Tryz.ntmps20
   go_wp2_with fail
   refine (zBh _ vi no ca lo co _ B (HV.out.alloc _)).mono ?_;rintro e w1 ⟨rfl,h1⟩;go_wp2
   go_ret2
   exact ⟨rfl,zAf h1⟩
 | false =>
 have hk:Scu.keptFault (⟨vi,no,ca,lo,co⟩:Scu.Kept)=0:=by simpa using t0
 cases t1:decide (gen < 0) with
 | true =>
   have hs:=zNr (k:=(⟨vi,no,ca,lo,co⟩:Scu.Kept)) (gen:=gen) (by simpa using t0) (.inl (of_decide_eq_true t1));exact zP2
 | false =>
 cases t2:decide ((1073741824:Int) < gen) with
 | true =>
   have hs:=zNr (k:=(⟨vi,no,ca,lo,co⟩:Scu.Kept)) (gen:=gen) (by simpa using t0) (.inr (of_decide_eq_true t2));exact zP2
 | false =>
 have hg:¬ (gen < 0\/1073741824 < gen):=fun h=>h.elim (of_decide_eq_false t1) (of_decide_eq_false t2)
 have hs:=zKi (k:=(⟨vi,no,ca,lo,co⟩:Scu.Kept)) (gen:=gen) (by simpa using t0) hg;rw [hs];have HK:=mA hk;have Ho:=mA (Scu.nums_bd hk (gen:=gen) (by omega) (by omega));have Hs:lo.length<=60:=(Scu.keptFault_ok hk).2.2.2.2.2.1;clear hs he hk t0 hg;cases ca with
 | false =>
   go_enter Tryz.func20,Tryz.ntmps20
   go_wp2_with fail
   refine (zBh _ vi no false lo co _ B (HV.out.alloc _)).mono ?_;rintro e w1 ⟨rfl,h1⟩;rw [HK.out];obtain ⟨hc,hz⟩:=bcell h1;have Hp:=zBd h1;have Hk:=zAf h1;have Hm:=(Blk.new w 42 #[.int .i64 vi,.int .i64 no,.bool false,.slice A lo.length c,.int .i64 co]).same h1;go_wp2_with fail
   go_loopw [8,43] (fun s i wr=>∃ j:Nat,j<=6/\i=.int .i64 j/\s=.string (Scu.encN ⟨vi,no,false,lo,co⟩ gen j)/\Below w.heap.size w wr/\Blk wr w.heap.size 42 #[.int .i64 vi,.int .i64 no,.bool false,.slice A lo.length c,.int .i64 co] /\
    Blk wr w1.heap.size 3 ((Scu.nums ⟨vi,no,false,lo,co⟩ gen).map (Value.int .i64)).toArray) (fun _ i _=>6 - (intOf i).toNat)
   case atStart=>exact ⟨0,by omega,rfl,rfl,Hk.alloc Hk.size _,Hm.alloc _,Blk.new w1 3 _⟩
   case round =>
    obtain ⟨j,hj,rfl,rfl,Ha,Hc,He⟩:=hrel;by_cases Hb:j < 6
    ·have Hf:(j:Int) < 6:=by omega
     have hn:=zIm He (j:=j) Hb;have hb:=Ho.out _ (List.getElem_mem (show j < (Scu.nums _ gen).length from Hb));have Hg:=Scu.encN_succ (show j < (Scu.nums ⟨vi,no,false,lo,co⟩ gen).length from Hb);generalize (Scu.nums _ gen)[j]'Hb=n at hn hb Hg;have ha:=zFg _ (Scu.numBytes n) (mD (Scu.encN_size ⟨vi,no,false,lo,co⟩ gen j) (by omega)) (by rw [Scu.numBytes_size];omega);exact zK2
    have Hf:(6:Int)<=(j:Int):=by omega
    have HJ:=mA (show j=6 by omega);have hu:=Hc.cell 3;simp at hu
    obtain ⟨wa,Hn⟩:=mJ (wr);subst Hn;have HB:=mA (mB Ha Hc);clear Ha Hc He;go_wp2_with fail
    go_loopw [8,59] (fun s i wr=>∃ m:Nat,m<=lo.length/\i=.int .i64 m/\s=.string (Scu.encT ⟨vi,no,false,lo,co⟩ gen m)/\Below w.heap.size w wr) (fun _ i _=>lo.length - (intOf i).toNat)
    case atStart=>exact ⟨0,mE _,rfl,by rw [Scu.encT_zero,HJ.out],HB.out.1⟩
    case round =>
     obtain ⟨m,hm,rfl,rfl,Ha⟩:=hrel;have Hi:=hr.below Ha;have Hl:=Scu.encT_size HK.out gen m;by_cases Hb:m < lo.length
     ·have Hj:(m:Int) < (lo.length:Int):=by omega
      obtain ⟨g,o,rfl,hg,Hq⟩:=zBz Hi Hb;have Hr:lo[m].size<=40:=Scu.log_small HK.out _ (List.getElem_mem Hb);have ha:=zFg _ (Scu.textBytes lo[m]) Hl (by rw [Scu.textBytes_size];omega);have Hh:=mA (Scu.encT_succ (k:=⟨vi,no,false,lo,co⟩) (gen:=gen) Hb);exact zO2
     have Hj:(lo.length:Int)<=(m:Int):=by omega
     have HM:=mA (show Scu.encT ⟨vi,no,false,lo,co⟩ gen m=Scu.keptBody ⟨vi,no,false,lo,co⟩ gen by
      rw [show m=lo.length by omega];exact Scu.encT_all _ _)
     have ha:=zFg (Scu.sealS (Scu.encT ⟨vi,no,false,lo,co⟩ gen m)) _ (by rw [Scu.sealS_size];omega) Hl;exact zR2
 | true =>
   go_enter Tryz.func20,Tryz.ntmps20
   go_wp2_with fail
   refine (zBh _ vi no true lo co _ B (HV.out.alloc _)).mono ?_;rintro e w1 ⟨rfl,h1⟩;rw [HK.out];obtain ⟨hc,hz⟩:=bcell h1;have Hp:=zBd h1;have Hk:=zAf h1;have Hm:=(Blk.new w 42 #[.int .i64 vi,.int .i64 no,.bool true,.slice A lo.length c,.int .i64 co]).same h1;go_wp2_with fail
   go_loopw [8,43] (fun s i wr=>∃ j:Nat,j<=6/\i=.int .i64 j/\s=.string (Scu.encN ⟨vi,no,true,lo,co⟩ gen j)/\Below w.heap.size w wr/\Blk wr w.heap.size 42 #[.int .i64 vi,.int .i64 no,.bool true,.slice A lo.length c,.int .i64 co] /\
    Blk wr w1.heap.size 3 ((Scu.nums ⟨vi,no,true,lo,co⟩ gen).map (Value.int .i64)).toArray) (fun _ i _=>6 - (intOf i).toNat)
   case atStart=>exact ⟨0,by omega,rfl,rfl,Hk.alloc Hk.size _,Hm.alloc _,Blk.new w1 3 _⟩
   case round =>
    obtain ⟨j,hj,rfl,rfl,Ha,Hc,He⟩:=hrel;by_cases Hb:j < 6
    ·have Hf:(j:Int) < 6:=by omega
     have hn:=zIm He (j:=j) Hb;have hb:=Ho.out _ (List.getElem_mem (show j < (Scu.nums _ gen).length from Hb));have Hg:=Scu.encN_succ (show j < (Scu.nums ⟨vi,no,true,lo,co⟩ gen).length from Hb);generalize (Scu.nums _ gen)[j]'Hb=n at hn hb Hg;have ha:=zFg _ (Scu.numBytes n) (mD (Scu.encN_size ⟨vi,no,true,lo,co⟩ gen j) (by omega)) (by rw [Scu.numBytes_size];omega);exact zK2
    have Hf:(6:Int)<=(j:Int):=by omega
    have HJ:=mA (show j=6 by omega);have hu:=Hc.cell 3;simp at hu
    obtain ⟨wa,Hn⟩:=mJ (wr);subst Hn;have HB:=mA (mB Ha Hc);clear Ha Hc He;go_wp2_with fail
    go_loopw [8,59] (fun s i wr=>∃ m:Nat,m<=lo.length/\i=.int .i64 m/\s=.string (Scu.encT ⟨vi,no,true,lo,co⟩ gen m)/\Below w.heap.size w wr) (fun _ i _=>lo.length - (intOf i).toNat)
    case atStart=>exact ⟨0,mE _,rfl,by rw [Scu.encT_zero,HJ.out],HB.out.1⟩
    case round =>
     obtain ⟨m,hm,rfl,rfl,Ha⟩:=hrel;have Hi:=hr.below Ha;have Hl:=Scu.encT_size HK.out gen m;by_cases Hb:m < lo.length
     ·have Hj:(m:Int) < (lo.length:Int):=by omega
      obtain ⟨g,o,rfl,hg,Hq⟩:=zBz Hi Hb;have Hr:lo[m].size<=40:=Scu.log_small HK.out _ (List.getElem_mem Hb);have ha:=zFg _ (Scu.textBytes lo[m]) Hl (by rw [Scu.textBytes_size];omega);have Hh:=mA (Scu.encT_succ (k:=⟨vi,no,true,lo,co⟩) (gen:=gen) Hb);exact zO2
     have Hj:(lo.length:Int)<=(m:Int):=by omega
     have HM:=mA (show Scu.encT ⟨vi,no,true,lo,co⟩ gen m=Scu.keptBody ⟨vi,no,true,lo,co⟩ gen by
      rw [show m=lo.length by omega];exact Scu.encT_all _ _)
     have ha:=zFg (Scu.sealS (Scu.encT ⟨vi,no,true,lo,co⟩ gen m)) _ (by rw [Scu.sealS_size];omega) Hl;exact zR2
theorem zHd (lv:Value) (k:Scu.Kept) (gen:Int) (w:World) (B:Nat) (hv:IsStrs w B lv k.log) :
 Calls Tryz.prog 20 #[.agg #[.int .i64 k.view,.int .i64 k.normal,.bool k.calm,lv,.int .i64 k.commit],.int .i64 gen] w fun e w' =>
  e=.returned (.tuple #[.string (Scu.stageEncode k gen).1,.int .i64 (Scu.stageEncode k gen).2])/\Below w.heap.size w w' :=
 zLe lv k.view k.normal k.calm k.log k.commit gen w B hv
theorem zL2 {P:Prop} (h:P:=by
 have Hi:=mA Hh;have HB:=mA (mB Ha (mB Hb Hf));clear Hh Ha Hb Hf;go_wp2_with fail
 refine (zEl _ _ hb.1 hb.2).mono ?_;rintro e w2 ⟨rfl,h2⟩;go_wp2
 go_roundw
 case rel=>exact ⟨j+1,by omega,by go_num,by rw [Hi.out],HB.out.1.trans (h2.mono HB.out.1.size),HB.out.2.1.same h2,HB.out.2.2.same h2⟩
 case measure=>simp only [intOf];omega):P:=h
theorem zM2 {P:Prop} (h:P:=by
 have Hd:=mA (mB Ha Hb);clear Ha Hj Hb;go_wp2_with fail
 refine (zGy _ _ (by omega)).mono ?_;rintro e w2 ⟨rfl,h2⟩;go_wp2
 go_roundw
 case rel=>exact ⟨m+1,Hc,by go_num,by rw [Hi.out],Hd.out.1.trans (h2.mono Hd.out.1.size),Hd.out.2.same h2⟩
 case measure=>simp only [intOf];omega):P:=h
theorem zQ2 {P:Prop} (h:P:=by
 have Hd:=mA Ha;clear Ha Hj Hb;go_wp2_with fail
 refine (zIk _ _ (by unfold maxLen;omega)).mono ?_;rintro e w2 ⟨rfl,h2⟩;exact zN2):P:=h
theorem zNs (lv:Value) (vi no:Int) (ca:Bool) (lo:List Scu.Str) (co gen:Int) (w:World) (B:Nat) (hv:IsStrs w B lv lo) :
 Calls Tryz.prog 28 #[.agg #[.int .i64 vi,.int .i64 no,.bool ca,lv,.int .i64 co],.int .i64 gen] w fun e w' =>
  e=.returned (.tuple #[.string (Scu.stageEncode (⟨vi,no,ca,lo,co⟩:Scu.Kept) gen).1,.int .i64 (Scu.stageEncode (⟨vi,no,ca,lo,co⟩:Scu.Kept) gen).2])/\Below w.heap.size w w':=by
 have HV:=mA hv;obtain ⟨⟨A,c,rfl,_,hr⟩,hl,he⟩:=hv;unfold R47 at hl he;cases t0:(Scu.keptFault (⟨vi,no,ca,lo,co⟩:Scu.Kept) == 0) with
 | false =>
   have hs:=zNq (k:=(⟨vi,no,ca,lo,co⟩:Scu.Kept)) (gen:=gen) (by simpa using t0);rw [hs];have t0':(Scu.keptFault (⟨vi,no,ca,lo,co⟩:Scu.Kept) != 0)=true:=by simpa using t0
   clear hs hr he;go_enter Tryz.func28,Tryz.ntmps28
   go_wp2_with fail
   refine (zBw _ vi no ca lo co _ B (HV.out.alloc _)).mono ?_;rintro e w1 ⟨rfl,h1⟩;go_wp2
   go_ret2
   exact ⟨rfl,zAf h1⟩
 | true =>
 have hk:Scu.keptFault (⟨vi,no,ca,lo,co⟩:Scu.Kept)=0:=by simpa using t0
 cases t1:inB gen 0 1073741824 with
 | false =>
   have U1:=mA t1;have hs:=zNr (k:=(⟨vi,no,ca,lo,co⟩:Scu.Kept)) (gen:=gen) (by simpa using hk) (zFo t1);clear t1;rw [hs];have HK:=mA hk;clear hs hr he hk t0;go_enter Tryz.func28,Tryz.ntmps28
   go_wp2_with fail
   refine (zBw _ vi no ca lo co _ B (HV.out.alloc _)).mono ?_;rintro e w1 ⟨rfl,h1⟩;rw [HK.out];go_wp2_with (go_at_call 12;refine (zAt _ _ _ _).mono ?_;rintro e w1 ⟨rfl,rfl⟩;rw [U1.out])
   go_ret2
   exact ⟨rfl,zAf h1⟩
 | true =>
 have U1:=mA t1;have Hp:=zDo t1;have hg:¬ (gen < 0\/1073741824 < gen):=by omega
 have hs:=zKi (k:=(⟨vi,no,ca,lo,co⟩:Scu.Kept)) (gen:=gen) (by simpa using hk) hg;rw [hs];have HK:=mA hk;have Ho:=mA (Scu.nums_bd hk (gen:=gen) (by omega) (by omega));have Ht:lo.length<=60:=(Scu.keptFault_ok hk).2.2.2.2.2.1;clear hs he hk t0 hg t1 Hp;cases ca with
 | false =>
   go_enter Tryz.func28,Tryz.ntmps28
   go_wp2_with fail
   refine (zBw _ vi no false lo co _ B (HV.out.alloc _)).mono ?_;rintro e w1 ⟨rfl,h1⟩;rw [HK.out];obtain ⟨hc,hz⟩:=bcell h1;have Hq:=zBd h1;have He:=zAf h1;have Hl:=(Blk.new w 42 #[.int .i64 vi,.int .i64 no,.bool false,.slice A lo.length c,.int .i64 co]).same h1;have HS:=mA Hl;clear Hl;go_wp2_with (go_at_call 12;refine (zAt _ _ _ _).mono ?_;rintro e w1 ⟨rfl,rfl⟩;rw [U1.out])
   go_loopw [8,9] (fun s i wr=>∃ j:Nat,j<=6/\i=.int .i64 j/\s=.string (Scu.encN ⟨vi,no,false,lo,co⟩ gen j)/\Below w.heap.size w wr/\Blk wr w.heap.size 42 #[.int .i64 vi,.int .i64 no,.bool false,.slice A lo.length c,.int .i64 co] /\
    Blk wr w1.heap.size 3 ((Scu.nums ⟨vi,no,false,lo,co⟩ gen).map (Value.int .i64)).toArray) (fun _ i _=>6 - (intOf i).toNat)
   case atStart=>first
    | exact ⟨0,by omega,rfl,rfl,He.alloc He.size _,HS.out.alloc _,Blk.new w1 3 _⟩
    | exact ⟨0,by omega,rfl,rfl,(He.alloc He.size _).setCell (p:=⟨w1.heap.size,3,none⟩) He.size _,(HS.out.alloc _).far (p:=⟨w1.heap.size,3,none⟩) (by simp;omega) _,(Blk.new w1 3 #[.int .i64 gen,.int .i64 vi,.int .i64 no,.int .i64 0,.int .i64 co,.int .i64 lo.length]).set_ 3 _⟩
   case round =>
    obtain ⟨j,hj,rfl,rfl,Ha,Hb,Hf⟩:=hrel;by_cases Hc:j < 6
    ·have Hg:(j:Int) < 6:=by omega
     have hn:=zIm Hf (j:=j) Hc;have hb:=Ho.out _ (List.getElem_mem (show j < (Scu.nums _ gen).length from Hc));have Hh:=Scu.encN_succ (show j < (Scu.nums ⟨vi,no,false,lo,co⟩ gen).length from Hc);generalize (Scu.nums _ gen)[j]'Hc=n at hn hb Hh;have ha:=zFg _ (Scu.numBytes n) (mD (Scu.encN_size ⟨vi,no,false,lo,co⟩ gen j) (by omega)) (by rw [Scu.numBytes_size];omega);exact zL2
    have Hg:(6:Int)<=(j:Int):=by omega
    have HJ:=mA (show j=6 by omega);obtain ⟨wa,Hn⟩:=mJ (wr);subst Hn;have HB:=mA (mB Ha Hb);clear Ha Hb Hf;go_wp2_with fail
    go_loopw [8,12] (fun s i wr=>∃ m:Nat,m<=lo.length/\i=.int .i64 m/\s=.string (Scu.encT ⟨vi,no,false,lo,co⟩ gen m)/\Below w.heap.size w wr/\Blk wr w.heap.size 42 #[.int .i64 vi,.int .i64 no,.bool false,.slice A lo.length c,.int .i64 co]) (fun _ i _=>lo.length - (intOf i).toNat)
    case atStart=>exact ⟨0,mE _,rfl,by rw [Scu.encT_zero,HJ.out],HB.out.1,HB.out.2⟩
    case round =>
     obtain ⟨m,hm,rfl,rfl,Ha,Hb⟩:=hrel;have Hj:=hr.below Ha;have hu:=Hb.cell 3;simp at hu
     have Hm:=Scu.encT_size HK.out gen m;by_cases Hc:m < lo.length
     ·have Hk:(m:Int) < (lo.length:Int):=by omega
      obtain ⟨g,o,rfl,hg,Hr⟩:=zBz Hj Hc;have Hs:lo[m].size<=40:=Scu.log_small HK.out _ (List.getElem_mem Hc);have ha:=zFg _ (Scu.textBytes lo[m]) Hm (by rw [Scu.textBytes_size];omega);have Hi:=mA (Scu.encT_succ (k:=⟨vi,no,false,lo,co⟩) (gen:=gen) Hc);exact zM2
     have Hk:(lo.length:Int)<=(m:Int):=by omega
     have HM:=mA (show Scu.encT ⟨vi,no,false,lo,co⟩ gen m=Scu.keptBody ⟨vi,no,false,lo,co⟩ gen by
      rw [show m=lo.length by omega];exact Scu.encT_all _ _)
     have ha:=zFg (Scu.sealS (Scu.encT ⟨vi,no,false,lo,co⟩ gen m)) _ (by rw [Scu.sealS_size];omega) Hm;exact zQ2
 | true =>
   go_enter Tryz.func28,Tryz.ntmps28
   go_wp2_with fail
   refine (zBw _ vi no true lo co _ B (HV.out.alloc _)).mono ?_;rintro e w1 ⟨rfl,h1⟩;rw [HK.out];obtain ⟨hc,hz⟩:=bcell h1;have Hq:=zBd h1;have He:=zAf h1;have Hl:=(Blk.new w 42 #[.int .i64 vi,.int .i64 no,.bool true,.slice A lo.length c,.int .i64 co]).same h1;have HS:=mA Hl;clear Hl;go_wp2_with (go_at_call 12;refine (zAt _ _ _ _).mono ?_;rintro e w1 ⟨rfl,rfl⟩;rw [U1.out])
   go_loopw [8,9] (fun s i wr=>∃ j:Nat,j<=6/\i=.int .i64 j/\s=.string (Scu.encN ⟨vi,no,true,lo,co⟩ gen j)/\Below w.heap.size w wr/\Blk wr w.heap.size 42 #[.int .i64 vi,.int .i64 no,.bool true,.slice A lo.length c,.int .i64 co] /\
    Blk wr w1.heap.size 3 ((Scu.nums ⟨vi,no,true,lo,co⟩ gen).map (Value.int .i64)).toArray) (fun _ i _=>6 - (intOf i).toNat)
   case atStart=>first
    | exact ⟨0,by omega,rfl,rfl,He.alloc He.size _,HS.out.alloc _,Blk.new w1 3 _⟩
    | exact ⟨0,by omega,rfl,rfl,(He.alloc He.size _).setCell (p:=⟨w1.heap.size,3,none⟩) He.size _,(HS.out.alloc _).far (p:=⟨w1.heap.size,3,none⟩) (by simp;omega) _,(Blk.new w1 3 #[.int .i64 gen,.int .i64 vi,.int .i64 no,.int .i64 0,.int .i64 co,.int .i64 lo.length]).set_ 3 _⟩
   case round =>
    obtain ⟨j,hj,rfl,rfl,Ha,Hb,Hf⟩:=hrel;by_cases Hc:j < 6
    ·have Hg:(j:Int) < 6:=by omega
     have hn:=zIm Hf (j:=j) Hc;have hb:=Ho.out _ (List.getElem_mem (show j < (Scu.nums _ gen).length from Hc));have Hh:=Scu.encN_succ (show j < (Scu.nums ⟨vi,no,true,lo,co⟩ gen).length from Hc);generalize (Scu.nums _ gen)[j]'Hc=n at hn hb Hh;have ha:=zFg _ (Scu.numBytes n) (mD (Scu.encN_size ⟨vi,no,true,lo,co⟩ gen j) (by omega)) (by rw [Scu.numBytes_size];omega);exact zL2
    have Hg:(6:Int)<=(j:Int):=by omega
    have HJ:=mA (show j=6 by omega);obtain ⟨wa,Hn⟩:=mJ (wr);subst Hn;have HB:=mA (mB Ha Hb);clear Ha Hb Hf;go_wp2_with fail
    go_loopw [8,12] (fun s i wr=>∃ m:Nat,m<=lo.length/\i=.int .i64 m/\s=.string (Scu.encT ⟨vi,no,true,lo,co⟩ gen m)/\Below w.heap.size w wr/\Blk wr w.heap.size 42 #[.int .i64 vi,.int .i64 no,.bool true,.slice A lo.length c,.int .i64 co]) (fun _ i _=>lo.length - (intOf i).toNat)
    case atStart=>exact ⟨0,mE _,rfl,by rw [Scu.encT_zero,HJ.out],HB.out.1,HB.out.2⟩
    case round =>
     obtain ⟨m,hm,rfl,rfl,Ha,Hb⟩:=hrel;have Hj:=hr.below Ha;have hu:=Hb.cell 3;simp at hu
     have Hm:=Scu.encT_size HK.out gen m;by_cases Hc:m < lo.length
     ·have Hk:(m:Int) < (lo.length:Int):=by omega
      obtain ⟨g,o,rfl,hg,Hr⟩:=zBz Hj Hc;have Hs:lo[m].size<=40:=Scu.log_small HK.out _ (List.getElem_mem Hc);have ha:=zFg _ (Scu.textBytes lo[m]) Hm (by rw [Scu.textBytes_size];omega);have Hi:=mA (Scu.encT_succ (k:=⟨vi,no,true,lo,co⟩) (gen:=gen) Hc);exact zM2
     have Hk:(lo.length:Int)<=(m:Int):=by omega
     have HM:=mA (show Scu.encT ⟨vi,no,true,lo,co⟩ gen m=Scu.keptBody ⟨vi,no,true,lo,co⟩ gen by
      rw [show m=lo.length by omega];exact Scu.encT_all _ _)
     have ha:=zFg (Scu.sealS (Scu.encT ⟨vi,no,true,lo,co⟩ gen m)) _ (by rw [Scu.sealS_size];omega) Hm;exact zQ2
theorem zJg (lv:Value) (k:Scu.Kept) (gen:Int) (w:World) (B:Nat) (hv:IsStrs w B lv k.log) :
 Calls Tryz.prog 28 #[.agg #[.int .i64 k.view,.int .i64 k.normal,.bool k.calm,lv,.int .i64 k.commit],.int .i64 gen] w fun e w' =>
  e=.returned (.tuple #[.string (Scu.stageEncode k gen).1,.int .i64 (Scu.stageEncode k gen).2])/\Below w.heap.size w w' :=
 zNs lv k.view k.normal k.calm k.log k.commit gen w B hv
end Go.Proofs.YtlngfbngnnepiaaGreat
