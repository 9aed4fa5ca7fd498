/- Part 6: words and walks under the laws of the whole. -/
import Derived.Test.YtnpphdaakookcaaDoorQ5
set_option linter.unusedVariables false
set_option linter.unusedSimpArgs false
set_option maxHeartbeats 4000000
set_option maxRecDepth 100000
namespace Go.Proofs.YtnpphdaakookcaaDoor
open Go.RowKit
theorem zLj {α:Type} (f:α->List Value) (m:Nat) (hf:∀ x,(f x).length=m):∀ (l:List α) (k j:Nat) (hk:k < l.length),j < m->(l.flatMap f)[k*m+j]? = (f l[k])[j]?
 | x :: l,0,j,_,hj=>by
   simp only [List.flatMap_cons,Nat.zero_mul,Nat.zero_add,List.getElem_cons_zero]
   rw [List.getElem?_append_left (by rw [hf];exact hj)]
 | x :: l,k+1,j,hk,hj=>by
   simp only [List.flatMap_cons,List.getElem_cons_succ]
   rw [List.getElem?_append_right (by rw [hf,Nat.succ_mul];omega),hf,show (k+1)*m+j - m=k*m+j from by rw [Nat.succ_mul];omega]
   exact zLj f m hf l k j (by simpa using hk) hj
theorem zUh {α:Type} (f:α->List Value) (m:Nat) (hf:∀ x,(f x).length=m) (l:List α):(l.flatMap f).length=l.length*m:=by
 induction l with
 | nil=>simp
 | cons x l ih=>simp only [List.flatMap_cons,List.length_append,hf,ih,List.length_cons,Nat.succ_mul];omega
def lastC (l:Scu.Last):List Value:=[.int .i64 l.num,.int .i64 l.reply.code,.int .i64 l.reply.n,.string l.reply.data]
structure IsLasts (w:World) (B:Nat) (v:Value) (ls:List Scu.Last):Prop where
 ex:∃ A c,v=.slice A ls.length c/\ls.length<=c/\Rd w B 76 A (ls.flatMap lastC)
 len:ls.length*40<=R47
section
variable {w w':World} {B B':Nat} {v:Value} {ls:List Scu.Last}
theorem IsLasts.keep (h:IsLasts w B v ls) (hs:w.heap.size<=w'.heap.size) (hk:∀ g,g < w.heap.size->(g < B\/∃ C fz,w.heap[g]? = some (.cells C 76 fz))->w'.heap[g]? = w.heap[g]?):IsLasts w' B v ls :=
 ⟨let ⟨A,c,h1,h2,h3⟩:=h.ex;⟨A,c,h1,h2,h3.keep hs hk⟩,h.len⟩
theorem IsLasts.below (h:IsLasts w B v ls) (hb:Below w.heap.size w w'):IsLasts w' B v ls:=h.keep hb.size fun g hg _=>hb.block g hg
theorem IsLasts.drewN (h:IsLasts w B v ls) (n:Nat):IsLasts (w.drewN n) B v ls:=⟨h.ex,h.len⟩
theorem IsLasts.alloc (h:IsLasts w B v ls) (o:Obj):IsLasts (w.alloc o) B v ls:=h.keep (by simp) fun g hg _=>Below.heap_alloc w o g hg
theorem IsLasts.mono (h:IsLasts w B v ls) (hB:B<=B'):IsLasts w B' v ls:=⟨let ⟨A,c,h1,h2,h3⟩:=h.ex;⟨A,c,h1,h2,h3.mono hB⟩,h.len⟩
end
theorem zGo {w:World} {B:Nat} {A:Option Addr} {ls:List Scu.Last} {k:Nat} (h:Rd w B 76 A (ls.flatMap lastC)) (hk:k < ls.length) :
 ∃ g o,A=some ⟨g,o,none⟩/\g < w.heap.size/\w.cell? ⟨g,o+k*4,none⟩=some (.int .i64 ls[k].num)/\w.cell? ⟨g,o+k*4+1,none⟩=some (.int .i64 ls[k].reply.code) /\
  w.cell? ⟨g,o+k*4+2,none⟩=some (.int .i64 ls[k].reply.n)/\w.cell? ⟨g,o+k*4+3,none⟩=some (.string ls[k].reply.data):=by
 have e:∀ j,j < 4->(ls.flatMap lastC)[k*4+j]? = (lastC ls[k])[j]?:=fun j hj=>zLj lastC 4 (fun _=>rfl) ls k j hk hj
 obtain ⟨g,o,h1,h2,h3⟩:=h.get (k:=k*4) (u:=.int .i64 ls[k].num) (e 0 (by omega))
 obtain ⟨g',o',Hb,_,h4⟩:=h.get (k:=k*4+1) (u:=.int .i64 ls[k].reply.code) (e 1 (by omega))
 obtain ⟨g'',o'',Ha,_,h5⟩:=h.get (k:=k*4+2) (u:=.int .i64 ls[k].reply.n) (e 2 (by omega))
 obtain ⟨g3,o3,Hc,_,h6⟩:=h.get (k:=k*4+3) (u:=.string ls[k].reply.data) (e 3 (by omega))
 rw [h1] at Hb Ha Hc
 simp only [Option.some.injEq,Addr.mk.injEq,and_true] at Hb Ha Hc
 obtain ⟨rfl,rfl⟩:=Hb
 obtain ⟨rfl,rfl⟩:=Ha
 obtain ⟨rfl,rfl⟩:=Hc
 exact ⟨g,o,h1,h2,h3,by rw [Nat.add_assoc];exact h4,by rw [Nat.add_assoc];exact h5,by rw [Nat.add_assoc];exact h6⟩
theorem IsVolume.keep {w w':World} {B:Nat} {nv sv:Value} {x:Scu.Volume} (h:IsVolume w B nv sv x) (hs:w.heap.size<=w'.heap.size)
 (hk:∀ g,g < w.heap.size->(g < B\/∃ C fz t,(t=9\/t=42)/\w.heap[g]? = some (.cells C t fz))->w'.heap[g]? = w.heap[g]?):IsVolume w' B nv sv x :=
 ⟨h.now.keep hs fun g hg hh=>hk g hg (hh.imp id fun ⟨C,fz,e⟩=>⟨C,fz,_,.inl rfl,e⟩),h.snaps.keep hs hk⟩
theorem IsVolume.set_ {w:World} {B:Nat} {nv sv:Value} {x:Scu.Volume} (h:IsVolume w B nv sv x) {p:Addr} {t':TypeId} {cs:Array Value} (hp:Blk w p.block t' cs) (hB:B<=p.block)
 (h1:t'≠9) (h2:t'≠42) (u:Value):IsVolume (w.setCell p u) B nv sv x :=
 h.keep (by simp [World.setCell]) fun g _ hh=>Below.heap_setCell w p u g (by
  rintro rfl
  rcases hh with hh | ⟨C,fz,t,ht,hh⟩
  ·omega
  unfold Blk at hp
  rw [hp] at hh
  cases hh
  rcases ht with ht | ht
  ·exact h1 ht
  exact h2 ht)
structure IsState (w:World) (B:Nat) (nv sv lv:Value) (x:Scu.State):Prop where
 vol:IsVolume w B nv sv x.volume
 lasts:IsLasts w B lv x.lasts
theorem zUi {w:World} {g:Nat} {xs:List Scu.Str} (h:Blk w g 9 (xs.map Value.string).toArray) (h1:xs.length*16<=R47) (h2:∀ s ∈ xs,s.size<=R47) :
 IsStrs w 0 (.slice (some ⟨g,0,none⟩) xs.length xs.length) xs :=
 ⟨⟨_,_,rfl,mC _,.inr ⟨g,0,rfl,h.lt,.inr ⟨_,_,h⟩,fun j u hj=>by
   rw [h.cell]
   simpa using hj⟩⟩,h1,h2⟩
theorem zSj {w:World} {g:Nat} {ls:List Scu.Last} (h:Blk w g 76 (ls.flatMap lastC).toArray) (h1:ls.length*40<=R47) :
 IsLasts w 0 (.slice (some ⟨g,0,none⟩) ls.length ls.length) ls :=
 ⟨⟨_,_,rfl,mC _,.inr ⟨g,0,rfl,h.lt,.inr ⟨_,_,h⟩,fun j u hj=>by
   rw [h.cell]
   simpa using hj⟩⟩,h1⟩
theorem make6 (w:World):(Instr.makeSlice 42 (.int .i64 6) (.int .i64 6)).run Tryd.prog w =
 .ok (.slice (some ⟨w.heap.size,0,none⟩) 6 6) (w.alloc (.cells #[.string ⟨#[]⟩,.string ⟨#[]⟩,.string ⟨#[]⟩,.string ⟨#[]⟩,.string ⟨#[]⟩,.string ⟨#[]⟩] 9)):=by kernel_rfl
theorem make4 (w:World):(Instr.makeSlice 70 (.int .i64 4) (.int .i64 4)).run Tryd.prog w =
 .ok (.slice (some ⟨w.heap.size,0,none⟩) 4 4) (w.alloc (.cells #[.int .i64 0,.int .i64 0,.int .i64 0,.string ⟨#[]⟩,.int .i64 0,.int .i64 0,.int .i64 0,.string ⟨#[]⟩,.int .i64 0,.int .i64 0,.int .i64 0,.string ⟨#[]⟩,.int .i64 0,.int .i64 0,.int .i64 0,.string ⟨#[]⟩] 76)):=by kernel_rfl
theorem zUj {w:World} {B:Nat} : IsRows w B (.slice none 0 0) [] :=
 ⟨⟨none,0,[],rfl,mC _,Rd.nil,rfl,fun j u x h=>by simp at h⟩,by simp [R47]⟩
theorem zQx {w:World} {g:Nat} (h:Blk w g 9 #[.string ⟨#[]⟩,.string ⟨#[]⟩,.string ⟨#[]⟩,.string ⟨#[]⟩,.string ⟨#[]⟩,.string ⟨#[]⟩]) :
 IsVolume w 0 (.slice (some ⟨g,0,none⟩) 6 6) (.slice none 0 0) Scu.volNew :=
 ⟨zUi (xs:=List.replicate 6 Scu.str0) h (by simp [R47]) (fun s hs=>by rw [List.eq_of_mem_replicate hs];exact mE _),zUj⟩
theorem zHs {w:World} {g:Nat} (h:Blk w g 76 #[.int .i64 0,.int .i64 0,.int .i64 0,.string ⟨#[]⟩,.int .i64 0,.int .i64 0,.int .i64 0,.string ⟨#[]⟩,.int .i64 0,.int .i64 0,.int .i64 0,.string ⟨#[]⟩,.int .i64 0,.int .i64 0,.int .i64 0,.string ⟨#[]⟩]) :
 IsLasts w 0 (.slice (some ⟨g,0,none⟩) 4 4) (List.replicate 4 Scu.last0) :=
 zSj (ls:=List.replicate 4 Scu.last0) h (by simp [R47])
theorem IsStrs.form {w:World} {B:Nat} {v:Value} {xs:List Scu.Str} (h:IsStrs w B v xs):∃ A n c,v=.slice A n c:=by
 obtain ⟨A,c,e,_⟩:=h.ex
 exact ⟨A,_,c,e⟩
theorem IsRows.form {w:World} {B:Nat} {v:Value} {xs:List (List Scu.Str)} (h:IsRows w B v xs):∃ A n c,v=.slice A n c:=by
 obtain ⟨A,c,vs,e,_⟩:=h.ex
 exact ⟨A,_,c,e⟩
theorem IsLasts.form {w:World} {B:Nat} {v:Value} {xs:List Scu.Last} (h:IsLasts w B v xs):∃ A n c,v=.slice A n c:=by
 obtain ⟨A,c,e,_⟩:=h.ex
 exact ⟨A,_,c,e⟩
theorem zUk (w:World) :
 Calls Tryd.prog 53 #[] w fun e w'=>(∃ nv sv,e=.returned (.agg #[nv,sv])/\IsVolume w' 0 nv sv Scu.volNew)/\Below w.heap.size w w':=by
 have hm:=make6
 go_enter Tryd.func53,Tryd.ntmps53
 go_wp2
 refine bodyPost_ret (v:=.agg #[.slice (some ⟨w.heap.size+1,0,none⟩) 6 6,.slice none 0 0]) (by simp [results,Tryd.results53,go_sem]) rfl ?_
 refine ⟨⟨_,_,rfl,zQx ?_⟩,((mG _ _).alloc (mC _) _).alloc (by simp) _⟩
 exact Blk.new' (by simp)
theorem zMt (w:World) :
 Calls Tryd.prog 38 #[] w fun e w'=>(∃ nv sv lv,e=.returned (.agg #[nv,sv,lv])/\IsState w' 0 nv sv lv Scu.stateNew)/\Below w.heap.size w w':=by
 have Hg:=make4
 go_enter Tryd.func38,Tryd.ntmps38
 go_wp2
 go_region_with (go_at_call 53;refine (zUk _).mono ?_;rintro e w1 ⟨⟨nv,sv,rfl,hv⟩,h1⟩;obtain ⟨A,n,c,rfl⟩:=hv.now.form;obtain ⟨A',n',c',rfl⟩:=hv.snaps.form;obtain ⟨hc,hf⟩:=bcell h1;have He:w.heap.size < w1.heap.size:=(by have:=h1.size;simp at this;omega))
 ·have hb:=((Blk.new w 72 #[.slice none 0 0,.slice none 0 0,.slice none 0 0]).drew).same h1
  have Hb:=hb.set_ 0 (.slice A n c)
  have Hc:=Hb.set_ 1 (.slice A' n' c')
  have Ha:=(Hc.set_ 2 (.slice (some ⟨w1.heap.size,0,none⟩) 4 4)).alloc (.cells #[.int .i64 0,.int .i64 0,.int .i64 0,.string ⟨#[]⟩,.int .i64 0,.int .i64 0,.int .i64 0,.string ⟨#[]⟩,.int .i64 0,.int .i64 0,.int .i64 0,.string ⟨#[]⟩,.int .i64 0,.int .i64 0,.int .i64 0,.string ⟨#[]⟩] 76)
  have u0:=Ha.cell 0
  have u1:=Ha.cell 1
  have u2:=Ha.cell 2
  simp at u0 u1 u2
  have HV:IsVolume _ 0 _ _ Scu.volNew:=((hv.set_ (p:=⟨w.heap.size,0,none⟩) hb (mE _) (by decide) (by decide) (.slice A n c)).set_ (p:=⟨w.heap.size,1,none⟩) Hb (mE _) (by decide) (by decide) (.slice A' n' c')).set_ (p:=⟨w.heap.size,2,none⟩) Hc (mE _) (by decide) (by decide) (.slice (some ⟨w1.heap.size,0,none⟩) 4 4)
  have HH:=mA (mB hb He)
  clear hb Hb Hc Ha
  go_wp2
  refine bodyPost_ret (v:=.agg #[.slice A n c,.slice A' n' c',.slice (some ⟨w1.heap.size,0,none⟩) 4 4]) (by simp [results,Tryd.results38,go_sem,u0,u1,u2]) rfl ?_
  have hB:Below w.heap.size w w1:=((mG _ _).alloc (mC _) _).drew.trans (h1.mono (by simp))
  have Hd:=((hB.setCell (p:=⟨w.heap.size,0,none⟩) (mC _) (.slice A n c)).setCell (p:=⟨w.heap.size,1,none⟩) (mC _) (.slice A' n' c')).setCell (p:=⟨w.heap.size,2,none⟩) (mC _) (.slice (some ⟨w1.heap.size,0,none⟩) 4 4)
  exact ⟨⟨_,_,_,rfl,HV.alloc _,zHs (Blk.new' (by simp))⟩,Hd.alloc Hd.size _⟩
 have hb:=(((Blk.new w 72 #[.slice none 0 0,.slice none 0 0,.slice none 0 0]).alloc (.cells #[.int .i64 0,.int .i64 0,.int .i64 0,.string ⟨#[]⟩,.int .i64 0,.int .i64 0,.int .i64 0,.string ⟨#[]⟩,.int .i64 0,.int .i64 0,.int .i64 0,.string ⟨#[]⟩,.int .i64 0,.int .i64 0,.int .i64 0,.string ⟨#[]⟩] 76)).drew).same h1
 have Hb:=hb.set_ 0 (.slice A n c)
 have Hc:=Hb.set_ 1 (.slice A' n' c')
 have Ha:=Hc.set_ 2 (.slice (some ⟨w.heap.size+1,0,none⟩) 4 4)
 have u0:=Ha.cell 0
 have u1:=Ha.cell 1
 have u2:=Ha.cell 2
 simp at u0 u1 u2
 have HV:IsVolume _ 0 _ _ Scu.volNew:=((hv.set_ (p:=⟨w.heap.size,0,none⟩) hb (mE _) (by decide) (by decide) (.slice A n c)).set_ (p:=⟨w.heap.size,1,none⟩) Hb (mE _) (by decide) (by decide) (.slice A' n' c')).set_ (p:=⟨w.heap.size,2,none⟩) Hc (mE _) (by decide) (by decide) (.slice (some ⟨w.heap.size+1,0,none⟩) 4 4)
 have Hf:Blk w1 (w.heap.size+1) 76 #[.int .i64 0,.int .i64 0,.int .i64 0,.string ⟨#[]⟩,.int .i64 0,.int .i64 0,.int .i64 0,.string ⟨#[]⟩,.int .i64 0,.int .i64 0,.int .i64 0,.string ⟨#[]⟩,.int .i64 0,.int .i64 0,.int .i64 0,.string ⟨#[]⟩] :=
  (Blk.drew (Blk.new' (by simp))).same h1
 have HL:IsLasts _ 0 _ (List.replicate 4 Scu.last0):=zHs (((Hf.far (p:=⟨w.heap.size,0,none⟩) (by simp) (.slice A n c)).far (p:=⟨w.heap.size,1,none⟩) (by simp) (.slice A' n' c')).far (p:=⟨w.heap.size,2,none⟩) (by simp) (.slice (some ⟨w.heap.size+1,0,none⟩) 4 4))
 have HH:=mA (mB hb He)
 clear hb Hb Hc Ha Hf
 go_wp2
 refine bodyPost_ret (v:=.agg #[.slice A n c,.slice A' n' c',.slice (some ⟨w.heap.size+1,0,none⟩) 4 4]) (by simp [results,Tryd.results38,go_sem,u0,u1,u2]) rfl ?_
 have hB:Below w.heap.size w w1:=(((mG _ _).alloc (mC _) _).alloc (by simp) _).drew.trans (h1.mono (by simp;omega))
 have Hd:=((hB.setCell (p:=⟨w.heap.size,0,none⟩) (mC _) (.slice A n c)).setCell (p:=⟨w.heap.size,1,none⟩) (mC _) (.slice A' n' c')).setCell (p:=⟨w.heap.size,2,none⟩) (mC _) (.slice (some ⟨w.heap.size+1,0,none⟩) 4 4)
 exact ⟨⟨_,_,_,rfl,HV,HL⟩,Hd⟩
open Go.RowKit
def IdxPost (b:Bool) (e:Ending):Prop:=∃ r:Int,e=.returned (.int .i64 r)/\decide (0<=r)=b
theorem zGp {α:Type} (p:α->Bool) (xs:List α) (k:Nat) (h:k < xs.length):(xs.take (k+1)).any p=((xs.take k).any p || p xs[k]):=by
 rw [List.take_succ_eq_append_getElem h,List.any_append]
 simp
theorem zEk {α:Type} (p:α->Bool) (xs:List α) (k:Nat) (h:k < xs.length) (hp:p xs[k]=true):xs.any p=true:=List.any_eq_true.2 ⟨_,List.getElem_mem h,hp⟩
theorem zGq {α:Type} (p:α->Bool) (xs:List α) (k:Nat) (h:xs.length<=k) (hp:(xs.take k).any p=false):xs.any p=false:=by rwa [List.take_of_length_le h] at hp
theorem zQy (s:ByteArray) (w:World) (hs:s.size<=R47) :
 Calls Tryd.prog 100 #[.string s] w fun e w'=>e=.returned (.bool (decide (8 < s.size)))/\w=w':=by
 unfold R47 at hs
 have e:decide (8 < s.size)=decide ((8:Int) < (s.size:Int)):=by rw [Bool.eq_iff_iff];simp;omega
 rw [e]
 clear e
 go_enter Tryd.func100,Tryd.ntmps100
 go_wp2
 go_ret
 exact ⟨rfl,rfl⟩
theorem zOk (p:Scu.Str->Bool) (hp:∀ (s:ByteArray) (w:World),s.size<=R47->Calls Tryd.prog 100 #[.string s] w fun e w'=>e=.returned (.bool (p s))/\w=w') (v:Value) (xs:List Scu.Str) (w:World) (B:Nat) (hv:IsStrs w B v xs) :
 Calls Tryd.prog 35 #[v,.func (.func 100) #[] #[]] w fun e w'=>IdxPost (xs.any p) e/\w=w':=by
 obtain ⟨⟨A,c,rfl,_,hr⟩,hl,he⟩:=hv
 unfold R47 at hl
 have HP:=mA hp
 have HE:=mA he
 clear hp he
 go_enter Tryd.func35,Tryd.ntmps35
 go_wp2
 go_loop [8] (fun i=>∃ k:Nat,k<=xs.length/\i=.int .i64 k/\Hid ((xs.take k).any p=false)) (fun i=>xs.length - (intOf i).toNat)
 case atStart=>exact ⟨0,mE _,rfl,by simp [Hid]⟩
 case round =>
  obtain ⟨k,hk,rfl,ht⟩:=hrel
  by_cases Ha:k < xs.length
  ·have Hb:(k:Int) < (xs.length:Int):=by omega
   obtain ⟨g,o,rfl,_,hc⟩:=zEf hr Ha
   by_cases hx:p xs[k]=true
   ·have HX:=mA (zEk p xs k Ha hx)
    go_wp2_with fail
    refine (HP.out _ _ (HE.out _ (List.getElem_mem Ha))).mono ?_;rintro e w1 ⟨rfl,rfl⟩
    go_wp2
    go_ret
    exact ⟨⟨_,rfl,by rw [HX.out];simp⟩,rfl⟩
   have Hc:p xs[k]=false:=by simpa using hx
   have HX:=mA (show (xs.take (k+1)).any p=false by rw [zGp p xs k Ha,ht.out,Hc];rfl)
   clear hx
   go_wp2_with fail
   refine (HP.out _ _ (HE.out _ (List.getElem_mem Ha))).mono ?_;rintro e w1 ⟨rfl,rfl⟩
   go_wp2
   go_round
   case rel=>exact ⟨k+1,Ha,by go_num,HX⟩
   case measure=>simp [intOf];omega
  have Hb:(xs.length:Int)<=(k:Int):=by omega
  have HX:=mA (zGq p xs k (by omega) ht.out)
  go_wp2
  go_ret
  exact ⟨⟨_,rfl,by rw [HX.out];rfl⟩,rfl⟩
theorem zKd (p:Scu.Str->Bool) (hp:∀ (s:ByteArray) (w:World),s.size<=R47->Calls Tryd.prog 100 #[.string s] w fun e w'=>e=.returned (.bool (p s))/\w=w') (v:Value) (xs:List Scu.Str) (w:World) (B:Nat) (hv:IsStrs w B v xs) :
 Calls Tryd.prog 99 #[v,.func (.func 100) #[] #[]] w fun e w'=>e=.returned (.bool (xs.any p))/\w=w':=by
 have HC:=mA (zOk p hp v xs w B hv)
 obtain ⟨⟨A,c,rfl,_,hr⟩,hl,he⟩:=hv
 clear hp hr he hl
 go_enter Tryd.func99,Tryd.ntmps99
 go_wp2_with fail
 refine HC.out.mono ?_;rintro e w1 ⟨⟨r,rfl,hr⟩,rfl⟩
 have HR:=mA hr
 clear hr
 go_wp2
 go_ret
 exact ⟨zAb (zBt HR.out),rfl⟩
theorem zOl {α:Type} (l:List α) (p q:α->Bool) (h:∀ x ∈ l,p x = !q x):l.all q = !l.any p:=by
 induction l with
 | nil=>rfl
 | cons x l ih =>
   rw [List.all_cons,List.any_cons,ih fun y hy=>h y (List.mem_cons_of_mem _ hy),h x List.mem_cons_self]
   cases q x <;> simp
theorem zLk (xs:List Scu.Str):Scu.sectorsOk xs=(xs.length == 6 && !xs.any fun s=>decide (8 < s.size)):=by
 unfold Scu.sectorsOk
 rw [zOl xs (fun s=>decide (8 < s.size)) _ (fun x _=>by rw [Bool.eq_iff_iff];simp)]
theorem zMu (v:Value) (xs:List Scu.Str) (w:World) (B:Nat) (hv:IsStrs w B v xs) :
 Calls Tryd.prog 89 #[v] w fun e w'=>e=.returned (.bool (Scu.sectorsOk xs))/\w=w':=by
 have HC:=mA (zKd (fun s=>decide (8 < s.size)) zQy v xs w B hv)
 have Ha:=zLk xs
 obtain ⟨⟨A,c,rfl,_,hr⟩,hl,he⟩:=hv
 clear hr he
 unfold R47 at hl
 by_cases h6:xs.length=6
 ·have Hc:((xs.length:Int) == 6)=true:=by simp [h6]
  have hn:(xs.length == 6)=true:=by simp [h6]
  rw [hn,Bool.true_and] at Ha
  have Hb:=mA Ha
  clear Ha hn h6
  go_enter Tryd.func89,Tryd.ntmps89
  go_wp2_with fail
  refine HC.out.mono ?_;rintro e w1 ⟨rfl,rfl⟩
  go_wp2
  go_ret
  exact ⟨zAb (zBt Hb.out.symm),rfl⟩
 have Hc:((xs.length:Int) == 6)=false:=by simp;omega
 have hn:(xs.length == 6)=false:=by simp [h6]
 rw [hn,Bool.false_and] at Ha
 have Hb:=mA Ha
 clear Ha hn h6
 go_enter Tryd.func89,Tryd.ntmps89
 go_wp2
 go_ret
 exact ⟨zAb (zBt Hb.out.symm),rfl⟩
theorem zPj (v:Value) (xs:List Scu.Str) (w:World) (B:Nat) (hv:IsStrs w B v xs) :
 Calls Tryd.prog 91 #[v] w fun e w'=>e=.returned (.bool (!Scu.sectorsOk xs))/\w=w':=by
 have HC:=mA (zMu v xs w B hv)
 obtain ⟨A,n,c,rfl⟩:=hv.form
 clear hv
 go_enter Tryd.func91,Tryd.ntmps91
 go_wp2_with fail
 refine HC.out.mono ?_;rintro e w1 ⟨rfl,rfl⟩
 go_wp2
 go_ret
 exact ⟨rfl,rfl⟩
theorem zOm (v:Value) (xss:List (List Scu.Str)) (w:World) (B:Nat) (hv:IsRows w B v xss) :
 Calls Tryd.prog 101 #[v,.func (.func 91) #[] #[]] w fun e w'=>IdxPost (xss.any fun l=>!Scu.sectorsOk l) e/\w=w':=by
 obtain ⟨⟨A,c,vs,rfl,_,hr,Hc,Hd⟩,hl⟩:=hv
 have Hf:=mA Hc
 have Hg:=mA Hd
 clear Hc Hd
 unfold R47 at hl
 go_enter Tryd.func101,Tryd.ntmps101
 go_wp2
 go_loop [8] (fun i=>∃ k:Nat,k<=xss.length/\i=.int .i64 k/\Hid ((xss.take k).any (fun l=>!Scu.sectorsOk l)=false)) (fun i=>xss.length - (intOf i).toNat)
 case atStart=>exact ⟨0,mE _,rfl,by simp [Hid]⟩
 case round =>
  obtain ⟨k,hk,rfl,ht⟩:=hrel
  by_cases Ha:k < xss.length
  ·have Hb:(k:Int) < (xss.length:Int):=by omega
   obtain ⟨g,o,p,rfl,_,hc,hp⟩:=zPi hr Hf.out Hg.out Ha
   have He:=mA hp
   obtain ⟨A1,n1,c1,rfl⟩:=hp.form
   clear hp
   by_cases hx:(!Scu.sectorsOk xss[k])=true
   ·have HX:=mA (zEk (fun l=>!Scu.sectorsOk l) xss k Ha hx)
    go_wp2_with fail
    refine (zPj _ _ _ B He.out).mono ?_;rintro e w1 ⟨rfl,rfl⟩
    go_wp2
    go_ret
    exact ⟨⟨_,rfl,by rw [HX.out];simp⟩,rfl⟩
   have Hh:(!Scu.sectorsOk xss[k])=false:=by simpa using hx
   have HX:=mA (show (xss.take (k+1)).any (fun l=>!Scu.sectorsOk l)=false by rw [zGp _ xss k Ha,ht.out,Hh];rfl)
   clear hx
   go_wp2_with fail
   refine (zPj _ _ _ B He.out).mono ?_;rintro e w1 ⟨rfl,rfl⟩
   go_wp2
   go_round
   case rel=>exact ⟨k+1,Ha,by go_num,HX⟩
   case measure=>simp [intOf];omega
  have Hb:(xss.length:Int)<=(k:Int):=by omega
  have HX:=mA (zGq _ xss k (by omega) ht.out)
  go_wp2
  go_ret
  exact ⟨⟨_,rfl,by rw [HX.out];rfl⟩,rfl⟩
theorem zKe (v:Value) (xss:List (List Scu.Str)) (w:World) (B:Nat) (hv:IsRows w B v xss) :
 Calls Tryd.prog 90 #[v,.func (.func 91) #[] #[]] w fun e w'=>e=.returned (.bool (xss.any fun l=>!Scu.sectorsOk l))/\w=w':=by
 have HC:=mA (zOm v xss w B hv)
 obtain ⟨A,n,c,rfl⟩:=hv.form
 clear hv
 go_enter Tryd.func90,Tryd.ntmps90
 go_wp2_with fail
 refine HC.out.mono ?_;rintro e w1 ⟨⟨r,rfl,hr⟩,rfl⟩
 have HR:=mA hr
 clear hr
 go_wp2
 go_ret
 exact ⟨zAb (zBt HR.out),rfl⟩
theorem zMv (x:Scu.Volume):Scu.volFault x=if (!Scu.sectorsOk x.now || decide ((3:Int) < (x.snaps.length:Int)) || x.snaps.any fun l=>!Scu.sectorsOk l)=true then 8 else 0:=by
 have e:Scu.volOk x = !(!Scu.sectorsOk x.now || decide ((3:Int) < (x.snaps.length:Int)) || x.snaps.any fun l=>!Scu.sectorsOk l):=by
  unfold Scu.volOk
  rw [zOl x.snaps (fun l=>!Scu.sectorsOk l) _ (fun _ _=>rfl)]
  have:decide (x.snaps.length<=3) = !decide ((3:Int) < (x.snaps.length:Int)):=by rw [Bool.eq_iff_iff];simp;omega
  rw [this]
  simp
 unfold Scu.volFault
 rw [e]
 cases (!Scu.sectorsOk x.now || decide ((3:Int) < (x.snaps.length:Int)) || x.snaps.any fun l=>!Scu.sectorsOk l) <;> rfl
theorem zBq (nv sv:Value) (x:Scu.Volume) (w:World) (B:Nat) (hv:IsVolume w B nv sv x) :
 Calls Tryd.prog 73 #[.agg #[nv,sv]] w fun e w'=>e=.returned (.int .i64 (Scu.volFault x))/\Below w.heap.size w w':=by
 have hf:=zMv x
 have HV:=mA hv
 obtain ⟨A1,n1,c1,rfl⟩:=hv.now.form
 obtain ⟨⟨A,c,vs,rfl,_,_,_,_⟩,hl⟩:=hv.snaps
 unfold R47 at hl
 clear hv
 cases h1:Scu.sectorsOk x.now <;> cases h2:decide ((3:Int) < (x.snaps.length:Int)) <;> cases h3:x.snaps.any fun l=>!Scu.sectorsOk l
 all_goals
  rw [h1,h2,h3] at hf
  have HF:=mA hf
  have H1:=mA h1
  have H3:=mA h3
  clear hf h1 h3
  go_enter Tryd.func73,Tryd.ntmps73
  go_wp2_with (first
   | (go_at_call 89;refine (zMu _ _ _ B (HV.out.now.alloc _)).mono ?_;rintro e w1 ⟨rfl,rfl⟩;rw [H1.out])
   | (go_at_call 90;refine (zKe _ _ _ B (HV.out.snaps.alloc _)).mono ?_;rintro e w1 ⟨rfl,rfl⟩;rw [H3.out]))
  go_ret
  exact ⟨zAb (zAd (by rw [HF.out];rfl)),(mG _ _).alloc (mC _) _⟩
end Go.Proofs.YtnpphdaakookcaaDoor
