/- Part 3: words and walks under the laws of the whole. -/
import Derived.Test.YtnpphdaakookcaaDoorQ2
set_option linter.unusedVariables false
set_option linter.unusedSimpArgs false
set_option maxHeartbeats 4000000
set_option maxRecDepth 100000
namespace Scu
theorem repFault_ok {r:Replica} (h:repFault r=0):InR r.me/\r.have_.length=3/\r.wants.length=3/\r.gives.length=3/\r.given.length=3 /\
 (∀ x ∈ r.have_,0<=x/\x<=r.kept.log.length)/\(∀ g ∈ r.gives,keptFault g=0)/\keptFault r.kept=0:=by
 unfold repFault at h
 split at h
 ·omega
 split at h
 ·omega
 split at h
 ·omega
 rename_i h1 h2 h3
 refine ⟨by unfold InR;omega,by omega,by omega,by omega,by omega,?_,?_,h⟩
 ·intro x hx
  simp only [Bool.or_eq_true,List.any_eq_true,decide_eq_true_eq,not_or,not_exists,not_and] at h3
  have:=h3.1 x hx
  omega
 intro g hg
 simp only [Bool.or_eq_true,List.any_eq_true,decide_eq_true_eq,not_or,not_exists,not_and] at h3
 have:=h3.2 g hg
 omega
theorem zBl {r:Replica} (h1:InR r.me) (h2:r.have_.length=3) (h3:r.wants.length=3) (h4:r.gives.length=3) (h5:r.given.length=3)
 (h6:∀ x ∈ r.have_,0<=x/\x<=r.kept.log.length) (h7:∀ g ∈ r.gives,keptFault g=0) (h8:keptFault r.kept=0):repFault r=0:=by
 unfold repFault
 rw [if_neg (by unfold InR at h1;omega),if_neg (by omega),if_neg,h8]
 simp only [Bool.or_eq_true,List.any_eq_true,decide_eq_true_eq,not_or,not_exists,not_and]
 refine ⟨fun x hx=>?_,fun g hg=>?_⟩
 ·have:=h6 x hx;omega
 have:=h7 g hg;omega
theorem keptFault0:keptFault kept0=0:=by decide
theorem zDl {r:Replica} (h1:InR r.me) (h8:keptFault r.kept=0):repFault (fresh r)=0:=by
 refine zBl h1 rfl rfl rfl rfl ?_ ?_ h8
 ·intro x hx
  simp [fresh] at hx
  subst hx
  omega
 intro g hg
 simp [fresh] at hg
 subst hg
 exact keptFault0
theorem zRy {α:Type} {l:List α} {n:Nat} {x y:α} (h:y ∈ l.set n x):y=x\/y ∈ l:=by
 rcases List.mem_or_eq_of_mem_set h with h | h
 ·exact .inr h
 exact .inl h
theorem zKj {r:Replica} {v:Int} (h:repFault r=0) (h1:r.kept.view < v) (h2:v<=1048576):repFault (want r v).1=0:=by
 obtain ⟨f1,f2,f3,f4,f5,f6,f7,f8⟩:=repFault_ok h
 obtain ⟨k1,k2,k3,k4,k5,k6,k7,k8,k9⟩:=keptFault_ok f8
 have hk:keptFault { r.kept with view:=v,calm:=false } = 0 :=
  zBk (by show 0<=v;omega) h2 k3 (by show r.kept.normal<=v;omega) (fun hc=>by cases hc) k6 k7 k8 k9
 have hf:=zDl (r:={ r with kept:={ r.kept with view:=v,calm:=false } }) f1 hk
 obtain ⟨g1,g2,g3,g4,g5,g6,g7,g8⟩:=repFault_ok hf
 exact zBl g1 g2 (by simp [want,fresh]) g4 g5 g6 g7 g8
theorem zMi {k:Kept} (h:keptFault k=0):keptFault (own k)=0:=by
 obtain ⟨k1,k2,k3,k4,k5,k6,k7,k8,k9⟩:=keptFault_ok h
 exact zBk k1 k2 k3 k4 (fun hc=>by cases hc) k6 k7 k8 k9
theorem zGa {r:Replica} {i:Int} {k:Kept} (h:repFault r=0) (hk:keptFault (own k)=0):repFault (give1 r i k)=0:=by
 obtain ⟨f1,f2,f3,f4,f5,f6,f7,f8⟩:=repFault_ok h
 refine zBl f1 f2 f3 (by simp [give1,f4]) (by simp [give1,f5]) f6 ?_ f8
 intro g hg
 rcases zRy hg with rfl | hg
 ·exact hk
 exact f7 g hg
theorem zIv {r:Replica} (h:repFault r=0) (l:List Bool) (hl:l.length=3):repFault { r with wants:=l } = 0:=by
 obtain ⟨f1,f2,f3,f4,f5,f6,f7,f8⟩:=repFault_ok h
 exact zBl f1 f2 hl f4 f5 f6 f7 f8
theorem zIw {r:Replica} (h:repFault r=0):repFault (begun r).1=0:=by
 obtain ⟨f1,f2,f3,f4,f5,f6,f7,f8⟩:=repFault_ok h
 obtain ⟨k1,k2,k3,k4,k5,k6,k7,k8,k9⟩:=keptFault_ok f8
 unfold begun
 split
 ·exact h
 split
 ·exact h
 rename_i hcnt
 refine zDl f1 ?_
 have hb:bestOf (r.gives.zip r.given) = { kept0 with normal:=-1 }\/keptFault (bestOf (r.gives.zip r.given))=0:=by
  obtain ⟨_,_,hb⟩:=zIt (r.gives.zip r.given) { kept0 with normal:=-1 }
  rcases hb with hb | ⟨g,hg,_,hb⟩
  ·exact .inl hb
  refine .inr ?_
  have:bestOf (r.gives.zip r.given)=g.1:=hb
  rw [this]
  exact f7 _ (List.of_mem_zip hg).1
 have hm:=(zFv (r.gives.zip r.given) 0).1
 have Ha:0<=maxCommit (r.gives.zip r.given):=hm
 refine zBk k1 k2 k1 (Int.le_refl _) (fun _=>rfl) ?_ ?_ ?_ ?_
 ·rcases hb with hb | hb
  ·simp only [hb];simp [kept0]
  exact (keptFault_ok hb).2.2.2.2.2.1
 ·show 0<=min _ _
  omega
 ·show min (maxCommit (r.gives.zip r.given)) ((bestOf (r.gives.zip r.given)).log.length:Int)<=((bestOf (r.gives.zip r.given)).log.length:Int)
  omega
 rcases hb with hb | hb
 ·simp only [hb];simp [kept0]
 exact (keptFault_ok hb).2.2.2.2.2.2.2.2
theorem zJy {r:Replica} {m:Message} (h:repFault r=0) (hm:msgFault m=0) (_hv:r.kept.view<=m.view):repFault (hearLead r m).1=0:=by
 obtain ⟨f1,f2,f3,f4,f5,f6,f7,f8⟩:=repFault_ok h
 obtain ⟨k1,k2,k3,k4,k5,k6,k7,k8,k9⟩:=keptFault_ok f8
 obtain ⟨q1,q2,q3,q4,q5,q6,q7,q8,q9⟩:=keptFault_ok (msgFault_ok hm).2.2.2.2.2.2.2.2.2.2.2
 simp only at q1 q2 q3 q4 q6 q7 q8 q9
 unfold hearLead
 simp only []
 split
 ·refine zDl (r:={ r with kept:=⟨m.view,m.view,true,m.log,max (max m.commit (min r.kept.commit m.log.length)) (min m.commit m.log.length)⟩ }) f1 ?_
  refine zBk q1 q2 q1 (Int.le_refl _) (fun _=>rfl) q6 ?_ ?_ q9
  ·show 0<=max _ _;omega
  show max (max m.commit (min r.kept.commit (m.log.length:Int))) (min m.commit (m.log.length:Int))<=(m.log.length:Int);omega
 rename_i hc
 split
 ·rename_i hl
  refine zBl f1 f2 f3 f4 f5 ?_ f7 ?_
  ·intro x hx
   have:=f6 x hx
   show 0<=x/\x<=(m.log.length:Int)
   omega
  refine zBk k1 k2 k3 k4 k5 q6 ?_ ?_ q9
  ·show 0<=max _ _;omega
  show max r.kept.commit (min m.commit (m.log.length:Int))<=m.log.length;omega
 refine zBl f1 f2 f3 f4 f5 f6 f7 ?_
 refine zBk k1 k2 k3 k4 k5 k6 ?_ ?_ k9
 ·show 0<=max _ _;omega
 show max r.kept.commit (min m.commit (r.kept.log.length:Int))<=r.kept.log.length;omega
theorem zLf {r:Replica} {m:Message} (h:repFault r=0) (hm:msgFault m=0):repFault (hearHas r m).1=0:=by
 obtain ⟨f1,f2,f3,f4,f5,f6,f7,f8⟩:=repFault_ok h
 obtain ⟨k1,k2,k3,k4,k5,k6,k7,k8,k9⟩:=keptFault_ok f8
 have hn:=(msgFault_ok hm).2.2.2.2.2.2.2.1
 unfold hearHas
 split
 ·exact h
 simp only []
 have Ha:∀ x ∈ r.have_.set m.from_.toNat (max (r.have_.getD m.from_.toNat 0) (min m.n r.kept.log.length)),0<=x/\x<=(r.kept.log.length:Int):=by
  intro x hx
  rcases zRy hx with rfl | hx
  ·have:0<=r.have_.getD m.from_.toNat 0/\r.have_.getD m.from_.toNat 0<=(r.kept.log.length:Int):=by
    by_cases Hb:m.from_.toNat < r.have_.length
    ·have:=f6 _ (List.getElem_mem Hb)
     simpa [Hb] using this
    simp [Hb]
   omega
  exact f6 x hx
 split
 ·refine zBl f1 (by simp [f2]) f3 f4 f5 Ha f7 ?_
  refine zBk k1 k2 k3 k4 k5 k6 ?_ ?_ k9
  ·show 0<=min m.n (r.kept.log.length:Int);omega
  show min m.n (r.kept.log.length:Int)<=r.kept.log.length;omega
 exact zBl f1 (by simp [f2]) f3 f4 f5 Ha f7 f8
theorem zHo {r:Replica} {v:Int} (h:repFault r=0) (hv:v<=1048576):repFault (wantIf r v).1=0:=by
 unfold wantIf
 split
 ·exact zKj h (by assumption) hv
 exact h
theorem zJz {r:Replica} {m:Message} (h:repFault r=0) (hm:msgFault m=0):repFault (hearWant r m).1=0:=by
 have hw:=zHo (v:=m.view) h (msgFault_ok hm).2.2.2.2.2.2.1
 unfold hearWant
 generalize wantIf r m.view=x at *
 obtain ⟨r1,o1⟩:=x
 simp only at hw ⊢
 obtain ⟨f1,f2,f3,f4,f5,f6,f7,f8⟩:=repFault_ok hw
 split
 ·exact hw
 have Ha:=zIv hw (r1.wants.set m.from_.toNat true) (by simp [f3])
 split
 ·exact zIw (zGa Ha (zMi f8))
 exact Ha
theorem zKa {r:Replica} {m:Message} (h:repFault r=0) (hm:msgFault m=0):repFault (hearGive r m).1=0:=by
 have hw:=zHo (v:=m.view) h (msgFault_ok hm).2.2.2.2.2.2.1
 have hk:=(msgFault_ok hm).2.2.2.2.2.2.2.2.2.2.2
 unfold hearGive
 generalize wantIf r m.view=x at *
 obtain ⟨r1,o1⟩:=x
 simp only at hw ⊢
 obtain ⟨f1,f2,f3,f4,f5,f6,f7,f8⟩:=repFault_ok hw
 split
 ·exact hw
 refine zIw (zGa ?_ hk)
 split
 ·exact zGa hw (zMi f8)
 exact hw
theorem zQl {r:Replica} {m:Message} (Ha:(hear r m).2.2=0):repFault (hear r m).1=0:=by
 unfold hear at Ha ⊢
 split
 ·rename_i hx;rw [if_pos hx] at Ha;exact absurd Ha hx
 rename_i hx;rw [if_neg hx] at Ha
 split
 ·rename_i hx;rw [if_pos hx] at Ha;exact absurd Ha hx
 rename_i Hb;rw [if_neg Hb] at Ha
 split
 ·rename_i hx;rw [if_pos hx] at Ha;simp at Ha
 rename_i Hc;rw [if_neg Hc] at Ha
 split
 ·rename_i hx;rw [if_pos hx] at Ha;simp at Ha
 rename_i hx4
 have h1:repFault r=0:=by omega
 have h2:msgFault m=0:=by omega
 simp only [hearIt]
 split
 ·exact zJy h1 h2 (by omega)
 split
 ·exact zLf h1 h2
 split
 ·exact zJz h1 h2
 exact zKa h1 h2
theorem zQm {r:Replica} {e:Str} (Ha:(take r e).2.2=0):repFault (take r e).1=0:=by
 unfold take at Ha ⊢
 split
 ·rename_i hx;rw [if_pos hx] at Ha;exact absurd Ha hx
 rename_i hx;rw [if_neg hx] at Ha
 split
 ·rename_i hx;rw [if_pos hx] at Ha;simp at Ha
 rename_i Hb;rw [if_neg Hb] at Ha
 split
 ·rename_i hx;rw [if_pos hx] at Ha;simp at Ha
 rename_i Hc;rw [if_neg Hc] at Ha
 split
 ·rename_i hx;rw [if_pos hx] at Ha;exact absurd Ha hx
 rename_i hx4
 obtain ⟨f1,f2,f3,f4,f5,f6,f7,f8⟩:=repFault_ok (r:=r) (by omega)
 obtain ⟨k1,k2,k3,k4,k5,k6,k7,k8,k9⟩:=keptFault_ok f8
 refine zBl f1 f2 f3 f4 f5 ?_ f7 ?_
 ·intro x hx
  have:=f6 x hx
  show 0<=x/\x<=((r.kept.log ++ [e]).length:Int)
  rw [List.length_append]
  omega
 refine zBk k1 k2 k3 k4 k5 ?_ k7 ?_ ?_
 ·show (r.kept.log ++ [e]).length<=60
  rw [List.length_append]
  simp only [List.length_cons,List.length_nil]
  omega
 ·show r.kept.commit<=((r.kept.log ++ [e]).length:Int)
  rw [List.length_append]
  omega
 intro x hx
 rcases List.mem_append.1 hx with hx | hx
 ·exact k9 x hx
 simp only [List.mem_singleton] at hx
 subst hx
 omega
theorem zQn {r:Replica} (Ha:(tick r).2.2=0):repFault (tick r).1=0:=by
 unfold tick at Ha ⊢
 split
 ·rename_i hx;rw [if_pos hx] at Ha;exact absurd Ha hx
 rename_i hx;rw [if_neg hx] at Ha
 have h1:repFault r=0:=by omega
 split
 ·exact h1
 split
 ·exact h1
 exact zIv h1 _ (by simp [(repFault_ok h1).2.2.1])
theorem zNz {r:Replica} (Ha:(alarm r).2.2=0):repFault (alarm r).1=0:=by
 unfold alarm at Ha ⊢
 split
 ·rename_i hx;rw [if_pos hx] at Ha;exact absurd Ha hx
 rename_i hx;rw [if_neg hx] at Ha
 have h1:repFault r=0:=by omega
 split
 ·rename_i hx;rw [if_pos hx] at Ha;simp at Ha
 have:=(keptFault_ok (repFault_ok h1).2.2.2.2.2.2.2).2.1
 exact zKj h1 (by omega) (by omega)
def ToR (l:List Message):Prop:=∀ m ∈ l,InR m.tq
theorem zEu (me v:Int) (m:Message):ToR (toAll me v m):=fun x hx=>by
 obtain ⟨i,hi,_,rfl⟩:=zIu hx
 exact hi
theorem ToR.app {a b:List Message} (h:ToR a) (k:ToR b):ToR (a ++ b):=fun m hm=>by
 rcases List.mem_append.1 hm with hm | hm
 ·exact h m hm
 exact k m hm
theorem ToR.nil:ToR []:=fun m hm=>by simp at hm
theorem ToR.one {m:Message} (h:InR m.tq):ToR [m]:=fun x hx=>by simp only [List.mem_singleton] at hx;subst hx;exact h
theorem zPb (r:Replica):ToR (begun r).2:=by
 unfold begun
 split
 ·exact ToR.nil
 split
 ·exact ToR.nil
 exact zEu _ _ _
theorem zMj (r:Replica) (v:Int):ToR (wantIf r v).2:=by
 unfold wantIf
 split
 ·exact zEu _ _ _
 exact ToR.nil
theorem zXw (r:Replica) (m:Message):ToR (hear r m).2.1:=by
 unfold hear
 split
 ·exact ToR.nil
 split
 ·exact ToR.nil
 rename_i hx2
 split
 ·exact ToR.nil
 split
 ·exact ToR.nil
 have h2:msgFault m=0:=by omega
 simp only [hearIt]
 split
 ·exact ToR.one (msgFault_ok h2).2.2.1
 split
 ·unfold hearHas
  split
  ·exact ToR.nil
  simp only []
  split
  ·exact zEu _ _ _
  exact ToR.nil
 split
 ·have hw:=zMj r m.view
  unfold hearWant
  generalize wantIf r m.view=x at *
  obtain ⟨r1,o1⟩:=x
  simp only at hw ⊢
  split
  ·exact hw
  split
  ·exact hw.app (zPb _)
  exact hw.app (ToR.one (zEh _))
 have hw:=zMj r m.view
 unfold hearGive
 generalize wantIf r m.view=x at *
 obtain ⟨r1,o1⟩:=x
 simp only at hw ⊢
 split
 ·exact hw
 exact hw.app (zPb _)
theorem zXx (r:Replica) (e:Str):ToR (take r e).2.1:=by
 unfold take
 repeat' split
 all_goals first | exact ToR.nil | exact zEu _ _ _
theorem zXy (r:Replica):ToR (tick r).2.1:=by
 unfold tick
 split
 ·exact ToR.nil
 split
 ·exact zEu _ _ _
 split
 ·exact ToR.one (zEh _)
 exact zEu _ _ _
theorem zTz (r:Replica):ToR (alarm r).2.1:=by
 unfold alarm
 split
 ·exact ToR.nil
 split
 ·exact ToR.nil
 exact zEu _ _ _
end Scu
namespace Scu
def encN (k:Kept) (gen:Int) (j:Nat):Str:=catS (((nums k gen).take j).map numBytes)
theorem zPc (s:Str):catS [s]=s:=zEq s
theorem encN_succ {k:Kept} {gen:Int} {j:Nat} (h:j < (nums k gen).length):encN k gen (j+1)=encN k gen j ++ numBytes (nums k gen)[j]:=by
 unfold encN
 rw [List.take_succ_eq_append_getElem h,List.map_append,zIp,List.map_singleton,zPc]
theorem zPd (k:Kept) (gen:Int):(nums k gen).length=6:=rfl
theorem encN_size (k:Kept) (gen:Int) (j:Nat):(encN k gen j).size<=24:=by
 unfold encN
 rw [zDz,List.length_take,zPd]
 omega
def encT (k:Kept) (gen:Int) (j:Nat):Str:=encN k gen 6 ++ catS ((k.log.take j).map textBytes)
theorem encT_zero (k:Kept) (gen:Int):encT k gen 0=encN k gen 6:=zEq _
theorem encT_succ {k:Kept} {gen:Int} {j:Nat} (h:j < k.log.length):encT k gen (j+1)=encT k gen j ++ textBytes k.log[j]:=by
 unfold encT
 rw [List.take_succ_eq_append_getElem h,List.map_append,zIp,List.map_singleton,zPc,zAz]
theorem encT_all (k:Kept) (gen:Int):encT k gen k.log.length=keptBody k gen:=by
 unfold encT encN
 rw [zEr,List.take_length,List.take_of_length_le (by rw [zPd];omega)]
theorem encT_size {k:Kept} (h:keptFault k=0) (gen:Int) (j:Nat):(encT k gen j).size<=2484:=by
 have h1:=encN_size k gen 6
 have h2:=zFd (k.log.take j) (fun s hs=>log_small h s (List.mem_of_mem_take hs))
 have h3:=(keptFault_ok h).2.2.2.2.2.1
 have h4:(k.log.take j).length<=k.log.length:=by rw [List.length_take];omega
 unfold encT
 rw [ByteArray.size_append]
 omega
section
variable {α:Type}
def glue (xs:List α) (q:List α × Str × Int):List α × Str × Int:=if q.2.2≠0 then ([],str0,q.2.2) else (xs ++ q.1,q.2.1,0)
theorem glue_bad (xs:List α) (q:List α × Str × Int) (h:q.2.2≠0):glue xs q=([],str0,q.2.2):=if_pos h
theorem glue_glue (xs ys:List α) (q:List α × Str × Int):glue xs (glue ys q)=glue (xs ++ ys) q:=by
 unfold glue
 by_cases h:q.2.2=0
 ·simp [h]
 simp [h]
theorem glue_done (xs:List α) (s:Str):glue xs ([],s,0)=(xs,s,0):=by simp [glue]
end
theorem readNumbers_bad {n:Nat} {s:Str} (h:(readNumber s).2.2≠0):readNumbers (n+1) s=([],str0,(readNumber s).2.2):=by
 unfold readNumbers
 simp only
 rw [if_pos h]
theorem readNumbers_more {n:Nat} {s:Str} (h:(readNumber s).2.2=0):readNumbers (n+1) s=glue [(readNumber s).1] (readNumbers n (readNumber s).2.1):=by
 conv=>lhs;unfold readNumbers
 simp only
 rw [if_neg (by simp [h])]
 rfl
theorem readTexts_bad {n:Nat} {s:Str} (h:(readText s).2.2≠0):readTexts (n+1) s=([],str0,(readText s).2.2):=by
 unfold readTexts
 simp only
 rw [if_pos h]
theorem readTexts_more {n:Nat} {s:Str} (h:(readText s).2.2=0):readTexts (n+1) s=glue [(readText s).1] (readTexts n (readText s).2.1):=by
 conv=>lhs;unfold readTexts
 simp only
 rw [if_neg (by simp [h])]
 rfl
theorem nil_glue (n:Nat) (s:Str):readNumbers n s=glue [] (readNumbers n s):=by
 by_cases h:(readNumbers n s).2.2=0
 ·unfold glue
  rw [if_neg (by simp [h])]
  rw [List.nil_append,<- h]
 rw [glue_bad _ _ h]
 cases n with
 | zero=>exact absurd rfl h
 | succ n =>
   by_cases hr:(readNumber s).2.2=0
   ·rw [readNumbers_more hr] at h ⊢
    by_cases hq:(readNumbers n (readNumber s).2.1).2.2=0
    ·exact absurd (by unfold glue;rw [if_neg (by simp [hq])]) h
    rw [glue_bad _ _ hq]
   ·rw [readNumbers_bad hr]
theorem nil_glueT (n:Nat) (s:Str):readTexts n s=glue [] (readTexts n s):=by
 by_cases h:(readTexts n s).2.2=0
 ·unfold glue
  rw [if_neg (by simp [h])]
  rw [List.nil_append,<- h]
 rw [glue_bad _ _ h]
 cases n with
 | zero=>exact absurd rfl h
 | succ n =>
   by_cases hr:(readText s).2.2=0
   ·rw [readTexts_more hr] at h ⊢
    by_cases hq:(readTexts n (readText s).2.1).2.2=0
    ·exact absurd (by unfold glue;rw [if_neg (by simp [hq])]) h
    rw [glue_bad _ _ hq]
   ·rw [readTexts_bad hr]
theorem rn_size (s:Str):(readNumber s).2.1.size<=s.size:=by
 unfold readNumber
 split
 ·exact mE _
 split
 ·exact mE _
 show (dropS s 4).size<=s.size
 unfold dropS
 rw [ByteArray.size_extract]
 omega
theorem rt_size (s:Str):(readText s).2.1.size<=s.size/\(readText s).1.size<=s.size:=by
 unfold readText
 split
 ·exact ⟨mE _,mE _⟩
 split
 ·exact ⟨mE _,mE _⟩
 refine ⟨?_,?_⟩
 ·show (dropS s _).size<=s.size
  unfold dropS
  rw [ByteArray.size_extract]
  omega
 show (s.extract 1 _).size<=s.size
 rw [ByteArray.size_extract]
 omega
section
variable {s:Str}
theorem dec1 (h:4000 < s.size):stageDecode s=(kept0,0,1):=if_pos h
theorem dec2 (h:s.size < 4):stageDecode s=(kept0,0,5):=by unfold stageDecode;rw [if_neg (by omega),if_pos h]
theorem dec3 (h1:¬ 4000 < s.size) (h2:¬ s.size < 4) (h:sealS (dropS s 4)≠s.extract 0 4):stageDecode s=(kept0,0,11):=by unfold stageDecode;rw [if_neg h1,if_neg h2,if_pos h]
theorem dec4 (h1:¬ 4000 < s.size) (h2:¬ s.size < 4) (h3:¬ sealS (dropS s 4)≠s.extract 0 4) {e:Int} (h:readNumbers 6 (dropS s 4)=([],str0,e)) (he:e≠0):stageDecode s=(kept0,0,e):=by
 unfold stageDecode
 rw [if_neg h1,if_neg h2,if_neg h3]
 simp only [h]
 rw [if_pos he]
theorem dec5 (h1:¬ 4000 < s.size) (h2:¬ s.size < 4) (h3:¬ sealS (dropS s 4)≠s.extract 0 4) {a b c d e f:Int} {t:Str} (h:readNumbers 6 (dropS s 4)=([a,b,c,d,e,f],t,0)) :
 stageDecode s=if 1 < d\/60 < f then (kept0,0,4) else if (readTexts f.toNat t).2.2≠0 then (kept0,0,(readTexts f.toNat t).2.2) else if (readTexts f.toNat t).2.1≠str0 then (kept0,0,4) else
  if keptFault ⟨b,c,d == 1,(readTexts f.toNat t).1,e⟩≠0 then (kept0,0,keptFault ⟨b,c,d == 1,(readTexts f.toNat t).1,e⟩) else (⟨b,c,d == 1,(readTexts f.toNat t).1,e⟩,a,0):=by
 unfold stageDecode
 rw [if_neg h1,if_neg h2,if_neg h3]
 simp only [h]
 rfl
end
end Scu
namespace Scu
theorem zKb {s:Str} (h:(readNumber s).2.2=0):0<=(readNumber s).1/\(readNumber s).1<=1073741824:=by
 unfold readNumber at h ⊢
 split
 ·rename_i hx;rw [if_pos hx] at h;simp at h
 rename_i hx;rw [if_neg hx] at h
 split
 ·rename_i hx;rw [if_pos hx] at h;simp at h
 have:=zQi s
 exact ⟨this.1,by show num4 s<=_;omega⟩
theorem zFe:∀ (n:Nat) (s:Str),(readNumbers n s).2.2=0->∀ x ∈ (readNumbers n s).1,0<=x/\x<=1073741824
 | 0,s,_,x,hx=>by simp [readNumbers] at hx
 | n+1,s,h,x,hx=>by
   unfold readNumbers at h hx
   simp only [] at h hx
   by_cases h1:(readNumber s).2.2≠0
   ·rw [if_pos h1] at h;exact absurd h h1
   rw [if_neg h1] at h hx
   by_cases h2:(readNumbers n (readNumber s).2.1).2.2≠0
   ·rw [if_pos h2] at h;exact absurd h h2
   rw [if_neg h2] at hx
   rcases List.mem_cons.1 hx with rfl | hx
   ·exact zKb (by omega)
   ·exact zFe n _ (by omega) x hx
theorem zEb {s:Str} {k:Kept} {g:Int} (h:stageDecode s=(k,g,0)):keptFault k=0/\0<=g/\g<=1073741824:=by
 unfold stageDecode at h
 split at h
 ·simp at h
 split at h
 ·simp at h
 split at h
 ·simp at h
 simp only [] at h
 split at h
 ·rename_i hx;simp only [Prod.mk.injEq] at h;omega
 rename_i hn
 split at h
 ·simp at h
 split at h
 ·rename_i hx;simp only [Prod.mk.injEq] at h;omega
 split at h
 ·simp at h
 split at h
 ·rename_i hx;simp only [Prod.mk.injEq] at h;omega
 rename_i hk
 simp only [Prod.mk.injEq] at h
 obtain ⟨rfl,rfl,_⟩:=h
 refine ⟨by omega,?_⟩
 have hr:=zFe 6 (dropS s 4) (by omega)
 rcases Nat.lt_or_ge 0 (readNumbers 6 (dropS s 4)).1.length with hl | hl
 ·rw [mI,mH hl]
  exact hr _ (List.getElem_mem hl)
 rw [mI,List.getElem?_eq_none hl]
 simp
theorem load_len {l:List Str} (h:l.length≠2):load l=(kept0,0,0,4):=if_pos h
theorem load_two {a b:Str} {ka kb:Kept} {ga gb ea eb:Int} (da:stageDecode a=(ka,ga,ea)) (db:stageDecode b=(kb,gb,eb)) :
 load [a,b]=if ea≠0/\eb≠0 then (kept0,0,0,13) else if ea≠0\/(eb=0/\ga < gb) then (kb,gb,1,0) else (ka,ga,0,0):=by
 unfold load
 rw [if_neg (by simp)]
 simp only [List.getD_cons_zero,List.getD_cons_succ,da,db]
def best0:Kept × Int × Int:=(kept0,-1,0)
theorem load_at {l:List Str} {k:Kept} {g a:Int} (h:load l=(k,g,a,0)):l.length=2/\(a=0\/a=1)/\0<=g/\g<=1073741824:=by
 by_cases hl:l.length=2
 ·match l,hl with
  | [x,y],_ =>
    generalize da:stageDecode x=qa at *
    generalize db:stageDecode y=qb at *
    obtain ⟨ka,ga,ea⟩:=qa
    obtain ⟨kb,gb,eb⟩:=qb
    rw [load_two da db] at h
    refine ⟨rfl,?_⟩
    split at h
    ·simp at h
    split at h
    ·rename_i h1 h2
     simp only [Prod.mk.injEq] at h
     obtain ⟨rfl,rfl,rfl,_⟩:=h
     have:eb=0:=by
      rcases h2 with h2 | h2
      ·exact Decidable.byContradiction (fun hb=>h1 ⟨h2,hb⟩)
      exact h2.1
     subst this
     have:=zEb db
     exact ⟨.inr rfl,this.2⟩
    ·rename_i h1 h2
     simp only [Prod.mk.injEq] at h
     obtain ⟨rfl,rfl,rfl,_⟩:=h
     have:ea=0:=Decidable.byContradiction (fun ha=>h2 (.inl ha))
     subst this
     have:=zEb da
     exact ⟨.inl rfl,this.2⟩
 rw [load_len hl] at h
 simp at h
end Scu
namespace Scu
def SlotIs (l:List Str) (k:Kept) (g:Int) (at_:Int):Prop :=
 ∃ a b,l=[a,b] /\
  ((at_=0/\stageDecode a=(k,g,0)/\((stageDecode b).2.2≠0\/(stageDecode b).2.1<=g)) \/
   (at_=1/\stageDecode b=(k,g,0)/\((stageDecode a).2.2≠0\/(stageDecode a).2.1 < g)))
theorem zOa {l:List Str} {k:Kept} {g at_:Int} (h:SlotIs l k g at_):load l=(k,g,at_,0):=by
 obtain ⟨a,b,rfl,⟨rfl,ha,hb⟩ | ⟨rfl,hb,ha⟩⟩:=h
 ·unfold load
  simp only [List.length_cons,List.length_nil,ne_eq,not_true_eq_false,if_false,List.getD_cons_zero,List.getD_cons_succ,ha]
  simp only [false_and,if_false,false_or]
  rw [if_neg (by omega)]
 unfold load
 simp only [List.length_cons,List.length_nil,ne_eq,not_true_eq_false,if_false,List.getD_cons_zero,List.getD_cons_succ,hb]
 simp only [and_false,if_false,true_and]
 rw [if_pos ha]
theorem zXz {l:List Str} {k:Kept} {g at_:Int} (h:load l=(k,g,at_,0)):SlotIs l k g at_:=by
 unfold load at h
 by_cases hl:l.length≠2
 ·rw [if_pos hl] at h;simp at h
 rw [if_neg hl] at h
 match l,hl with
 | [a,b],_ =>
   refine ⟨a,b,rfl,?_⟩
   simp only [List.getD_cons_zero,List.getD_cons_succ] at h
   by_cases h1:(stageDecode a).2.2≠0/\(stageDecode b).2.2≠0
   ·rw [if_pos h1] at h;simp at h
   rw [if_neg h1] at h
   by_cases h2:(stageDecode a).2.2≠0\/(stageDecode b).2.2=0/\(stageDecode a).2.1 < (stageDecode b).2.1
   ·rw [if_pos h2] at h
    simp only [Prod.mk.injEq] at h
    obtain ⟨e1,e2,e3,_⟩:=h
    refine .inr ⟨e3.symm,?_,?_⟩
    ·rw [<- e1,<- e2]
     have:(stageDecode b).2.2=0:=by omega
     rw [<- this]
    rw [<- e2];omega
   ·rw [if_neg h2] at h
    simp only [Prod.mk.injEq] at h
    obtain ⟨e1,e2,e3,_⟩:=h
    refine .inl ⟨e3.symm,?_,?_⟩
    ·rw [<- e1,<- e2]
     have:(stageDecode a).2.2=0:=by omega
     rw [<- this]
    rw [<- e2];omega
 | [],h=>simp at h
 | [_],h=>simp at h
 | _ :: _ :: _ :: _,h=>simp at h
theorem zQo {s:Str} {n:Int} (h:n < 0\/(s.size:Int)<=n):upTo s n=s:=by
 unfold upTo
 rw [if_neg (by omega)]
theorem zIf {s:Str} {n:Int} (h:¬ (n < 0\/(s.size:Int)<=n)):Pre (upTo s n) s/\(upTo s n).size < s.size:=by
 unfold upTo
 rw [if_pos (by omega)]
 refine ⟨?_,?_⟩
 ·unfold Pre
  rw [zGi]
  simp [List.take_prefix]
 rw [ByteArray.size_extract];omega
theorem zQp {l l':List Str} {k k0:Kept} {g at_ upto:Int} (h:load l=(k0,g,at_,0)) (hs:store l k upto=(l',0)) :
 keptFault k=0/\g < 1073741824/\(if upto < 0\/((keptBytes k (g+1)).size:Int)<=upto then load l'=(k,g+1,1 - at_,0) else load l'=(k0,g,at_,0)):=by
 unfold store at hs
 rw [h] at hs
 simp only [ne_eq,not_true_eq_false,if_false] at hs
 obtain ⟨a,b,rfl,hc⟩:=zXz h
 have hg:0<=g/\g<=1073741824:=by
  rcases hc with ⟨_,hd,_⟩ | ⟨_,hd,_⟩ <;> exact (zEb hd).2
 by_cases h1:g=1073741824
 ·rw [if_pos h1] at hs;simp at hs
 rw [if_neg h1] at hs
 by_cases h2:keptFault k≠0
 ·rw [if_pos h2] at hs;simp only [Prod.mk.injEq] at hs;exact absurd hs.2 h2
 rw [if_neg h2] at hs
 by_cases h3:upto < -1
 ·rw [if_pos h3] at hs;simp at hs
 rw [if_neg h3] at hs
 simp only [Prod.mk.injEq,and_true] at hs
 subst hs
 have hk:keptFault k=0:=by omega
 refine ⟨hk,by omega,?_⟩
 have Ha:=zCz hk (gen:=g+1) (by omega) (by omega)
 split
 ·rename_i hu
  rw [zQo hu]
  apply zOa
  rcases hc with ⟨rfl,ha,hb⟩ | ⟨rfl,hb,ha⟩
  ·refine ⟨a,keptBytes k (g+1),rfl,.inr ⟨rfl,Ha,.inr ?_⟩⟩
   rw [ha];show g < g+1;omega
  refine ⟨keptBytes k (g+1),b,rfl,.inl ⟨rfl,Ha,.inr ?_⟩⟩
  rw [hb];show g<=g+1;omega
 rename_i hu
 obtain ⟨hp,Hc⟩:=zIf hu
 have Hb:=zIq hk (gen:=g+1) (by omega) (by omega) hp Hc
 apply zOa
 rcases hc with ⟨rfl,ha,hb⟩ | ⟨rfl,hb,ha⟩
 ·exact ⟨a,_,rfl,.inl ⟨rfl,ha,.inl Hb⟩⟩
 exact ⟨_,b,rfl,.inr ⟨rfl,hb,.inl Hb⟩⟩
end Scu
namespace Scu
def repAt (x:Net) (i:Int):Replica:=x.replicas.getD i.toNat replica0
def slotAt (x:Net) (i:Int):List Str:=x.slots.getD i.toNat []
structure NetOk (A:Str->Prop) (G:Gh) (x:Net):Prop where
 g:GoodG G
 ent:EntG A G
 rlen:x.replicas.length=3
 slen:x.slots.length=3
 rep:∀ i,InR i->GoodR G i (repAt x i)
 fault:∀ i,InR i->repFault (repAt x i)=0
 slot:∀ i,InR i->∃ g at_,load (slotAt x i)=((repAt x i).kept,g,at_,0)
 fly:∀ m ∈ x.flying,GoodM G m/\InR m.tq
def NetStep (A:Str->Prop) (G:Gh) (x x':Net):Prop :=
 ∃ a G',Ext a G G'/\NetOk A G' x'/\∀ i,InR i->(repAt x i).kept.commit<=(repAt x' i).kept.commit
theorem NetStep.same {A:Str->Prop} {G:Gh} {x:Net} (h:NetOk A G x):NetStep A G x x:=⟨0,G,Ext.refl 0 G,h,fun _ _=>Int.le_refl _⟩
theorem NetOk.mono {A A':Str->Prop} {G:Gh} {x:Net} (h:NetOk A G x) (hA:∀ e,A e->A' e):NetOk A' G x:={ h with ent:=fun v hv e he=>hA e (h.ent v hv e he) }
theorem NetOk.besides {A:Str->Prop} {G:Gh} {x x':Net} (h:NetOk A G x) (h1:x'.replicas=x.replicas) (h2:x'.slots=x.slots) (h3:∀ m ∈ x'.flying,GoodM G m/\InR m.tq):NetOk A G x':=by
 have e1:∀ i,repAt x' i=repAt x i:=fun i=>by unfold repAt;rw [h1]
 have e2:∀ i,slotAt x' i=slotAt x i:=fun i=>by unfold slotAt;rw [h2]
 exact { g:=h.g,ent:=h.ent,rlen:=by rw [h1];exact h.rlen,slen:=by rw [h2];exact h.slen,rep:=fun i hi=>by rw [e1];exact h.rep i hi,
         fault:=fun i hi=>by rw [e1];exact h.fault i hi,slot:=fun i hi=>by rw [e1,e2];exact h.slot i hi,fly:=h3 }
theorem NetStep.besides {A:Str->Prop} {G:Gh} {x x':Net} (h:NetOk A G x) (h1:x'.replicas=x.replicas) (h2:x'.slots=x.slots) (h3:∀ m ∈ x'.flying,GoodM G m/\InR m.tq):NetStep A G x x' :=
 ⟨0,G,Ext.refl 0 G,h.besides h1 h2 h3,fun i _=>by unfold repAt;rw [h1];exact Int.le_refl _⟩
theorem zCj {x:Net} {i j:Int} {r:Replica} {sl:List (List Str)} {fl:List Message} (hi:InR i) (hj:InR j) (hl:x.replicas.length=3) :
 repAt { x with replicas:=x.replicas.set i.toNat r,slots:=sl,flying:=fl } j=if j=i then r else repAt x j:=zEs _ _ _ _ _ hi hj hl
theorem NetOk.put {A:Str->Prop} {G G':Gh} {x:Net} {i:Int} {r:Replica} {sl:List (List Str)} {fl:List Message} (h:NetOk A G x) (hi:InR i) (e:Ext i G G') (g:GoodG G') (a:EntG A G')
 (hr:GoodR G' i r) (hf:repFault r=0) (Ha:sl.length=3) (Hb:∀ j,InR j->j≠i->sl.getD j.toNat []=slotAt x j) (Hc:∃ g at_,load (sl.getD i.toNat [])=(r.kept,g,at_,0))
 (Hd:∀ m ∈ fl,GoodM G' m/\InR m.tq):NetOk A G' { x with replicas:=x.replicas.set i.toNat r,slots:=sl,flying:=fl } where
 g:=g
 ent:=a
 rlen:=by simp [h.rlen]
 slen:=Ha
 rep j hj:=by
  rw [zCj hi hj h.rlen]
  split
  ·rename_i e';subst e';exact hr
  rename_i e';exact (h.rep j hj).ext e e'
 fault j hj:=by
  rw [zCj hi hj h.rlen]
  split
  ·exact hf
  exact h.fault j hj
 slot j hj:=by
  rw [zCj hi hj h.rlen]
  split
  ·rename_i e';subst e';exact Hc
  rename_i e'
  show ∃ g at_,load (sl.getD j.toNat [])=_
  rw [Hb j hj e']
  exact h.slot j hj
 fly:=Hd
theorem zIx {m:Message} : ∀ {l f:List Message},m ∈ sendAll f l->m ∈ f\/m ∈ l
 | [],f,h=>.inl h
 | y :: l,f,h=>by
   have h':m ∈ sendAll (if f.length < 80 then f ++ [y] else f) l:=h
   rcases zIx h' with h | h
   ·split at h
    ·rcases List.mem_append.1 h with h | h
     ·exact .inl h
     simp only [List.mem_singleton] at h;subst h;exact .inr List.mem_cons_self
    exact .inl h
   ·exact .inr (List.mem_cons_of_mem _ h)
theorem zFf {i:Int} {k:Kept} (hi:InR i) (hk:keptFault k=0) (r:Replica):repNew i k=(fresh { r with me:=i,kept:=k },0):=by
 unfold repNew fresh
 unfold InR at hi
 rw [if_neg (by omega),if_neg (by omega)]
theorem zHh {i:Int} (hi:InR i):((i.toNat:Nat):Int)=i:=by unfold InR at hi;omega
theorem zUa {α:Type} (l:List α) (n:Nat) (d:α) (h:n < l.length):l.set n (l.getD n d)=l:=by
 apply List.ext_getElem?
 intro j
 rw [List.getElem?_set]
 split
 ·rename_i e;subst e
  rw [mI,mH h];rfl
 rfl
theorem zYa (r:Replica) {i:Int} (h:r.me=i) : { r with me:=i,kept:=r.kept } = r:=by subst h;rfl
theorem zPe {A:Str->Prop} {G:Gh} {x:Net} {i:Int} (h:NetOk A G x) (hi:InR i) :
 (crash x i.toNat)=({ x with replicas:=x.replicas.set i.toNat (fresh (repAt x i)) },0)/\NetOk A G (crash x i.toNat).1:=by
 obtain ⟨g,at_,hl⟩:=h.slot i hi
 have hk:=(repFault_ok (h.fault i hi)).2.2.2.2.2.2.2
 have Ha:=(h.rep i hi).me
 have e:crash x i.toNat=({ x with replicas:=x.replicas.set i.toNat (fresh (repAt x i)) },0):=by
  unfold crash
  have Hb:load (x.slots.getD i.toNat [])=((repAt x i).kept,g,at_,0):=hl
  simp only [Hb,ne_eq,not_true_eq_false,if_false,zHh hi,zFf hi hk (repAt x i)]
  rw [zYa (repAt x i) Ha]
 refine ⟨e,?_⟩
 rw [e]
 refine (h.put (r:=fresh (repAt x i)) (sl:=x.slots) (fl:=x.flying) hi (Ext.refl i G) h.g h.ent (GoodR.fresh hi Ha (h.rep i hi).kept) (zDl ?_ hk) h.slen (fun j _ _=>rfl) ⟨g,at_,hl⟩ h.fly)
 rw [Ha];exact hi
theorem zKk {A:Str->Prop} {G:Gh} {x:Net} {i:Int} (h:NetOk A G x) (hi:InR i):NetStep A G x (crash x i.toNat).1:=by
 obtain ⟨e,hn⟩:=zPe h hi
 refine ⟨i,G,Ext.refl i G,hn,fun j hj=>?_⟩
 rw [e]
 show _<=(repAt { x with replicas:=x.replicas.set i.toNat (fresh (repAt x i)),slots:=x.slots,flying:=x.flying } j).kept.commit
 rw [zCj hi hj h.rlen]
 split
 ·rename_i e';subst e';exact Int.le_refl _
 exact Int.le_refl _
theorem zGk {A:Str->Prop} {G:Gh} {x:Net} {i upto:Int} {next:Replica} {out:List Message} (h:NetOk A G x) (hi:InR i) (hs:Stepped A G i (repAt x i) next out) (hf:repFault next=0) (ht:ToR out) :
 NetStep A G x (settle x i.toNat next out upto).1:=by
 obtain ⟨G',e,g',a',Hg,Hm,Hh⟩:=hs
 have Hc:∀ m ∈ sendAll x.flying out,GoodM G' m/\InR m.tq:=fun m hm=>by
  rcases zIx hm with hm | hm
  ·exact ⟨(h.fly m hm).1.ext e,(h.fly m hm).2⟩
  exact ⟨Hm m hm,ht m hm⟩
 have Hd:∀ m ∈ x.flying,GoodM G' m/\InR m.tq:=fun m hm=>⟨(h.fly m hm).1.ext e,(h.fly m hm).2⟩
 have Hn:i.toNat < 3:=by unfold InR at hi;omega
 unfold settle
 split
 ·rename_i hsame
  have Ha:next.kept=(repAt x i).kept:=hsame.1
  obtain ⟨g,at_,hl⟩:=h.slot i hi
  refine ⟨i,G',e,h.put (sl:=x.slots) hi e g' a' Hg hf h.slen (fun j _ _=>rfl) ⟨g,at_,by rw [Ha];exact hl⟩ Hc,fun j hj=>?_⟩
  show _<=(repAt { x with replicas:=x.replicas.set i.toNat next,slots:=x.slots,flying:=sendAll x.flying out } j).kept.commit
  rw [zCj hi hj h.rlen]
  split
  ·rename_i e';subst e';exact Hh
  exact Int.le_refl _
 simp only []
 split
 ·exact NetStep.same h
 rename_i hst
 obtain ⟨g,at_,hl⟩:=h.slot i hi
 have He:store (x.slots.getD i.toNat []) next.kept upto=((store (x.slots.getD i.toNat []) next.kept upto).1,0):=by
  have:(store (x.slots.getD i.toNat []) next.kept upto).2=0:=by omega
  rw [<- this]
 generalize hl':(store (x.slots.getD i.toNat []) next.kept upto).1=l' at He ⊢
 obtain ⟨hk,hg,Hb⟩:=zQp hl He
 have Hi:∀ j,InR j->j≠i->(x.slots.set i.toNat l').getD j.toNat []=slotAt x j:=fun j hj Ho=>by
  rw [zEs _ _ _ _ _ hi hj h.slen,if_neg Ho];rfl
 have Hf:(x.slots.set i.toNat l').getD i.toNat []=l':=by rw [zEs _ _ _ _ _ hi hi h.slen,if_pos rfl]
 have Hj:(x.slots.set i.toNat l').length=3:=by simp [h.slen]
 split
 ·rename_i hu
  by_cases hw:upto < 0\/((keptBytes next.kept (g+1)).size:Int)<=upto
  ·rw [if_pos hw] at Hb
   -- all of it is there: it begins anew as what it has become
   have hn:NetOk A G' { x with replicas:=x.replicas.set i.toNat next,slots:=x.slots.set i.toNat l',flying:=x.flying } :=
    h.put hi e g' a' Hg hf Hj Hi ⟨_,_,by rw [Hf];exact Hb⟩ Hd
   obtain ⟨he,Hp⟩:=zPe hn hi
   have Hk:repAt { x with replicas:=x.replicas.set i.toNat next,slots:=x.slots.set i.toNat l',flying:=x.flying } i=next:=by rw [zCj hi hi h.rlen,if_pos rfl]
   have Hq:(crash { x with slots:=x.slots.set i.toNat l' } i.toNat).1=(crash { x with replicas:=x.replicas.set i.toNat next,slots:=x.slots.set i.toNat l',flying:=x.flying } i.toNat).1:=by
    unfold crash
    simp only [Hf,Hb,ne_eq,not_true_eq_false,if_false,List.set_set]
   rw [Hq]
   refine ⟨i,G',e,Hp,fun j hj=>?_⟩
   rw [he,Hk]
   simp only [List.set_set]
   show _<=(repAt { x with replicas:=x.replicas.set i.toNat (fresh next),slots:=x.slots.set i.toNat l',flying:=x.flying } j).kept.commit
   rw [zCj hi hj h.rlen]
   split
   ·rename_i e';subst e';exact Hh
   exact Int.le_refl _
  rw [if_neg hw] at Hb
  have hn:NetOk A G { x with slots:=x.slots.set i.toNat l' }:=by
   have:=h.put (r:=repAt x i) (sl:=x.slots.set i.toNat l') (fl:=x.flying) hi (Ext.refl i G) h.g h.ent (h.rep i hi) (h.fault i hi) Hj Hi ⟨_,_,by rw [Hf];exact Hb⟩ h.fly
   have Hl:x.replicas.set i.toNat (repAt x i)=x.replicas:=zUa _ _ _ (by rw [h.rlen];exact Hn)
   rw [Hl] at this
   exact this
  obtain ⟨a2,G2,e2,h2,Hr⟩:=zKk hn hi
  exact ⟨a2,G2,e2,h2,Hr⟩
 rename_i hu
 have hw:upto < 0:=by omega
 rw [if_pos (.inl hw)] at Hb
 refine ⟨i,G',e,h.put hi e g' a' Hg hf Hj Hi ⟨_,_,by rw [Hf];exact Hb⟩ Hc,fun j hj=>?_⟩
 show _<=(repAt { x with replicas:=x.replicas.set i.toNat next,slots:=x.slots.set i.toNat l',flying:=sendAll x.flying out } j).kept.commit
 rw [zCj hi hj h.rlen]
 split
 ·rename_i e';subst e';exact Hh
 exact Int.le_refl _
theorem zMk {α:Type} {l:List α} {n:Nat} {y:α} (h:y ∈ l.eraseIdx n):y ∈ l:=List.mem_of_mem_eraseIdx h
theorem zRz {r:Int} (h:¬ (r < 0\/3<=r)):InR r:=by unfold InR;omega
theorem yAk {A:Str->Prop} {G:Gh} {x:Net} (h:NetOk A G x) (hA:∀ c ∈ x.clients,reqFault c.wait=0->A (reqBytes c.wait)) (a:Act):NetStep A G x (act x a).1:=by
 unfold act
 split
 ·unfold actBy
  split
  ·exact NetStep.same h
  rename_i hc
  simp only []
  have Hb:x.clients.getD a.c.toNat cust0 ∈ x.clients:=by
   have Hc:a.c.toNat < x.clients.length:=by omega
   rw [mI,mH Hc]
   exact List.getElem_mem Hc
  split
  ·split
   ·exact NetStep.same h
   split
   ·exact NetStep.same h
   exact NetStep.besides h rfl rfl h.fly
  split
  ·exact NetStep.same h
  split
  ·exact NetStep.same h
  rename_i hr
  have hi:=zRz hr
  split
  ·unfold answer
   simp only []
   split
   ·exact NetStep.same h
   split
   ·exact NetStep.same h
   split
   ·exact NetStep.same h
   exact NetStep.besides h rfl rfl h.fly
  split
  ·exact NetStep.same h
  rename_i hs
  split
  ·exact NetStep.same h
  rename_i ht
  have He:encode (x.clients.getD a.c.toNat cust0).wait=(reqBytes (x.clients.getD a.c.toNat cust0).wait,0)/\reqFault (x.clients.getD a.c.toNat cust0).wait=0:=by
   unfold encode at hs ⊢
   split
   ·rename_i hx;rw [if_pos hx] at hs;exact absurd hx (by simpa using hs)
   rename_i hx;exact ⟨rfl,by omega⟩
  rw [He.1] at ht ⊢
  have Ha:(take (repAt x a.r) (reqBytes (x.clients.getD a.c.toNat cust0).wait)).2.2=0:=Classical.byContradiction ht
  exact zGk h hi (zXu h.g h.ent (h.rep _ hi) (hA _ Hb He.2) Ha) (zQm Ha) (zXx _ _)
 split
 ·unfold actAt
  split
  ·exact NetStep.same h
  rename_i hr
  have hi:=zRz hr
  split
  ·exact zKk h hi
  simp only []
  by_cases h5:a.kind=5
  ·rw [if_pos h5]
   split
   ·exact NetStep.same h
   rename_i ht
   have Ha:(alarm (repAt x a.r)).2.2=0:=Classical.byContradiction ht
   exact zGk h hi (zTy h.g h.ent (h.rep _ hi) Ha) (zNz Ha) (zTz _)
  rw [if_neg h5]
  split
  ·exact NetStep.same h
  rename_i ht
  have Ha:(tick (repAt x a.r)).2.2=0:=Classical.byContradiction ht
  exact zGk h hi (zXv h.g h.ent (h.rep _ hi) Ha) (zQn Ha) (zXy _)
 split
 ·unfold actMessage
  split
  ·exact NetStep.same h
  rename_i hk
  simp only []
  have Hd:x.flying.getD a.k.toNat msg0 ∈ x.flying:=by
   have Hc:a.k.toNat < x.flying.length:=by omega
   rw [mI,mH Hc]
   exact List.getElem_mem Hc
  split
  ·split
   ·exact NetStep.same h
   refine NetStep.besides h rfl rfl fun m hm=>?_
   rcases List.mem_append.1 hm with hm | hm
   ·exact h.fly m hm
   simp only [List.mem_singleton] at hm;subst hm;exact h.fly _ Hd
  split
  ·exact NetStep.same h
  have hy:NetOk A G { x with flying:=x.flying.eraseIdx a.k.toNat }:=h.besides rfl rfl fun m hm=>h.fly m (zMk hm)
  have Hb:∀ i,InR i->(repAt x i).kept.commit<=(repAt { x with flying:=x.flying.eraseIdx a.k.toNat } i).kept.commit:=fun i _=>Int.le_refl _
  split
  ·exact ⟨0,G,Ext.refl 0 G,hy,Hb⟩
  split
  ·exact ⟨0,G,Ext.refl 0 G,hy,Hb⟩
  rename_i ht
  have hi:=(h.fly _ Hd).2
  have Ha:(hear (repAt { x with flying:=x.flying.eraseIdx a.k.toNat } (x.flying.getD a.k.toNat msg0).tq) (x.flying.getD a.k.toNat msg0)).2.2=0:=by
   show (hear (x.replicas.getD (x.flying.getD a.k.toNat msg0).tq.toNat replica0) _).2.2=0
   omega
  obtain ⟨b,G',e,hn,hc⟩:=zGk (upto:=if a.kind=10 then a.n else -1) hy hi (zXt hy.g hy.ent (hy.rep _ hi) (h.fly _ Hd).1 Ha) (zQl Ha) (zXw _ _)
  exact ⟨b,G',e,hn,fun i hi=>Int.le_trans (Hb i hi) (hc i hi)⟩
 exact NetStep.same h
def gh0:Gh:=⟨fun v=>v=0,fun _=>[],fun _=>[],fun _ _=>0,fun _=>0⟩
theorem zUb:GoodG gh0 where
 nn v hv:=by have:v=0:=hv;omega
 two v hv i j _ _ _:=.inl (by have:v=0:=hv;show v<=0;omega)
 pre _ _:=List.prefix_refl _
 ackLen _ _:=mC _
 ackSt _ _ h:=absurd h (by show ¬ 0 < 0;omega)
 lc1 w v j hlt hw hv:=by have:w=0:=hw;have:v=0:=hv;omega
 lc2 w v j hlt hw hv:=by have:w=0:=hw;have:v=0:=hv;omega
theorem zFp {i:Int} : KeptOk gh0 i keptNew where
 view:=rfl
 le:=Int.le_refl _
 calm _:=rfl
 wild h:=by cases h
 st:=rfl
 lo:=List.prefix_refl _
 hi:=List.prefix_refl _
 mine _:=rfl
 led w hw _:=by have:w=0:=hw;subst this;exact Int.le_refl _
 acked w h:=absurd h (by show ¬ 0 < 0;omega)
 com:=⟨Int.le_refl _,Int.le_refl _,.inl rfl⟩
theorem zCk:keptFault keptNew=0:=by decide
theorem zLg:load stageNew=(keptNew,0,0,0):=by
 refine zOa ⟨keptBytes keptNew 0,str0,rfl,.inl ⟨rfl,zCz zCk (by omega) (by omega),.inl ?_⟩⟩
 unfold stageDecode
 rw [if_neg (by show ¬ 4000 < 0;omega),if_pos (by show 0 < 4;omega)]
 simp
theorem zSa (A:Str->Prop) (n:Nat):NetOk A gh0 (netNew n):=by
 have hr:∀ i,InR i->repAt (netNew n) i=fresh { replica0 with me:=i,kept:=keptNew }:=by
  intro i hi
  have h3:i=0\/i=1\/i=2:=by unfold InR at hi;omega
  rcases h3 with rfl | rfl | rfl
  ·exact congrArg Prod.fst (zFf hi zCk replica0)
  ·exact congrArg Prod.fst (zFf hi zCk replica0)
  exact congrArg Prod.fst (zFf hi zCk replica0)
 have hs:∀ i,InR i->slotAt (netNew n) i=stageNew:=by
  intro i hi
  have h3:i=0\/i=1\/i=2:=by unfold InR at hi;omega
  rcases h3 with rfl | rfl | rfl <;> rfl
 exact { g:=zUb,ent:=fun v _ e he=>by simp [gh0] at he,rlen:=rfl,slen:=rfl,
         rep:=fun i hi=>by rw [hr i hi];exact GoodR.fresh hi rfl zFp,
         fault:=fun i hi=>by rw [hr i hi];exact zDl hi zCk,
         slot:=fun i hi=>by rw [hr i hi,hs i hi];exact ⟨0,0,zLg⟩,
         fly:=fun m hm=>by simp [netNew] at hm }
def comOf (r:Replica):List Str:=r.kept.log.take r.kept.commit.toNat
def comStep (out:List Str) (r:Replica):List Str:=if (out.length:Int) < r.kept.commit then comOf r else out
def committed (rs:List Replica):List Str:=rs.foldl comStep []
theorem zBf:∀ (rs:List Replica) (o:List Str),(∀ r ∈ rs,0<=r.kept.commit/\r.kept.commit<=r.kept.log.length) ->
 (rs.foldl comStep o=o\/∃ r ∈ rs,rs.foldl comStep o=comOf r)/\o.length<=(rs.foldl comStep o).length/\∀ r ∈ rs,(comOf r).length<=(rs.foldl comStep o).length
 | [],o,_=>⟨.inl rfl,mC _,fun r hr=>by simp at hr⟩
 | r :: rs,o,h=>by
   obtain ⟨h1,h2,h3⟩:=zBf rs (comStep o r) fun x hx=>h x (List.mem_cons_of_mem _ hx)
   have hb:=h r List.mem_cons_self
   have hl:(comOf r).length=r.kept.commit.toNat:=by unfold comOf;rw [List.length_take];omega
   have hs:o.length<=(comStep o r).length/\(comOf r).length<=(comStep o r).length:=by
    unfold comStep;split <;> omega
   refine ⟨?_,mD hs.1 h2,fun x hx=>?_⟩
   ·rcases h1 with h1 | ⟨x,hx,h1⟩
    ·show ((rs.foldl comStep (comStep o r))=o\/_)
     by_cases hc:(o.length:Int) < r.kept.commit
     ·refine .inr ⟨r,List.mem_cons_self,?_⟩
      show rs.foldl comStep (comStep o r)=_
      rw [h1];unfold comStep;rw [if_pos hc]
     refine .inl ?_
     rw [h1];unfold comStep;rw [if_neg hc]
    exact .inr ⟨x,List.mem_cons_of_mem _ hx,h1⟩
   ·rcases List.mem_cons.1 hx with rfl | hx
    ·exact mD hs.2 h2
    exact h3 x hx
theorem zIy {A:Str->Prop} {G:Gh} {x:Net} (h:NetOk A G x) {r:Replica} (hr:r ∈ x.replicas):∃ i,InR i/\r=repAt x i:=by
 obtain ⟨a,b,c,e⟩:=len3 h.rlen
 unfold repAt
 rw [e] at hr ⊢
 simp only [List.mem_cons,List.not_mem_nil,or_false] at hr
 rcases hr with rfl | rfl | rfl
 ·exact ⟨0,by unfold InR;omega,rfl⟩
 ·exact ⟨1,by unfold InR;omega,rfl⟩
 exact ⟨2,by unfold InR;omega,rfl⟩
theorem zOb {A:Str->Prop} {G:Gh} {x:Net} (h:NetOk A G x) {i:Int} (hi:InR i):repAt x i ∈ x.replicas:=by
 obtain ⟨a,b,c,e⟩:=len3 h.rlen
 unfold repAt
 rw [e]
 have h3:i=0\/i=1\/i=2:=by unfold InR at hi;omega
 rcases h3 with rfl | rfl | rfl
 ·exact List.mem_cons_self
 ·exact List.mem_cons_of_mem _ List.mem_cons_self
 exact List.mem_cons_of_mem _ (List.mem_cons_of_mem _ List.mem_cons_self)
theorem zBi {A:Str->Prop} {G:Gh} {x:Net} (h:NetOk A G x) {r:Replica} (hr:r ∈ x.replicas):Valid G r.kept.normal (comOf r)/\0<=r.kept.commit/\r.kept.commit<=r.kept.log.length:=by
 obtain ⟨i,hi,rfl⟩:=zIy h hr
 have:=(h.rep i hi).kept.com
 exact ⟨this.2.2,this.1,this.2.1⟩
theorem zDm {A:Str->Prop} {G:Gh} {x:Net} (h:NetOk A G x):∃ n,Valid G n (committed x.replicas):=by
 obtain ⟨h1,_,_⟩:=zBf x.replicas [] fun r hr=>(zBi h hr).2
 rcases h1 with h1 | ⟨r,hr,h1⟩
 ·exact ⟨0,.inl h1⟩
 exact ⟨_,by show Valid G _ (x.replicas.foldl comStep []);rw [h1];exact (zBi h hr).1⟩
theorem zKl {α:Type} {a b:List α} (h:a <+: b\/b <+: a) (hl:a.length<=b.length):a <+: b:=by
 rcases h with h | h
 ·exact h
 have:=h.length_le
 have e:b=a:=h.eq_of_length (by omega)
 rw [e]
 exact List.prefix_refl _
theorem zKm {A:Str->Prop} {G:Gh} {x:Net} (h:NetOk A G x) {r:Replica} (hr:r ∈ x.replicas):comOf r <+: committed x.replicas:=by
 obtain ⟨n,hv⟩:=zDm h
 obtain ⟨_,_,h3⟩:=zBf x.replicas [] fun r hr=>(zBi h hr).2
 exact zKl (Valid.agree h.g (zBi h hr).1 hv) (h3 r hr)
theorem zOc {A A':Str->Prop} {G:Gh} {x x':Net} (h:NetOk A G x) (hs:NetStep A' G x x'):committed x.replicas <+: committed x'.replicas:=by
 obtain ⟨a,G',e,h',hc⟩:=hs
 obtain ⟨n,hv⟩:=zDm h
 obtain ⟨n',Ha⟩:=zDm h'
 refine zKl (Valid.agree h'.g (hv.ext e) Ha) ?_
 obtain ⟨h1,_,_⟩:=zBf x.replicas [] fun r hr=>(zBi h hr).2
 obtain ⟨_,_,h3⟩:=zBf x'.replicas [] fun r hr=>(zBi h' hr).2
 show (x.replicas.foldl comStep []).length<=(x'.replicas.foldl comStep []).length
 rcases h1 with h1 | ⟨r,hr,h1⟩
 ·rw [h1];exact mE _
 rw [h1]
 obtain ⟨i,hi,rfl⟩:=zIy h hr
 have k1:=(zBi h hr).2
 have k2:=(zBi h' (zOb h' hi)).2
 have:=h3 _ (zOb h' hi)
 have Hb:=hc i hi
 unfold comOf at this ⊢
 rw [List.length_take] at this ⊢
 omega
end Scu
namespace Scu
theorem zYb {v:Volume} {o:Op} (h:volFault v=0) (ho:opFault o=0):volFault (doIt v o).1=0:=by
 have hv:volOk v=true:=by
  unfold volFault at h
  split at h
  ·assumption
  simp at h
 have Ha:=opFault_ok ho
 have mk:∀ x:Volume,volOk x=true->volFault x=0:=fun x hx=>by unfold volFault;rw [if_pos hx]
 apply mk
 unfold volOk at hv
 simp only [Bool.and_eq_true,decide_eq_true_eq] at hv
 obtain ⟨⟨h1,h2⟩,h3⟩:=hv
 have hs:=h1
 unfold sectorsOk at h1
 simp only [Bool.and_eq_true,beq_iff_eq,List.all_eq_true,decide_eq_true_eq] at h1
 unfold doIt
 split
 ·unfold volOk sectorsOk
  simp only [Bool.and_eq_true,beq_iff_eq,List.all_eq_true,decide_eq_true_eq,List.length_set]
  refine ⟨⟨⟨h1.1,fun s hs=>?_⟩,h2⟩,?_⟩
  ·rcases List.mem_or_eq_of_mem_set hs with hs | hs
   ·exact h1.2 s hs
   subst hs;omega
  intro x hx
  have:=List.all_eq_true.1 h3 x hx
  unfold sectorsOk at this
  simpa only [Bool.and_eq_true,beq_iff_eq,List.all_eq_true,decide_eq_true_eq] using this
 split
 ·split
  ·unfold volOk;simp only [Bool.and_eq_true,decide_eq_true_eq];exact ⟨⟨hs,h2⟩,h3⟩
  unfold volOk
  simp only [Bool.and_eq_true,decide_eq_true_eq,List.length_append,List.length_singleton,List.all_append,List.all_cons,List.all_nil,Bool.and_true]
  exact ⟨⟨hs,by omega⟩,h3,hs⟩
 split
 ·unfold volOk;simp only [Bool.and_eq_true,decide_eq_true_eq];exact ⟨⟨hs,h2⟩,h3⟩
 split
 ·unfold volOk;simp only [Bool.and_eq_true,decide_eq_true_eq];exact ⟨⟨hs,h2⟩,h3⟩
 unfold volOk;simp only [Bool.and_eq_true,decide_eq_true_eq];exact ⟨⟨hs,h2⟩,h3⟩
theorem lastsOk_iff {l:List Last} : lastsOk l=true↔l.length=4/\∀ x ∈ l,0<=x.num/\x.num<=1048576:=by
 unfold lastsOk
 simp only [Bool.and_eq_true,beq_iff_eq,List.all_eq_true,decide_eq_true_eq]
theorem stateFault_iff {s:State} : stateFault s=0↔lastsOk s.lasts=true/\volFault s.volume=0:=by
 unfold stateFault
 split
 ·rename_i h;exact ⟨fun e=>⟨h,e⟩,fun e=>e.2⟩
 rename_i h;exact ⟨fun e=>by omega,fun e=>absurd e.1 h⟩
theorem zQq {s:State} {r:Request} (h:stateFault s=0) (hr:reqFault r=0):stateFault (applyIt s r)=0:=by
 obtain ⟨h1,h2⟩:=stateFault_iff.1 h
 have hq:=reqFault_ok hr
 unfold applyIt
 split
 ·exact h
 refine stateFault_iff.2 ⟨?_,zYb h2 hq.2.2.2.2⟩
 rw [lastsOk_iff] at h1 ⊢
 refine ⟨by simp [h1.1],fun x hx=>?_⟩
 rcases List.mem_or_eq_of_mem_set hx with hx | hx
 ·exact h1.2 x hx
 subst hx;exact ⟨by show 0<=r.num;omega,by show r.num<=_;omega⟩
theorem zCq {e:Str} (h:(decode e).2=0):reqFault (decode e).1=0:=by
 unfold decode at h ⊢
 by_cases h1:40 < e.size
 ·rw [if_pos h1] at h;simp at h
 rw [if_neg h1] at h ⊢
 by_cases h2:e.size < 4
 ·rw [if_pos h2] at h;simp at h
 rw [if_neg h2] at h ⊢
 generalize readNumber (dropS e 4)=q at h ⊢
 obtain ⟨n,s1,e1⟩:=q
 simp only at h ⊢
 generalize readText s1=p at h ⊢
 obtain ⟨d,s2,e2⟩:=p
 simp only at h ⊢
 by_cases h3:e1≠0
 ·rw [if_pos h3] at h;exact absurd h h3
 rw [if_neg h3] at h ⊢
 by_cases h4:e2≠0
 ·rw [if_pos h4] at h;exact absurd h h4
 rw [if_neg h4] at h ⊢
 by_cases h5:s2≠str0
 ·rw [if_pos h5] at h;simp at h
 rw [if_neg h5] at h ⊢
 generalize (⟨byteAt e 0,n,⟨byteAt e 1,byteAt e 2,byteAt e 3,d⟩⟩:Request)=r at h ⊢
 by_cases h6:reqFault r≠0
 ·rw [if_pos h6] at h;exact absurd h h6
 rw [if_neg h6];exact Classical.byContradiction h6
theorem zOd:stateFault stateNew=0:=by decide
theorem zUc {s:State} {e:Str} (h:stateFault s=0) (he:(decode e).2=0):apply s e=(applyIt s (decode e).1,0):=by
 unfold apply
 rw [if_neg (by omega),if_neg (by omega)]
def AllOk (P:List Str):Prop:=∀ e ∈ P,(decode e).2=0
theorem zIz:∀ (P:List Str) (s:State),stateFault s=0->AllOk P->playFrom s P=(P.foldl (fun s e=>applyIt s (decode e).1) s,0)/\stateFault (P.foldl (fun s e=>applyIt s (decode e).1) s)=0
 | [],s,h,_=>⟨rfl,h⟩
 | e :: P,s,h,hP=>by
   have he:=hP e List.mem_cons_self
   have ha:=zUc h he
   have hn:=zQq h (zCq he)
   obtain ⟨h1,h2⟩:=zIz P (applyIt s (decode e).1) hn fun x hx=>hP x (List.mem_cons_of_mem _ hx)
   refine ⟨?_,h2⟩
   unfold playFrom
   rw [ha]
   simp only [ne_eq,not_true_eq_false,if_false]
   exact h1
def played (P:List Str):State:=P.foldl (fun s e=>applyIt s (decode e).1) stateNew
theorem zHi {P:List Str} (hP:AllOk P):play P=(played P,0)/\stateFault (played P)=0:=zIz P stateNew zOd hP
theorem zGb (P:List Str) (e:Str):played (P ++ [e])=applyIt (played P) (decode e).1:=by unfold played;rw [List.foldl_append];rfl
end Scu
