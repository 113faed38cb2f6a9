/- Codes with one depth at each place: how they are put together. Plain mathematics. -/
import Derived.Test.YtdeneckmoejcfaaSoundSZs
set_option linter.unusedSimpArgs false
set_option linter.unusedVariables false
namespace Go.Proofs.Ytdeneckmoejcfaa
def SegOk (c : znA) (f : Nat -> Int) : Prop := ∀ k (h : k < c.length), fitI c[k] (f k) /\ ∀ to ∈ nextsI k c[k], to <= c.length /\ f to = behindI c[k] (f k)
def Typed (c : znA) (D E : Int) : Prop := ∃ f : Nat -> Int, f 0 = D /\ f c.length = E /\ SegOk c f
theorem Typed.flow {c:znA} (h:Typed c 0 0):Flow c:=by
 obtain ⟨f,h0,h1,hs⟩:=h
 have key:∀ k d,ReachI c k d->f k=d/\k<=c.length:=by
  intro k d h
  induction h with
  | start=>exact ⟨h0,by omega⟩
  | step hk _ _ hn ih =>
   obtain ⟨a,b⟩:=(hs _ hk).2 _ hn;rw [ih.1] at b;exact ⟨b,a⟩
 refine ⟨fun k d hk h=>?_,fun k d e h1 h2=>?_,fun d h=>?_⟩
 ·have:=(hs k hk).1;rw [(key k d h).1] at this;exact this
 ·rw [<- (key k d h1).1,<- (key k e h2).1]
 ·have:=(key _ d h).1;omega
theorem takes_shift (m:Int) (i:InsS):takesI (znK m i)=takesI i:=by
 by_cases h:zn5 i=true
 ·rw [zoK h];unfold zn5 at h;rw [yQ] at h;unfold takesI;simp only;rw [yN (by omega),yN (by omega),yN (show ¬ i.op=5 by omega),yN (show ¬ i.op=9 by omega)]
 ·rw [zqU (by simpa using h)]
theorem adds_shift (m:Int) (i:InsS):addsI (znK m i)=addsI i:=by unfold addsI;rw [zrU]
theorem behind_shift (m:Int) (i:InsS) (d:Int):behindI (znK m i) d=behindI i d:=by unfold behindI;rw [takes_shift,adds_shift]
theorem fit_shift (m:Int) (i:InsS) (d:Int):fitI (znK m i) d ↔ fitI i d:=by unfold fitI;rw [takes_shift,behind_shift]
theorem nexts_shift (m k:Nat) (i:InsS) (h:zn5 i=true->0<=i.a):nextsI (k+m) (znK m i)=(nextsI k i).map (· + m):=by
  by_cases hj:zn5 i=true
  · have ha:=h hj
    rw [zoK hj];unfold zn5 at hj;rw [yQ] at hj;unfold nextsI;simp only;by_cases h11:i.op=11
    · rw [yP h11,yP h11];simp;omega
    · rw [yN h11,yN h11,yP (by omega),yP (by omega)];simp;omega
  · rw [zqU (by simpa using hj)]
    have h2:¬ (11<=i.op/\i.op<=13):=by unfold zn5 at hj;simpa using hj
    have h11:¬ i.op=11:=by omega
    have h12:¬ (i.op=12∨i.op=13):=by omega
    unfold nextsI;simp only [yN h11,yN h12];split
    · rfl
    · simp;omega
theorem Typed.nil (D:Int):Typed [] D D:=⟨fun _=>D,rfl,rfl,fun k h=>absurd h (by simp)⟩
theorem Typed.one {i:InsS} {D:Int} (h:fitI i D) (hn:nextsI 0 i=[1]):Typed [i] D (behindI i D):=by
 refine ⟨fun k=>if k=0 then D else behindI i D,rfl,rfl,fun k hk=>?_⟩;obtain rfl:k=0:=by simpa using hk
 refine ⟨h,fun to ht=>?_⟩;rw [show [i][0]=i from rfl,hn] at ht;simp at ht;subst ht;exact ⟨by simp,rfl⟩
theorem Typed.halt {i:InsS} {D E:Int} (h:fitI i D) (hn:nextsI 0 i=[]):Typed [i] D E:=by
 refine ⟨fun k=>if k=0 then D else E,rfl,rfl,fun k hk=>?_⟩;obtain rfl:k=0:=by simpa using hk
 refine ⟨h,fun to ht=>?_⟩;rw [show [i][0]=i from rfl,hn] at ht;simp at ht
theorem shiftC_get {m:Int} {c:znA} {k:Nat} (h:k < (znF m c).length):(znF m c)[k]=znK m (c[k]'(by rw [zn8] at h;exact h)):=by simp [znF]
theorem Typed.join {a b:znA} {D M E:Int} (ha:Typed a D M) (hb:Typed b M E) (jb:jOk b):Typed (znB a b) D E:=by
 obtain ⟨f,f0,f1,hf⟩:=ha;obtain ⟨g,g0,g1,hg⟩:=hb;refine ⟨fun k=>if k<=a.length then f k else g (k - a.length),?_,?_,fun k hk=>?_⟩
 ·simp [f0]
 ·simp only [znT];by_cases hb0:b.length=0
  ·rw [yP (by omega),hb0,Nat.add_zero,f1,<- g1,hb0,g0]
  ·rw [yN (by omega),Nat.add_sub_cancel_left,g1]
 ·rw [znT] at hk;by_cases hka:k < a.length
  ·have e:(znB a b)[k]'(by rw [znT];exact hk)=a[k]:=by unfold znB;rw [List.getElem_append_left hka]
   rw [e];dsimp only;rw [yP (by omega)];obtain ⟨p,q⟩:=hf k hka;refine ⟨p,fun to ht=>?_⟩;obtain ⟨q1,q2⟩:=q to ht;exact ⟨by rw [znT];omega,by rw [yP q1];exact q2⟩
  ·obtain ⟨j,rfl⟩:∃ j,k=j+a.length:=⟨k - a.length,by omega⟩;have hj:j < b.length:=by omega
   have e:(znB a b)[j+a.length]'(by rw [znT];exact hk)=znK a.length b[j]:=by
    unfold znB;rw [List.getElem_append_right (by omega),shiftC_get];congr 2
    omega
   have ev:∀ j',(if j'+a.length<=a.length then f (j'+a.length) else g (j'+a.length - a.length))=g j':=by
    intro j';by_cases h0:j'=0
    ·subst h0;rw [yP (by omega),Nat.zero_add,f1,g0]
    ·rw [yN (by omega),Nat.add_sub_cancel]
   rw [e];dsimp only;rw [ev];obtain ⟨p,q⟩:=hg j hj;refine ⟨(fit_shift _ _ _).2 p,fun to ht=>?_⟩;rw [nexts_shift _ _ _ (fun h=>(jb _ (List.getElem_mem hj) h).1)] at ht;obtain ⟨t,ht1,rfl⟩:=List.mem_map.1 ht;obtain ⟨q1,q2⟩:=q t ht1;exact ⟨by rw [znT];omega,by rw [ev,behind_shift];exact q2⟩
theorem typed_jump {i:InsS} {b r:znA} {D M N:Int} {fr:Nat->Int} {E:Int} (hi:fitI i D) (hbD:behindI i D=M) (hb:Typed b M N) (jb:jOk b)
  (hn:∀ to ∈ nextsI 0 i,to=1∨(b.length+1<=to/\to<=b.length+1+r.length/\fr (to - (b.length+1))=M)) (h0:fr 0=N) (hE:fr r.length=E)
  (hr:∀ k (h:k < r.length),fitI r[k] (fr k)/\∀ to ∈ nextsI (k+(b.length+1)) r[k],(to=0/\D=behindI r[k] (fr k))∨(b.length+1<=to/\to<=b.length+1+r.length/\fr (to - (b.length+1))=behindI r[k] (fr k))) :
  Typed (i :: (znF 1 b++r)) D E:=by
 obtain ⟨g,g0,g1,hg⟩:=hb;have hlen:(i :: (znF 1 b++r)).length=b.length+1+r.length:=by simp [zn8];omega
 refine ⟨fun k=>if k=0 then D else if k<=b.length then g (k - 1) else fr (k - (b.length+1)),rfl,?_,fun k hk=>?_⟩
 ·rw [hlen];dsimp only;rw [yN (by omega),yN (by omega),Nat.add_sub_cancel_left,hE]
 ·have hat:∀ j,b.length+1<=j->(if j=0 then D else if j<=b.length then g (j - 1) else fr (j - (b.length+1)))=fr (j - (b.length+1)):=fun j hj=>by rw [yN (by omega),yN (by omega)]
  have hag:∀ j,j<=b.length->(if j+1=0 then D else if j+1<=b.length then g (j+1 - 1) else fr (j+1 - (b.length+1)))=g j:=fun j hj=>by
   rw [yN (by omega)];by_cases h1:j+1<=b.length
   ·rw [yP h1,Nat.add_sub_cancel]
   ·rw [yN h1,show j+1 - (b.length+1)=0 from by omega,h0,<- g1];congr 1;omega
  cases k with
  | zero =>
   refine ⟨hi,fun to ht=>?_⟩;rcases hn to ht with rfl | ⟨a1,a2,a3⟩
   ·refine ⟨by rw [hlen];omega,?_⟩;have:=hag 0 (by omega);simp only at this ⊢;rw [this,g0];exact hbD.symm
   ·refine ⟨by rw [hlen];omega,?_⟩;simp only
    rw [hat to a1,a3];exact hbD.symm
  | succ j =>
   by_cases hj:j < b.length
   ·have e:(i :: (znF 1 b++r))[j+1]'hk=znK (1:Nat) b[j]:=by
     rw [List.getElem_cons_succ,List.getElem_append_left (by rw [zn8];exact hj),shiftC_get];rfl
    simp only;rw [e,hag j (by omega)];obtain ⟨p,q⟩:=hg j hj;refine ⟨(fit_shift _ _ _).2 p,fun to ht=>?_⟩;rw [nexts_shift _ _ _ (fun h=>(jb _ (List.getElem_mem hj) h).1)] at ht;obtain ⟨t,ht1,rfl⟩:=List.mem_map.1 ht;obtain ⟨q1,q2⟩:=q t ht1;exact ⟨by rw [hlen];omega,by rw [hag t q1,behind_shift];exact q2⟩
   ·obtain ⟨m,rfl⟩:∃ m,j=m+b.length:=⟨j - b.length,by omega⟩;have hm:m < r.length:=by rw [hlen] at hk;omega
    have e:(i :: (znF 1 b++r))[m+b.length+1]'hk=r[m]:=by
     rw [List.getElem_cons_succ,List.getElem_append_right (by rw [zn8];omega)];congr 1
     rw [zn8];omega
    simp only;rw [e,hat _ (by omega),show m+b.length+1 - (b.length+1)=m from by omega];obtain ⟨p,q⟩:=hr m hm;refine ⟨p,fun to ht=>?_⟩;rw [show m+b.length+1=m+(b.length+1) from by omega] at ht;rcases q to ht with ⟨rfl,a2⟩ | ⟨a1,a2,a3⟩
    ·exact ⟨by omega,a2⟩
    ·exact ⟨by rw [hlen];exact a2,by rw [hat to a1];exact a3⟩
theorem fit_of {i:InsS} {D t a:Int} (ht:takesI i=t) (ha:addsI i=a) (h1:t<=D) (h2:D - t+a<=64):fitI i D:=by
 unfold fitI behindI;rw [ht,ha];exact ⟨h1,h2⟩
theorem Typed.plain {i:InsS} {D E t a:Int} (ht:takesI i=t) (ha:addsI i=a) (hn:nextsI 0 i=[1]) (h1:t<=D) (h2:D - t+a<=64) (hE:E=D - t+a):Typed [i] D E:=by
 have h:=Typed.one (fit_of ht ha h1 h2) hn;unfold behindI at h;rw [ht,ha] at h;rw [hE];exact h
theorem typed_lazy {a b:znA} {op D:Int} (hop:op=21∨op=22) (hD:0<=D) (hD2:D+1<=64) (ha:Typed a D (D+1)) (hb:Typed b D (D+1)) (jb:jOk b):Typed (zo0 a b op) D (D+1):=by
 unfold zo0;have hj:zn5 ⟨12+op - 21,(b.length:Int)+3⟩=true:=by unfold zn5;rw [yQ];show 11<=12+op - 21/\12+op - 21<=13;omega
 have ht:takesI ⟨12+op - 21,(b.length:Int)+3⟩=1:=by
  rcases hop with rfl | rfl <;> rfl
 have hadd:addsI ⟨12+op - 21,(b.length:Int)+3⟩=0:=by
  rcases hop with rfl | rfl <;> rfl
 have hnx:nextsI 0 ⟨12+op - 21,(b.length:Int)+3⟩=[1,b.length+3]:=by
  have h1:((b.length:Int)+3).toNat=b.length+3:=by omega
  rcases hop with rfl | rfl
  ·show [0+1,((b.length:Int)+3).toNat]=_;rw [h1]
  ·show [0+1,((b.length:Int)+3).toNat]=_;rw [h1]
 refine ha.join ?_ ?_
 ·refine typed_jump (i:=⟨12+op - 21,(b.length:Int)+3⟩) (r:=[⟨10,0⟩,⟨11,(b.length:Int)+4⟩,⟨1,op - 21⟩]) (D:=D+1) (M:=D) (N:=D+1) (fr:=fun k=>if k=2 then D else D+1) (E:=D+1) (fit_of ht hadd (by omega) (by omega)) (by unfold behindI;rw [ht,hadd];omega) hb jb ?_ rfl rfl ?_
  ·intro to h;rw [hnx] at h;simp at h;rcases h with rfl | rfl
   ·exact .inl rfl
   ·refine .inr ⟨by omega,by simp <;> omega,?_⟩;rw [show b.length+3 - (b.length+1)=2 from by omega];rfl
  ·intro k hk;have hk3:k=0∨k=1∨k=2:=by simp at hk;omega
   rcases hk3 with rfl | rfl | rfl
   ·refine ⟨fit_of (t:=1) (a:=1) rfl rfl (by show 1<=D+1;omega) (by show D+1 - 1+1<=64;omega),fun to h=>.inr ?_⟩;have h':to ∈ [0+(b.length+1)+1]:=h;simp at h';subst h';refine ⟨by omega,by simp <;> omega,?_⟩;rw [show b.length+1+1 - (b.length+1)=1 from by omega];show D+1=D+1 - 1+1;omega
   ·refine ⟨fit_of (t:=0) (a:=0) rfl rfl (by show 0<=D+1;omega) (by show D+1 - 0+0<=64;omega),fun to h=>.inr ?_⟩;have h':to ∈ [((b.length:Int)+4).toNat]:=h;rw [show ((b.length:Int)+4).toNat=b.length+4 from by omega] at h';simp at h';subst h';refine ⟨by omega,by simp <;> omega,?_⟩;rw [show b.length+4 - (b.length+1)=3 from by omega];show D+1=D+1 - 0+0;omega
   ·refine ⟨fit_of (t:=0) (a:=1) rfl rfl (by show 0<=D;omega) (by show D - 0+1<=64;omega),fun to h=>.inr ?_⟩;have h':to ∈ [2+(b.length+1)+1]:=h;simp at h';subst h';refine ⟨by omega,by simp <;> omega,?_⟩;rw [show 2+(b.length+1)+1 - (b.length+1)=3 from by omega];show D+1=D - 0+1;omega
 ·intro i hi hji;simp only [yB,yA,zn8,yL];rcases List.mem_cons.1 hi with rfl | hi
  ·show 0<=(b.length:Int)+3/\(b.length:Int)+3<=_;omega
  ·rcases List.mem_append.1 hi with hi | hi
   ·exact zqh (k:=1) jb (by omega) i hi hji
   ·simp only [List.mem_cons,List.not_mem_nil,or_false] at hi;rcases hi with rfl | rfl | rfl
    ·cases hji
    ·show 0<=(b.length:Int)+4/\(b.length:Int)+4<=_;omega
    ·cases hji
theorem typed_over {b r:znA} {n:Int} {fr:Nat->Int} {E:Int} (hb:Typed b 0 0) (jb:jOk b) (hn:n=(b.length+1+r.length:Nat)) (h0:fr 0=0) (hE:fr r.length=E) (hE0:E=0)
  (hr:∀ k (h:k < r.length),fitI r[k] (fr k)/\∀ to ∈ nextsI (k+(b.length+1)) r[k],b.length+1<=to/\to<=b.length+1+r.length/\fr (to - (b.length+1))=behindI r[k] (fr k)) :
  Typed (⟨12,n⟩ :: (znF 1 b++r)) 1 0:=by
 subst hn hE0;refine typed_jump (i:=⟨12,_⟩) (D:=1) (M:=0) (N:=0) (fr:=fr) (E:=0) (fit_of (t:=1) (a:=0) rfl rfl (by omega) (by omega)) rfl hb jb ?_ h0 hE (fun k hk=>⟨(hr k hk).1,fun to ht=>.inr ((hr k hk).2 to ht)⟩);intro to ht;have h':to ∈ [0+1,(((b.length+1+r.length:Nat):Int)).toNat]:=ht;rw [Int.toNat_natCast] at h';simp at h';rcases h' with rfl | rfl
 ·exact .inl rfl
 ·refine .inr ⟨by omega,by omega,?_⟩;rw [Nat.add_sub_cancel_left];exact hE
theorem joinC_shift (o:znA) (i:InsS) (b r:znA) (h:zn5 i=true):znB o (i :: (znF 1 b++r))=o++(⟨i.op,i.a+o.length⟩ :: (znF (o.length+1) b++znF o.length r)):=by
 unfold znB;congr 1
 show znK _ i :: List.map _ _=_;rw [zoK h];congr 1
 show znF o.length (znF 1 b++r)=_;rw [zpp,zpj _ _ (o.length+1) (by omega)]
theorem typed_if {o b:znA} (ho:Typed o 0 1) (hb:Typed b 0 0) (jb:jOk b):Typed (ifC o b [] false) 0 0:=by
 have e:ifC o b [] false=znB o (⟨12,b.length+1⟩ :: (znF 1 b++[])):=by
  unfold ifC;rw [yN (by decide),zo1,joinC_shift _ _ _ _ rfl];congr 2
  ·congr 1;dsimp only;omega
  ·simp [znF]
 rw [e];refine ho.join (typed_over (r:=[]) (fr:=fun _=>0) hb jb (by simp) rfl rfl rfl (fun k hk=>absurd hk (by simp))) ?_;intro i hi hji;rw [List.append_nil] at hi;simp only [yB,yA,zn8,yL];rcases List.mem_cons.1 hi with rfl | hi
 ·show 0<=(b.length:Int)+1/\(b.length:Int)+1<=_;omega
 ·exact zqh (k:=1) jb (by omega) i hi hji
theorem typed_else {o b e:znA} (ho:Typed o 0 1) (hb:Typed b 0 0) (jb:jOk b) (he:Typed e 0 0) (je:jOk e):Typed (ifC o b e true) 0 0:=by
 have eq:ifC o b e true=znB o (⟨12,b.length+2⟩ :: (znF 1 b++(⟨11,b.length+2+e.length⟩ :: znF (b.length+2) e))):=by
  unfold ifC;rw [yP rfl,joinC_shift _ _ _ _ rfl]
  conv=>lhs;rw [znB]
  have hl:((o++((⟨12,(o.length:Int)+1+b.length+1⟩:InsS) :: (znF (o.length+1) b++[(⟨11,(o.length:Int)+1+b.length+1+e.length⟩:InsS)]))).length:Int)=o.length+b.length+2:=by simp [zn8];omega
  rw [hl,List.append_assoc,List.cons_append,List.append_assoc];congr 2
  ·congr 1;dsimp only;omega
  ·congr 1
   show (⟨11,_⟩:InsS) :: znF _ e=znK _ (⟨11,_⟩:InsS) :: znF o.length (znF (b.length+2) e);rw [zoK rfl,zpj (b.length+2) o.length (o.length+b.length+2) (by omega)];congr 2
   dsimp only;omega
 rw [eq];obtain ⟨g,g0,g1,hg⟩:=he;refine ho.join (typed_jump (i:=⟨12,b.length+2⟩) (r:=⟨11,b.length+2+e.length⟩ :: znF (b.length+2) e) (D:=1) (M:=0) (N:=0) (fr:=fun k=>if k=0 then 0 else g (k - 1)) (E:=0) (fit_of (t:=1) (a:=0) rfl rfl (by omega) (by omega)) rfl hb jb ?_ rfl ?_ ?_) ?_
 ·intro to ht;have h':to ∈ [0+1,((b.length:Int)+2).toNat]:=ht;rw [show ((b.length:Int)+2).toNat=b.length+2 from by omega] at h';simp at h';rcases h' with rfl | rfl
  ·exact .inl rfl
  ·refine .inr ⟨by omega,by simp [zn8] <;> omega,?_⟩;rw [show b.length+2 - (b.length+1)=1 from by omega];exact g0
 ·show (if (znF (b.length+2) e).length+1=0 then (0:Int) else g ((znF (b.length+2) e).length+1 - 1))=0;rw [yN (by omega),Nat.add_sub_cancel,zn8,g1]
 ·intro k hk
  cases k with
  | zero =>
   refine ⟨fit_of (t:=0) (a:=0) rfl rfl (by show (0:Int)<=0;omega) (by show (0:Int) - 0+0<=64;omega),fun to ht=>.inr ?_⟩;have h':to ∈ [((b.length:Int)+2+e.length).toNat]:=ht;rw [show ((b.length:Int)+2+e.length).toNat=b.length+2+e.length from by omega] at h';simp at h';subst h';refine ⟨by omega,by simp [zn8];omega,?_⟩;rw [yN (by omega),show b.length+2+e.length - (b.length+1) - 1=e.length from by omega,g1]
   rfl
  | succ j =>
   have hj:j < e.length:=by simpa [zn8] using hk
   have e1:((⟨11,b.length+2+e.length⟩:InsS) :: znF (b.length+2) e)[j+1]'hk=znK ((b.length+2:Nat):Int) e[j]:=by
    rw [List.getElem_cons_succ,shiftC_get];rfl
   rw [e1,yN (by omega),Nat.add_sub_cancel];obtain ⟨p,q⟩:=hg j hj;refine ⟨(fit_shift _ _ _).2 p,fun to ht=>.inr ?_⟩;rw [show j+1+(b.length+1)=j+(b.length+2) from by omega,nexts_shift _ _ _ (fun h=>(je _ (List.getElem_mem hj) h).1)] at ht;obtain ⟨t,ht1,rfl⟩:=List.mem_map.1 ht;obtain ⟨q1,q2⟩:=q t ht1;refine ⟨by omega,by simp [zn8];omega,?_⟩;rw [yN (by omega),show t+(b.length+2) - (b.length+1) - 1=t from by omega,behind_shift];exact q2
 ·intro i hi hji;simp only [yB,yA,zn8];rcases List.mem_cons.1 hi with rfl | hi
  ·show 0<=(b.length:Int)+2/\(b.length:Int)+2<=_;omega
  ·rcases List.mem_append.1 hi with hi | hi
   ·exact zqh (k:=1) jb (by omega) i hi hji
   ·rcases List.mem_cons.1 hi with rfl | hi
    ·show 0<=(b.length:Int)+2+e.length/\(b.length:Int)+2+e.length<=_;omega
    ·exact zqh (k:=b.length+2) je (by omega) i hi hji
theorem typed_while {o b:znA} (ho:Typed o 0 1) (hb:Typed b 0 0) (jb:jOk b):Typed (zpC o b) 0 0:=by
 obtain ⟨f,f0,f1,hf⟩:=ho;obtain ⟨g,g0,g1,hg⟩:=hb;have hlen:=whileC_len o b;unfold zpC at hlen ⊢;refine ⟨fun k=>if k<=o.length then f k else if k<=o.length+1+b.length then g (k - (o.length+1)) else 0,by simp [f0],?_,fun k hk=>?_⟩
 ·rw [hlen];dsimp only;rw [yN (by omega),yN (by omega)]
 ·have hat:∀ t,t<=b.length->(if t+(o.length+1)<=o.length then f (t+(o.length+1)) else if t+(o.length+1)<=o.length+1+b.length then g (t+(o.length+1) - (o.length+1)) else 0)=g t:=fun t ht=>by
   rw [yN (by omega),yP (by omega),Nat.add_sub_cancel]
  by_cases h1:k < o.length
  ·have e:(o++(⟨12,(o.length:Int)+1+b.length+1⟩ :: (znF (o.length+1) b++[⟨11,0⟩])))[k]'hk=o[k]:=by rw [List.getElem_append_left h1]
   rw [e];dsimp only;rw [yP (by omega)];obtain ⟨p,q⟩:=hf k h1;refine ⟨p,fun to ht=>?_⟩;obtain ⟨q1,q2⟩:=q to ht;exact ⟨by omega,by rw [yP q1];exact q2⟩
  ·by_cases h2:k=o.length
   ·subst h2;have e:(o++(⟨12,(o.length:Int)+1+b.length+1⟩ :: (znF (o.length+1) b++[⟨11,0⟩])))[o.length]'hk=⟨12,(o.length:Int)+1+b.length+1⟩:=by rw [List.getElem_append_right (by omega)];simp
    rw [e];dsimp only;rw [yP (by omega),f1];refine ⟨fit_of (t:=1) (a:=0) rfl rfl (by omega) (by omega),fun to ht=>?_⟩;have h':to ∈ [o.length+1,((o.length:Int)+1+b.length+1).toNat]:=ht;rw [show ((o.length:Int)+1+b.length+1).toNat=o.length+1+b.length+1 from by omega] at h';simp at h';rcases h' with rfl | rfl
    ·refine ⟨by omega,?_⟩;have:=hat 0 (by omega);rw [Nat.zero_add] at this;rw [this,g0];rfl
    ·refine ⟨by omega,?_⟩;rw [yN (by omega),yN (by omega)];rfl
   ·obtain ⟨j,rfl⟩:∃ j,k=j+(o.length+1):=⟨k - (o.length+1),by omega⟩;by_cases h3:j < b.length
    ·have e:(o++(⟨12,(o.length:Int)+1+b.length+1⟩ :: (znF (o.length+1) b++[⟨11,0⟩])))[j+(o.length+1)]'hk=znK ((o.length+1:Nat):Int) b[j]:=by
      rw [List.getElem_append_right (by omega)];simp only [show j+(o.length+1) - o.length=j+1 from by omega];rw [List.getElem_cons_succ,List.getElem_append_left (by rw [zn8];exact h3),shiftC_get];rfl
     rw [e];dsimp only;rw [hat j (by omega)];obtain ⟨p,q⟩:=hg j h3;refine ⟨(fit_shift _ _ _).2 p,fun to ht=>?_⟩;rw [nexts_shift _ _ _ (fun h=>(jb _ (List.getElem_mem h3) h).1)] at ht;obtain ⟨t,ht1,rfl⟩:=List.mem_map.1 ht;obtain ⟨q1,q2⟩:=q t ht1;exact ⟨by omega,by rw [hat t q1,behind_shift];exact q2⟩
    ·obtain rfl:j=b.length:=by omega
     have e:(o++(⟨12,(o.length:Int)+1+b.length+1⟩ :: (znF (o.length+1) b++[⟨11,0⟩])))[b.length+(o.length+1)]'hk=⟨11,0⟩:=by
      rw [List.getElem_append_right (by omega)];simp only [show b.length+(o.length+1) - o.length=b.length+1 from by omega];rw [List.getElem_cons_succ,List.getElem_append_right (by rw [zn8];omega)];simp [zn8]
     rw [e];dsimp only;rw [hat b.length (by omega),g1];refine ⟨fit_of (t:=0) (a:=0) rfl rfl (by omega) (by omega),fun to ht=>?_⟩;have h':to ∈ [0]:=ht;simp at h';subst h';exact ⟨by omega,by rw [yP (by omega),f0];rfl⟩
theorem Typed.last {c:znA} {D M E:Int} (h:Typed c D M) {i:InsS} {t a:Int} (ht:takesI i=t) (ha:addsI i=a) (hn:nextsI 0 i=[1]) (h1:t<=M) (h2:M - t+a<=64) (hE:E=M - t+a) (hj:zn5 i=false):Typed (znB c [i]) D E:=
 h.join (Typed.plain ht ha hn h1 h2 hE) (zo3 hj)
theorem do_takes (op:Int):takesI ⟨9,op⟩=if 10<=op then 2 else 1:=rfl
theorem typedEs (d:Nat) (ns:znU) (ih:∀ (x:Ex) (c:znA),zbd d x=true->znV ns x=.ok c->∀ D:Int,0<=D->D+d<=64->Typed c D (D+1)) :
  ∀ (xs:List Ex) (cs:List znA),(∀ x ∈ xs,zbd d x=true)->znG ns xs=.ok cs->∀ D:Int,0<=D->D+d+xs.length<=65->Typed (znJ cs) D (D+xs.length):=by
 intro xs
 induction xs with
 | nil =>
  intro cs _ h D _ _;rw [znG] at h;cases h;simp only [yL,Int.natCast_zero,Int.add_zero]
  exact Typed.nil D
 | cons x r ihr =>
  intro cs hf h D hD hd;rw [znG] at h;obtain ⟨c,h1,h2⟩:=CR.andThen_ok h;obtain ⟨cs',h3,h4⟩:=CR.andThen_ok h2;cases h4;rw [zqT];simp only [yB] at hd ⊢;have a:=ih x c (hf x (by simp)) h1 D hD (by omega);have b:=ihr cs' (fun y hy=>hf y (by simp [hy])) h3 (D+1) (by omega) (by omega);rw [show D+((r.length+1:Nat):Int)=D+1+r.length from by omega];exact a.join b (joinAll_ok (zpA ns r cs' h3).1).1
theorem typedE:∀ (d:Nat) (ns:znU) (x:Ex) (c:znA),zbd d x=true->znV ns x=.ok c->∀ D:Int,0<=D->D+d<=64->Typed c D (D+1):=by
 intro d
 induction d with
 | zero=>intro ns x c h;cases h
 | succ d ih =>
  intro ns x c h hc D hD hd;obtain ⟨op,n,name,args⟩:=x;rw [zbd,yC,List.all_eq_true] at h;obtain ⟨hh,hall⟩:=h
  have hl:args.length=zb9 op/\1<=op/\op<=24:=by
   unfold zbN at hh;rw [yC,yC,yQ,yQ] at hh;exact ⟨hh.2.1,hh.1⟩
  by_cases h1:op=1
  ·subst h1;rw [znV,yP rfl] at hc;cases hc;exact Typed.plain (t:=0) (a:=1) rfl rfl rfl (by omega) (by omega) (by omega)
  by_cases h2:op=2
  ·subst h2;rw [znV,yN h1,yP rfl] at hc;split at hc
   ·cases hc
   ·cases hc;exact Typed.plain (t:=0) (a:=1) rfl rfl rfl (by omega) (by omega) (by omega)
  by_cases h4:op=4
  ·subst h4;rw [znV,yN h1,yN h2,yP rfl] at hc;cases hc;exact Typed.plain (t:=0) (a:=1) rfl rfl rfl (by omega) (by omega) (by omega)
  by_cases h5:op=5
  ·subst h5;rw [znV,yN h1,yN h2,yN h4,yP rfl] at hc;cases hc;exact Typed.plain (t:=0) (a:=1) rfl rfl rfl (by omega) (by omega) (by omega)
  by_cases h21:op=21∨op=22
  ·have hm:zb9 op=2:=by unfold zb9;rw [yN (by omega)]
   match args,hl.1,hall,hc with
   | [a,b],_,hall,hc =>
    rw [zsh _ _ _ _ _ _ h21] at hc;obtain ⟨ca,e1,h3⟩:=CR.andThen_ok hc;obtain ⟨cb,e2,h6⟩:=CR.andThen_ok h3;cases h6
    exact typed_lazy h21 hD (by omega) (ih ns a ca (hall a (by simp)) e1 D hD (by omega)) (ih ns b cb (hall b (by simp)) e2 D hD (by omega)) (zsA ns b cb e2).1
   | [],e,_,_=>rw [hm] at e;cases e
   | [_],e,_,_=>rw [hm] at e;cases e
   | _ :: _ :: _ :: _,e,_,_=>rw [hm] at e;simp at e
  have hmany:args.length=1/\op < 10∨(args.length=2/\10<=op/\op≠21/\op≠22/\op≠3/\op≠6):=by
   rw [hl.1];unfold zb9;by_cases h10:op < 10
   ·rw [yP h10,yN (by omega)];exact .inl ⟨rfl,h10⟩
   ·rw [yN h10];exact .inr ⟨rfl,by omega⟩
  rw [zsi ns op n name args ⟨h1,h2,h4,h5⟩ (by omega)] at hc;obtain ⟨cs,e1,h3⟩:=CR.andThen_ok hc;cases h3;have hs:=typedEs d ns (ih ns) args cs hall e1 D hD (by omega);rcases hmany with ⟨hm,h10⟩ | ⟨hm,h10,-,-,h3,h6⟩
  ·rw [hm] at hs;by_cases h3:op=3
   ·rw [yP h3];exact hs.last (t:=1) (a:=1) rfl rfl rfl (by omega) (by omega) (by omega) rfl
   ·rw [yN h3];by_cases h6:op=6
    ·rw [yP h6];exact hs.last (t:=1) (a:=1) rfl rfl rfl (by omega) (by omega) (by omega) rfl
    ·rw [yN h6];exact hs.last (t:=1) (a:=1) (by rw [do_takes,yN (by omega)]) rfl rfl (by omega) (by omega) (by omega) rfl
  ·rw [hm] at hs;rw [yN h3,yN h6];exact hs.last (t:=2) (a:=1) (by rw [do_takes,yP h10]) rfl rfl (by omega) (by omega) (by omega) rfl
theorem typedT (d:Nat) (ih:∀ (ns:znU) (l:List St) (r:znA × Nat),zaJ d l=true->znQ ns l=.ok r->Typed r.1 0 0) (ns:znU) (op n:Int) (name:List UInt8) (es:List Ex) (body els:List St) (r:znA × Nat) (h:zh2 d (.mk op n name es body els)=true) (hc:zon ns (.mk op n name es body els)=.ok r):Typed r.1 0 0:=by
 unfold zh2 at h;simp only [yC] at h;obtain ⟨⟨hb,hl⟩,hh,hes⟩:=h;obtain ⟨hop,hle,hlb,hll⟩:=zpT hh;rw [zon] at hc;obtain ⟨cs,e1,h2⟩:=CR.andThen_ok hc
 have hs:es.length<=2->Typed (znJ cs) 0 es.length:=fun hl2=>by
  have:=typedEs 40 ns (typedE 40 ns) es cs (List.all_eq_true.1 hes) e1 0 (by omega) (by omega);rw [Int.zero_add] at this;exact this
 have h7:op=1∨op=2∨op=3∨op=4∨op=5∨op=6∨op=7:=by omega
 rcases h7 with rfl | rfl | rfl | rfl | rfl | rfl | rfl
 ·have hs1:=hs (by rw [hle];decide);rw [hle] at hs1;rw [yP rfl] at h2;split at h2
  ·cases h2
  ·split at h2
   ·cases h2
   ·cases h2;exact Typed.last hs1 (t:=1) (a:=0) rfl rfl rfl (by decide) (by decide) (by decide) rfl
 ·have hs1:=hs (by rw [hle];decide);rw [hle] at hs1;rw [yN (by decide),yP rfl] at h2;split at h2
  ·cases h2
  ·cases h2;exact Typed.last hs1 (t:=1) (a:=0) rfl rfl rfl (by decide) (by decide) (by decide) rfl
 ·have hs1:=hs (by rw [hle];decide);rw [hle] at hs1;rw [yN (by decide),yN (by decide),yP rfl] at h2;cases h2;exact Typed.last hs1 (t:=2) (a:=0) rfl rfl rfl (by decide) (by decide) (by decide) rfl
 ·have hs1:=hs (by rw [hle];decide);rw [hle] at hs1;rw [yN (by decide),yN (by decide),yN (by decide),yN (by decide),yN (by decide)] at h2;obtain ⟨b,e2,h3⟩:=CR.andThen_ok h2;rw [yN (by decide)] at h3;obtain ⟨o,e3,h4⟩:=CR.andThen_ok h3;cases h4;have tb:=ih ns body b hb e2;have jb:=(codeL_ok ns body b e2).1;by_cases hel:els=[]
  ·have ho:o.1=[]:=by rw [hel,znQ] at e3;cases e3;rfl
   show Typed (ifC (znJ cs) b.1 o.1 (decide (els≠[]))) 0 0;rw [ho,show decide (els≠[])=false from by simp [hel]];exact typed_if hs1 tb jb
  ·show Typed (ifC (znJ cs) b.1 o.1 (decide (els≠[]))) 0 0;rw [decide_eq_true hel];exact typed_else hs1 tb jb (ih ns els o hl e3) (codeL_ok ns els o e3).1
 ·have hs1:=hs (by rw [hle];decide);rw [hle] at hs1;rw [yN (by decide),yN (by decide),yN (by decide),yN (by decide),yN (by decide)] at h2;obtain ⟨b,e2,h3⟩:=CR.andThen_ok h2;rw [yP rfl] at h3;cases h3;exact typed_while hs1 (ih ns body b hb e2) (codeL_ok ns body b e2).1
 ·rw [yN (by decide),yN (by decide),yN (by decide),yP rfl] at h2;cases h2;exact Typed.halt (fit_of (t:=0) (a:=0) rfl rfl (by decide) (by decide)) rfl
 ·rw [yN (by decide),yN (by decide),yN (by decide),yN (by decide),yP rfl] at h2;cases h2;exact Typed.halt (fit_of (t:=0) (a:=0) rfl rfl (by decide) (by decide)) rfl
theorem typedL:∀ (d:Nat) (ns:znU) (l:List St) (r:znA × Nat),zaJ d l=true->znQ ns l=.ok r->Typed r.1 0 0:=by
 intro d
 induction d with
 | zero =>
  intro ns l r h hc
  have:l=[]:=by
   cases l with
   | nil=>rfl
   | cons x r=>cases h
  subst this;rw [znQ] at hc;cases hc
  exact Typed.nil 0
 | succ d ih =>
  intro ns l
  induction l generalizing ns with
  | nil=>intro r _ hc;rw [znQ] at hc;cases hc;exact Typed.nil 0
  | cons x l ihl =>
   intro r h hc;rw [zfn,List.all_cons,yC] at h;obtain ⟨op,n,name,es,body,els⟩:=x;rw [znQ] at hc;obtain ⟨c,e1,h2⟩:=CR.andThen_ok hc;obtain ⟨c',e2,h4⟩:=CR.andThen_ok h2;cases h4;exact (typedT d ih ns op n name es body els c h.1 e1).join (ihl _ c' (by rw [zfn];exact h.2) e2) (codeL_ok _ _ _ e2).1
def RightC (c : znA) (L : Int) : Prop := ∀ i ∈ c, zn5 i = false -> ∀ n, rightI n L i
theorem RightC.app {a b:znA} {L:Int} (ha:RightC a L) (hb:RightC b L):RightC (a++b) L:=fun i hi=>by
 rcases List.mem_append.1 hi with h | h
 ·exact ha i h
 ·exact hb i h
theorem RightC.shift {c:znA} {L:Int} (h:RightC c L) (m:Int):RightC (znF m c) L:=by
 intro i hi hj;unfold znF at hi;obtain ⟨x,hx,rfl⟩:=List.mem_map.1 hi;rw [zpO] at hj;rw [zqU hj];exact h x hx hj
theorem RightC.join {a b:znA} {L:Int} (ha:RightC a L) (hb:RightC b L):RightC (znB a b) L:=ha.app (hb.shift _)
theorem RightC.one {i:InsS} {L:Int} (h:zn5 i=false->∀ n,rightI n L i):RightC [i] L:=fun x hx hj=>by
 rw [List.mem_singleton] at hx;subst hx;exact h hj
theorem RightC.cons {i:InsS} {c:znA} {L:Int} (h:zn5 i=false->∀ n,rightI n L i) (hc:RightC c L):RightC (i :: c) L:=(RightC.one h).app hc
theorem RightC.nil (L:Int):RightC [] L:=fun i hi=>by simp at hi
theorem RightC.lazy {a b:znA} {op L:Int} (hop:op=21∨op=22) (ha:RightC a L) (hb:RightC b L):RightC (zo0 a b op) L:=by
 unfold zo0;refine ha.join (RightC.cons (fun hj=>?_) ((hb.shift 1).app (RightC.cons (fun _ n=>?_) (RightC.cons (fun hj=>by cases hj) (RightC.one fun _ n=>?_)))))
 ·rcases hop with rfl | rfl <;> cases hj
 ·exact ⟨by simp,rfl⟩
 ·exact trivial
theorem RightC.while {o b:znA} {L:Int} (ho:RightC o L) (hb:RightC b L):RightC (zpC o b) L:=
 ho.app (RightC.cons (fun hj=>by cases hj) ((hb.shift _).app (RightC.one fun hj=>by cases hj)))
theorem RightC.if {o b e:znA} {el:Bool} {L:Int} (ho:RightC o L) (hb:RightC b L) (he:RightC e L):RightC (ifC o b e el) L:=by
 unfold ifC;split
 ·exact (ho.app (RightC.cons (fun hj=>by cases hj) ((hb.shift _).app (RightC.one fun hj=>by cases hj)))).join he
 ·exact (ho.app (RightC.cons (fun hj=>by cases hj) (hb.shift _))).join he
theorem RightC.all {cs:List znA} {L:Int} (h:∀ c ∈ cs,RightC c L):RightC (znJ cs) L:=by
 induction cs with
 | nil=>exact RightC.nil L
 | cons c r ih=>rw [zqT];exact (h c (by simp)).join (ih fun x hx=>h x (by simp [hx]))
theorem place_len (s:List UInt8):∀ (l:znU) (k:Nat),zai s l k<=k+l.length:=by
 intro l
 induction l with
 | nil=>intro k;simp [zai]
 | cons x l ih =>
  intro k;unfold zai;split
  ·simp
  ·have:=ih (k+1);simp only [yB];omega
theorem right_slot {op:Int} (hop:op=2∨op=3) {a L:Int} (h0:0<=a) (h1:a < L) (n:Int):rightI n L ⟨op,a⟩:=by
 unfold rightI;rw [yN (by show ¬ op=1;omega),yP hop];exact ⟨h0,h1⟩
theorem right_comp {op:Int} (hop:op=4∨op=5) {a L:Int} (h:1<=a/\a<=10) (n:Int):rightI n L ⟨op,a⟩:=by
 unfold rightI;rw [yN (by show ¬ op=1;omega),yN (by show ¬ (op=2∨op=3);omega),yP hop];exact h
theorem rightEs (L:Int) (ns:znU) (p:Ex->Bool) (ih:∀ (x:Ex) (c:znA),p x=true->znV ns x=.ok c->RightC c L):∀ (xs:List Ex) (cs:List znA),(∀ x ∈ xs,p x=true)->znG ns xs=.ok cs->∀ c ∈ cs,RightC c L:=by
 intro xs
 induction xs with
 | nil=>intro cs _ h;rw [znG] at h;cases h;simp
 | cons x r ihr =>
  intro cs hf h;rw [znG] at h;obtain ⟨c,h1,h2⟩:=CR.andThen_ok h;obtain ⟨cs',h3,h4⟩:=CR.andThen_ok h2;cases h4;intro y hy;rcases List.mem_cons.1 hy with rfl | hy
  ·exact ih x y (hf x (by simp)) h1
  ·exact ihr cs' (fun z hz=>hf z (by simp [hz])) h3 y hy
theorem rightE (L:Int) (ns:znU) (hL:(ns.length:Int)<=L):∀ (d:Nat) (x:Ex) (c:znA),zbd d x=true->znV ns x=.ok c->RightC c L:=by
 intro d
 induction d with
 | zero=>intro x c h;cases h
 | succ d ih =>
  intro x c h hc;obtain ⟨op,n,name,args⟩:=x;rw [zbd,yC,List.all_eq_true] at h;obtain ⟨hh,hall⟩:=h
  have hl:args.length=zb9 op/\1<=op/\op<=24:=by
   unfold zbN at hh;rw [yC,yC,yQ,yQ] at hh;exact ⟨hh.2.1,hh.1⟩
  by_cases h1:op=1
  ·subst h1;rw [znV,yP rfl] at hc;cases hc;exact RightC.one fun _ n=>trivial
  by_cases h2:op=2
  ·subst h2;rw [znV,yN h1,yP rfl] at hc;split at hc
   ·cases hc
   ·cases hc;have:=place_len name ns 0;exact RightC.one fun _ n=>right_slot (.inl rfl) (by omega) (by omega) n
  by_cases h4:op=4
  ·subst h4;rw [znV,yN h1,yN h2,yP rfl] at hc;cases hc;exact RightC.one fun _ n=>⟨by simp,rfl⟩
  by_cases h5:op=5
  ·subst h5;rw [znV,yN h1,yN h2,yN h4,yP rfl] at hc;cases hc;exact RightC.one fun _ n=>⟨by simp,rfl⟩
  by_cases h21:op=21∨op=22
  ·have hm:zb9 op=2:=by unfold zb9;rw [yN (by omega)]
   match args,hl.1,hall,hc with
   | [a,b],_,hall,hc =>
    rw [zsh _ _ _ _ _ _ h21] at hc;obtain ⟨ca,e1,h3⟩:=CR.andThen_ok hc;obtain ⟨cb,e2,h6⟩:=CR.andThen_ok h3;cases h6
    exact RightC.lazy h21 (ih a ca (hall a (by simp)) e1) (ih b cb (hall b (by simp)) e2)
   | [],e,_,_=>rw [hm] at e;cases e
   | [_],e,_,_=>rw [hm] at e;cases e
   | _ :: _ :: _ :: _,e,_,_=>rw [hm] at e;simp at e
  have hmany:args.length=1∨(args.length=2/\op≠21/\op≠22/\op≠3/\op≠6):=by
   rw [hl.1];unfold zb9;by_cases h10:op < 10
   ·rw [yP h10,yN (by omega)];exact .inl rfl
   ·rw [yN h10];exact .inr ⟨rfl,by omega⟩
  rw [zsi ns op n name args ⟨h1,h2,h4,h5⟩ hmany] at hc;obtain ⟨cs,e1,h3⟩:=CR.andThen_ok hc;cases h3;have hs:=RightC.all (rightEs L ns (zbd d) ih args cs hall e1);by_cases h3:op=3
  ·subst h3;rw [yP rfl];rw [zmY,yC,yC,yQ,yQ,yQ] at hh;exact hs.join (RightC.one fun _ m=>right_comp (.inl rfl) hh.2.2 m)
  ·rw [yN h3];by_cases h6:op=6
   ·rw [yP h6];exact hs.join (RightC.one fun _ m=>⟨by simp,rfl⟩)
   ·rw [yN h6];refine hs.join (RightC.one fun _ m=>?_);show (7<=op/\op<=20)∨(23<=op/\op<=24);omega
def LocOk (ns : znU) (r : znA × Nat) : Prop := (ns.length <= 32 -> r.2 <= 32) /\ ∀ L : Int, (r.2 : Int) <= L -> (ns.length : Int) <= L -> RightC r.1 L
theorem locT (d:Nat) (ih:∀ (ns:znU) (l:List St) (r:znA × Nat),zaJ d l=true->znQ ns l=.ok r->LocOk ns r) (ns:znU) (op n:Int) (name:List UInt8) (es:List Ex) (body els:List St) (r:znA × Nat) (h:zh2 d (.mk op n name es body els)=true) (hc:zon ns (.mk op n name es body els)=.ok r) :
  (ns.length<=32->r.2<=32)/\(op=1->ns.length < 32)/\∀ L:Int,(r.2:Int)<=L->((ns.length+if op=1 then 1 else 0:Nat):Int)<=L->RightC r.1 L:=by
 unfold zh2 at h;simp only [yC] at h;obtain ⟨⟨hb,hl⟩,hh,hes⟩:=h;obtain ⟨hop,hle,hlb,hll⟩:=zpT hh;rw [zon] at hc;obtain ⟨cs,e1,h2⟩:=CR.andThen_ok hc;have hs:∀ L:Int,(ns.length:Int)<=L->RightC (znJ cs) L:=fun L hL=>RightC.all (rightEs L ns (zbd 40) (rightE L ns hL 40) es cs (List.all_eq_true.1 hes) e1)
 have h7:op=1∨op=2∨op=3∨op=4∨op=5∨op=6∨op=7:=by omega
 rcases h7 with rfl | rfl | rfl | rfl | rfl | rfl | rfl
 ·rw [yP rfl] at h2;split at h2
  ·cases h2
  ·split at h2
   ·cases h2
   ·cases h2;refine ⟨fun _=>by simp,fun _=>by omega,fun L _ hL=>?_⟩;rw [yP rfl] at hL;exact (hs L (by omega)).join (RightC.one fun _ m=>right_slot (.inr rfl) (by omega) (by omega) m)
 ·rw [yN (by decide),yP rfl] at h2;split at h2
  ·cases h2
  ·cases h2;refine ⟨fun _=>by simp,fun e=>by omega,fun L _ hL=>?_⟩;rw [yN (by decide),Nat.add_zero] at hL;have:=place_len name ns 0;exact (hs L hL).join (RightC.one fun _ m=>right_slot (.inr rfl) (by omega) (by omega) m)
 ·rw [yN (by decide),yN (by decide),yP rfl] at h2;cases h2;rw [zfo _ _ _ _ _ _ rfl] at hh;simp only [yC,yQ] at hh;refine ⟨fun _=>by simp,fun e=>by omega,fun L _ hL=>?_⟩;rw [yN (by decide),Nat.add_zero] at hL;exact (hs L hL).join (RightC.one fun _ m=>right_comp (.inr rfl) hh.2.2.1 m)
 ·rw [yN (by decide),yN (by decide),yN (by decide),yN (by decide),yN (by decide)] at h2;obtain ⟨b,e2,h3⟩:=CR.andThen_ok h2;rw [yN (by decide)] at h3;obtain ⟨o,e3,h4⟩:=CR.andThen_ok h3;cases h4;obtain ⟨b1,b2⟩:=ih ns body b hb e2;obtain ⟨o1,o2⟩:=ih ns els o hl e3;refine ⟨fun h=>by have:=b1 h;have:=o1 h;show max b.2 o.2<=32;omega,fun e=>by omega,fun L hm hL=>?_⟩;rw [yN (by decide),Nat.add_zero] at hL;have hm':((max b.2 o.2:Nat):Int)<=L:=hm;exact RightC.if (hs L hL) (b2 L (by omega) hL) (o2 L (by omega) hL)
 ·rw [yN (by decide),yN (by decide),yN (by decide),yN (by decide),yN (by decide)] at h2;obtain ⟨b,e2,h3⟩:=CR.andThen_ok h2;rw [yP rfl] at h3;cases h3;obtain ⟨b1,b2⟩:=ih ns body b hb e2;refine ⟨b1,fun e=>by omega,fun L hm hL=>?_⟩;rw [yN (by decide),Nat.add_zero] at hL;exact RightC.while (hs L hL) (b2 L hm hL)
 ·rw [yN (by decide),yN (by decide),yN (by decide),yP rfl] at h2;cases h2;exact ⟨fun _=>by simp,fun e=>by omega,fun L _ hL=>RightC.one fun _ m=>⟨by simp,rfl⟩⟩
 ·rw [yN (by decide),yN (by decide),yN (by decide),yN (by decide),yP rfl] at h2;cases h2;exact ⟨fun _=>by simp,fun e=>by omega,fun L _ hL=>RightC.one fun _ m=>⟨by simp,rfl⟩⟩
theorem locL:∀ (d:Nat) (ns:znU) (l:List St) (r:znA × Nat),zaJ d l=true->znQ ns l=.ok r->LocOk ns r:=by
 intro d
 induction d with
 | zero =>
  intro ns l r h hc
  have:l=[]:=by
   cases l with
   | nil=>rfl
   | cons x r=>cases h
  subst this;rw [znQ] at hc;cases hc
  exact ⟨id,fun L _ _=>RightC.nil L⟩
 | succ d ih =>
  intro ns l
  induction l generalizing ns with
  | nil=>intro r _ hc;rw [znQ] at hc;cases hc;exact ⟨id,fun L _ _=>RightC.nil L⟩
  | cons x l ihl =>
   intro r h hc;rw [zfn,List.all_cons,yC] at h;obtain ⟨op,n,name,es,body,els⟩:=x;rw [znQ] at hc;obtain ⟨c,e1,h2⟩:=CR.andThen_ok hc;obtain ⟨c',e2,h4⟩:=CR.andThen_ok h2;cases h4;obtain ⟨t1,t2,t3⟩:=locT d ih ns op n name es body els c h.1 e1;obtain ⟨l1,l2⟩:=ihl _ c' (by rw [zfn];exact h.2) e2;have hg:=zoV _ _ _ e2;have hlen:(if op=1 then ns++[name] else ns).length=ns.length+if op=1 then 1 else 0:=by split <;> simp
   rw [hlen] at hg l1;refine ⟨fun h32=>?_,fun L hm hL=>?_⟩
   ·have a:=t1 h32
    have b:c'.2<=32:=l1 (by
     by_cases e:op=1
     ·rw [yP e];have:=t2 e;omega
     ·rw [yN e];omega)
    show max c.2 c'.2<=32;omega
   ·have hm':((max c.2 c'.2:Nat):Int)<=L:=hm;exact (t3 L (by omega) (by omega)).join (l2 L (by omega) (by rw [hlen];omega))
theorem comp_sound {l:List St} {p:ProgS} (h:zol l=.ok p):SoundP p:=by
 unfold zol at h;split at h
 ·rename_i hr
  obtain ⟨r,h1,h2⟩:=CR.andThen_ok h;split at h2
  ·cases h2
  ·cases h2;obtain ⟨l1,l2⟩:=locL 40 [] l r hr h1;have hj:=(codeL_ok [] l r h1).1;have hl:=l1 (by simp);refine ⟨⟨by show r.1.length<=4000;omega,⟨by show (0:Int)<=(r.2:Int);omega,by show (r.2:Int)<=32;omega⟩,fun i hi=>?_,rfl,rfl⟩,(typedL 40 [] l r hr h1).flow⟩;by_cases hjb:zn5 i=true
   ·have ha:=hj i hi hjb;unfold zn5 at hjb;rw [yQ] at hjb;unfold rightI;rw [yN (by omega),yN (by omega),yN (by omega),yN (by omega),yP hjb];exact ha
   ·exact l2 (r.2:Int) (Int.le_refl _) (by simp) i hi (by simpa using hjb) _
 ·cases h
structure Cnt (c : znA) (n : Nat) (r w : BitVec 32) : Prop where
  len : c.length = n
  reads : znW 4 c = r
  writes : znW 5 c = w
theorem Cnt.of {c:znA} {n n':Nat} {r r' w w':BitVec 32} (h:Cnt c n r w) (h1:n=n') (h2:r=r') (h3:w=w'):Cnt c n' r' w':=by subst h1;subst h2;subst h3;exact h
theorem Cnt.nil:Cnt [] 0 0 0:=⟨rfl,rfl,rfl⟩
theorem Cnt.join {a b:znA} {n m:Nat} {r r' w w':BitVec 32} (h:Cnt a n r w) (g:Cnt b m r' w'):Cnt (znB a b) (n+m) (r ||| r') (w ||| w'):=
 ⟨by rw [znT,h.len,g.len],by rw [maskC_join 4 (.inl rfl),h.reads,g.reads],by rw [maskC_join 5 (.inr rfl),h.writes,g.writes]⟩
theorem Cnt.app {a b:znA} {n m:Nat} {r r' w w':BitVec 32} (h:Cnt a n r w) (g:Cnt b m r' w'):Cnt (a++b) (n+m) (r ||| r') (w ||| w'):=
 ⟨by rw [yA,h.len,g.len],by rw [maskC_app,h.reads,g.reads],by rw [maskC_app,h.writes,g.writes]⟩
theorem Cnt.shift {a:znA} {n:Nat} {r w:BitVec 32} (h:Cnt a n r w) (k:Int):Cnt (znF k a) n r w:=
 ⟨by rw [zn8,h.len],by rw [maskC_shift 4 (.inl rfl),h.reads],by rw [maskC_shift 5 (.inr rfl),h.writes]⟩
theorem Cnt.cons {a:znA} {n:Nat} {r w:BitVec 32} (h:Cnt a n r w) (i:InsS) (h4:i.op≠4) (h5:i.op≠5):Cnt (i :: a) (n+1) r w:=by
 refine ⟨by rw [yB,h.len],?_,?_⟩
 ·show zqy 4 i ||| znW 4 a=_;rw [zqy,yN (by omega),h.reads];exact BitVec.zero_or
 ·show zqy 5 i ||| znW 5 a=_;rw [zqy,yN (by omega),h.writes];exact BitVec.zero_or
theorem Cnt.one (i:InsS) (h4:i.op≠4) (h5:i.op≠5):Cnt [i] 1 0 0:=Cnt.nil.cons i h4 h5
theorem Cnt.put {n:Int} (h:1<=n/\n<=10):Cnt [⟨5,n⟩] 1 0 (zoB n.toNat):=by
 refine ⟨rfl,?_,?_⟩
 ·show zqy 4 ⟨5,n⟩ ||| 0=_;rw [zqy,yN (by simp)];exact BitVec.or_zero
 ·show zqy 5 ⟨5,n⟩ ||| 0=_;rw [zqy,yP ⟨rfl,by show 1<=n;omega,by show n<=31;omega⟩];exact BitVec.or_zero
def DD (ds : List Int) (k : Nat) : Int := ds.getD k (-1)
def cntN (ds : List Int) : Nat := ds.countP fun x => decide (x < 0)
structure RInv (c : znA) (ds : List Int) : Prop where
  len : ds.length = c.length + 1
  zero : DD ds 0 = 0
  reach : ∀ k, 0 <= DD ds k -> ReachI c k (DD ds k)
  low : ∀ x ∈ ds, -1 <= x /\ x <= 64
theorem DD_at {ds:List Int} {k:Nat} (h:k < ds.length):ds[k]? = some (DD ds k):=by
 unfold DD;rw [List.getD_eq_getElem?_getD,yD h];rfl
theorem RInv.bound {c:znA} {ds:List Int} (h:RInv c ds) (k:Nat) : -1<=DD ds k/\DD ds k<=64:=by
 by_cases hk:k < ds.length
 ·have:=DD_at hk;exact h.low _ (List.mem_of_getElem? this)
 ·unfold DD;rw [List.getD_eq_getElem?_getD,List.getElem?_eq_none (by omega)];exact ⟨by decide,by decide⟩
theorem DD_set_ne {ds:List Int} {k to:Nat} {x:Int} (h:to≠k):DD (ds.set to x) k=DD ds k:=by
 unfold DD;rw [List.getD_eq_getElem?_getD,List.getD_eq_getElem?_getD,List.getElem?_set_ne h]
theorem DD_set_eq {ds:List Int} {to:Nat} {x:Int} (h:to < ds.length):DD (ds.set to x) to=x:=by
 unfold DD;rw [List.getD_eq_getElem?_getD,List.getElem?_set_self h];rfl
theorem cntN_set:∀ (ds:List Int) (to:Nat) (x:Int),to < ds.length->DD ds to < 0->0<=x->cntN (ds.set to x)+1=cntN ds:=by
 intro ds
 induction ds with
 | nil=>intro to x h;simp at h
 | cons y r ih =>
  intro to x h hn hx
  cases to with
  | zero =>
   have hy:y < 0:=hn;unfold cntN
   rw [zs2,List.countP_cons,List.countP_cons,yN (by simp;omega),yP (by simp;omega)]
  | succ to =>
   have h1:=ih to x (by simpa using h) (by simpa [DD] using hn) hx;unfold cntN at h1 ⊢;rw [zs3,List.countP_cons,List.countP_cons];omega
theorem RInv.step {c:znA} {ds:List Int} (h:RInv c ds) {k to:Nat} (hk:k < c.length) (hd:0<=DD ds k) (hf:fitI c[k] (DD ds k)) (ht:to ∈ nextsI k c[k]) (hto:to<=c.length) (hn:DD ds to < 0) :
  RInv c (ds.set to (behindI c[k] (DD ds k))):=by
 have hl:=h.len;have hp:=behind_pos hf;refine ⟨by rw [List.length_set];exact hl,?_,?_,?_⟩
 ·have:to≠0:=fun e=>by rw [e,h.zero] at hn;omega
  rw [DD_set_ne this];exact h.zero
 ·intro j hj;by_cases e:to=j
  ·subst e;rw [DD_set_eq (by omega)];exact ReachI.step hk (h.reach k hd) hf ht
  ·rw [DD_set_ne e] at hj ⊢;exact h.reach j hj
 ·intro x hx;rcases List.mem_or_eq_of_mem_set hx with hx | rfl
  ·exact h.low x hx
  ·have:=hf.2;omega
theorem RInv.nofit {c:znA} {ds:List Int} (h:RInv c ds) {k:Nat} (hk:k < c.length) (hd:0<=DD ds k) (hf:¬ fitI c[k] (DD ds k)):¬ Flow c:=fun hF=>hf (hF.fit k _ hk (h.reach k hd))
theorem RInv.clash {c:znA} {ds:List Int} (h:RInv c ds) {k to:Nat} (hk:k < c.length) (hd:0<=DD ds k) (hf:fitI c[k] (DD ds k)) (ht:to ∈ nextsI k c[k]) (hn:0<=DD ds to) (hne:DD ds to≠behindI c[k] (DD ds k)):¬ Flow c:=
 fun hF=>hne (hF.one to _ _ (h.reach to hn) (ReachI.step hk (h.reach k hd) hf ht))
def RMid (c : znA) (ds0 ds : List Int) (more : Bool) (i : Nat) : Prop := (more = false -> ds = ds0 /\ ∀ j, j < i -> Closed c (DD ds) j) /\ (more = true -> cntN ds < cntN ds0)
theorem RMid.start (c:znA) (ds:List Int):RMid c ds ds false 0:=⟨fun _=>⟨rfl,fun j hj=>by omega⟩,fun h=>by cases h⟩
theorem RMid.skip {c:znA} {ds0 ds:List Int} {more:Bool} {i:Nat} (h:RMid c ds0 ds more i) (hn:DD ds i < 0):RMid c ds0 ds more (i+1):=
 ⟨fun hm=>⟨(h.1 hm).1,fun j hj=>by
  by_cases e:j=i
  ·subst e;intro _ h0;omega
  ·exact (h.1 hm).2 j (by omega)⟩,h.2⟩
theorem RMid.next {c:znA} {ds0 ds:List Int} {more:Bool} {i:Nat} (h:RMid c ds0 ds more i) (hc:Closed c (DD ds) i):RMid c ds0 ds more (i+1):=
 ⟨fun hm=>⟨(h.1 hm).1,fun j hj=>by
  by_cases e:j=i
  ·subst e;exact hc
  ·exact (h.1 hm).2 j (by omega)⟩,h.2⟩
theorem RMid.le {c:znA} {ds0 ds:List Int} {more:Bool} {i:Nat} (h:RMid c ds0 ds more i):cntN ds<=cntN ds0:=by
 cases more with
 | true=>exact Nat.le_of_lt (h.2 rfl)
 | false=>rw [(h.1 rfl).1];exact zr _
theorem RMid.set {c:znA} {ds0 ds ds':List Int} {more:Bool} {i j:Nat} (h:RMid c ds0 ds more i) (hc:cntN ds'+1=cntN ds):RMid c ds0 ds' true j:=
 ⟨fun e=>(by cases e),fun _=>by have:=h.le;omega⟩
theorem RMid.more {c:znA} {ds0 ds:List Int} {i j:Nat} (h:RMid c ds0 ds true i):RMid c ds0 ds true j:=⟨fun e=>(by cases e),fun _=>h.2 rfl⟩
theorem RInv.done {c:znA} {ds:List Int} (h:RInv c ds) (hc:∀ j,j < c.length->Closed c (DD ds) j):Flow c ↔ DD ds c.length<=0:=
 flow_closed h.zero (fun h0=>h.reach _ h0) (fun k=>by
  by_cases hk:k < c.length
  ·exact hc k hk
  ·intro h1;exact absurd h1 hk)
def startN (n : Nat) : List Int := 0 :: List.replicate n (-1)
theorem RInv.start (c:znA):RInv c (startN c.length):=by
 have hs:∀ k,DD (startN c.length) (k+1) = -1:=by
  intro k;unfold DD startN;rw [List.getD_eq_getElem?_getD,List.getElem?_cons_succ,List.getElem?_replicate];split <;> rfl
 refine ⟨by simp [startN],rfl,?_,?_⟩
 ·intro k hk
  cases k with
  | zero=>exact ReachI.start
  | succ k=>rw [hs k] at hk;omega
 ·intro x hx;unfold startN at hx;rcases List.mem_cons.1 hx with rfl | hx
  ·exact ⟨by decide,by decide⟩
  ·rw [List.eq_of_mem_replicate hx];exact ⟨by decide,by decide⟩
end Go.Proofs.Ytdeneckmoejcfaa
