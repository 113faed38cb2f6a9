/- The tokens of a tree that can be written are read back to the tree. Plain mathematics. -/
import Derived.Test.YtoaojdobjinhfaaGreatDoorBackMC
set_option linter.unusedSimpArgs false
set_option linter.unusedVariables false
namespace Go.Proofs.YtoaojdobjinhfaaGreatDoor
theorem zbZ (x:Ex) (r:List Ex):zfc (x :: r)=(zat x,zae x) :: zfc r:=by
 cases x;simp only [zfc,zae,zat,opE]
theorem zjP {l:List Tok} {i:Nat} {s:List UInt8} (h:(zaa l i).bare=wK s) (u:List UInt8):isS l i u=decide (s=u):=by
 obtain ⟨h1,h2,-⟩:=zcp h;unfold isS;rw [h1,h2];simp
theorem is_nK {l:List Tok} {i:Nat} {n:Int} (h:(zaa l i).bare=nK n) (u:List UInt8):isS l i u=decide (Lib.decDigits n.toNat=u):=by
 obtain ⟨h1,h2,-⟩:=zcp h;unfold isS;rw [h1,h2];simp
theorem Follow.cmp {s:Nat} (h:Follow 3 s):s≠3:=by
 rintro rfl;rcases h with h | h
 ·omega
 ·exact absurd h (by decide)

theorem zjQ {l:List Tok} {E:Nat→Nat→Nat→PR Ex} {i o j k:Nat} {a b:List UInt8} {x y:Ex} (h:isS l i a=true) (ho:o < 200) (hE:E (i+1) (o+1) 1=.ok x j) (hj:isS l j [44]=true) (hE2:E (j+1) (o+1) 1=.ok y k) (hk:isS l k b=true):zad l E i o a b 2=.ok [x,y] (k+1):=by
 unfold zad;rw [zhM h ho];simp only [PR.andThen,zav,if_true,hE,hj,hE2,hk];simp
theorem zgU (n:Int) (h0:1≤n) (h1:n≤10):(zap (kindWords.getD (n - 1).toNat []):Int)=n∧za4 (kindWords.getD (n - 1).toNat [])=true:=by
 obtain ⟨k,rfl⟩:∃ k:Fin 10,n=1+(k.val:Int):=⟨⟨(n - 1).toNat,by omega⟩,by show n=1+((n - 1).toNat:Int);omega⟩;revert k;decide +kernel
theorem zfC {s u:List UInt8}:∀ {l:List (List UInt8)} {k:Nat},zai s l k=0→u ∈ l→s≠u:=by
 intro l
 induction l with
 | nil=>intro k _ hu;cases hu
 | cons x r ih =>
  intro k h hu e;rw [zai] at h;split at h
  ·omega
  ·rename_i hx
   rcases List.mem_cons.1 hu with rfl | hu
   ·exact hx e.symm
   ·exact ih h hu e
theorem zjR {s:List UInt8}:∀ {l:List (List UInt8)} {k:Nat},(∀ u ∈ l,s≠u)→zai s l k=0:=by
 intro l
 induction l with
 | nil=>intro k _;rfl
 | cons x r ih =>
  intro k h;rw [zai,if_neg (fun e=>h x (by simp) e.symm)];exact ih fun u hu=>h u (List.mem_cons_of_mem _ hu)
theorem zk0 {s:List UInt8} (h:zaP s=true):zai s callWords 0=0∧s≠[116,105,99,107]∧s≠[115,101,108,102]:=by
 obtain ⟨-,-,h3⟩:=zbG h;refine ⟨zjR fun u hu=>zfC h3 ?_,zfC h3 (by decide),zfC h3 (by decide)⟩;revert u;decide
theorem zmU (x:Ex):zat x≤6:=by
 unfold zat;by_cases h:10≤opE x∧opE x≤22
 ·have:=zdE h.1 h.2;omega
 ·rw [zhK h];omega
theorem zhO (n:Int):zae (.mk 1 n [] [])=[nK n]:=rfl
theorem zhP (s:List UInt8):zae (.mk 2 0 s [])=[wK s]:=rfl
theorem zgV (n:Int) (a:Ex):zae (.mk 3 n [] [a])=zcF (kindWords.getD (n - 1).toNat []) [91] [93] (zae a):=by
 simp only [zae,zbZ];rfl
theorem zgW (a:Ex):zae (.mk 6 0 [] [a])=zcF [114,97,110,100] [40] [41] (zae a):=by
 simp only [zae,zbZ];rfl
theorem zhQ (a:Ex):zae (.mk 9 0 [] [a])=zcF [97,98,115] [40] [41] (zae a):=by
 simp only [zae,zbZ];rfl
theorem zhR (a:Ex):zae (.mk 7 0 [] [a])=sK [45] :: zbE (zat a,zae a) 6:=by
 simp only [zae,zbZ];rfl
theorem zhS (a:Ex):zae (.mk 8 0 [] [a])=sK [33] :: zbE (zat a,zae a) 6:=by
 simp only [zae,zbZ];rfl
theorem zhT (a b:Ex):zae (.mk 23 0 [] [a,b])=zdt [109,105,110] (zae a) (zae b):=by
 simp only [zae,zbZ];rfl
theorem zhU (a b:Ex):zae (.mk 24 0 [] [a,b])=zdt [109,97,120] (zae a) (zae b):=by
 simp only [zae,zbZ];rfl
theorem zhV {op:Int} (h0:10≤op) (h1:op≤22) (a b:Ex):zae (.mk op 0 [] [a,b])=zbE (zat a,zae a) (zby (zar op))++sK (zaO op) :: zbE (zat b,zae b) (zar op+1):=by
 have:=zdE h0 h1;simp only [zae,zbZ];unfold zhI;rw [if_pos (by omega)];rfl

theorem Back.inside2 {l:List Tok} {d:Nat} {x y:Ex} (h:Back l d x) (h':Back l d y) {i o f:Nat} (hs:Seg l i (sK [40] :: (zae x++sK [44] :: (zae y++[sK [41]])))) (ho:o+2 * d < 200) (hf:l.length+1 - i≤f+1):zad l (zaw l f) i o [40] [41] 2=.ok [x,y] (i+(zae x).length+(zae y).length+3):=by
 obtain ⟨h1,hlt⟩:=hs.at;obtain ⟨h2,h3⟩:=hs.tail.app;obtain ⟨h4,hlt4⟩:=h3.at;obtain ⟨h5,h6⟩:=h3.tail.app;obtain ⟨h7,hlt7⟩:=h6.at;have e1:isS l i [40]=true:=by rw [zcb h1];simp
 have e4:isS l (i+1+(zae x).length) [44]=true:=by rw [zcb h4];simp
 have e7:isS l (i+1+(zae x).length+1+(zae y).length) [41]=true:=by rw [zcb h7];simp
 rw [zjQ e1 (by omega) (h.zero h2 (zfd h4 (by decide)) (by omega) (by omega)) e4 (h'.zero h5 (zfd h7 (by decide)) (by omega) (by omega)) e7];congr 1
 omega
theorem zhW {s:List UInt8} (h:za4 s=true):s≠[45]∧s≠[33]∧s≠[40]:=by
 refine ⟨?_,?_,?_⟩ <;> (rintro rfl;exact absurd h (by decide +kernel))
theorem zjS (n:Nat) (hn:n≤9223372036854775807):Lib.decDigits n≠[45]∧Lib.decDigits n≠[33]:=by
 have h:=(zdW n hn).2.2.2.2;constructor
 ·intro e;rw [e] at h;exact absurd (h 45 (by simp)) (by decide)
 ·intro e;rw [e] at h;exact absurd (h 33 (by simp)) (by decide)
theorem zcW {l:List Tok} {E:Nat→Nat→Nat→PR Ex} {f i o:Nat} {s:List UInt8} (h:(zaa l i).bare=wK s) (hw:za4 s=true):zas l E (f+1) i o=zah l E i o:=by
 obtain ⟨h1,h2,-⟩:=zhW hw;exact zeo (by rw [zjP h];exact decide_eq_false h1) (by rw [zjP h];exact decide_eq_false h2)
theorem zci {l:List Tok} {E:Nat→Nat→Nat→PR Ex} {i o:Nat} {s:List UInt8} (h:(zaa l i).bare=wK s) (hw:za4 s=true):zah l E i o =
  if 0 < zap s then (zad l E (i+1) o [91] [93] 1).map (.mk 3 (zap s) [])
  else if 0 < zai s callWords 0 then (zad l E (i+1) o [40] [41] (if zai s callWords 0≤2 then 1 else 2)).map (.mk (callOps.getD (zai s callWords 0) 0) 0 [])
  else if s=[116,105,99,107] then .ok (.mk 4 0 [] []) (i+1)
  else if s=[115,101,108,102] then .ok (.mk 5 0 [] []) (i+1)
  else if zaP s=false then .err i 120
  else .ok (.mk 2 0 s []) (i+1):=by
 obtain ⟨h1,h2,-⟩:=zcp h;have h3:=(zhW hw).2.2;unfold zah;rw [h1,if_neg (by decide),zjP h,if_neg (by simpa using h3),if_neg (by decide),h2]
theorem zf1 {l:List Tok} {d:Nat} {a:Ex} (h:Back l d a) {w:List UInt8} (hw:za4 w=true) (hk:zap w=0) {k:Nat} (hp:zai w callWords 0=k) (hk1:1≤k) (hk2:k≤2) {op:Int} (hop:callOps.getD k 0=op) (ht:zae (.mk op 0 [] [a])=zcF w [40] [41] (zae a)):zf0 l (d+1) (.mk op 0 [] [a]):=by
 intro i o f hs ho hf;rw [ht] at hs ⊢;obtain ⟨h1,hlt⟩:=hs.at;obtain ⟨g,hg⟩:∃ g,l.length+1 - i=g+1:=⟨l.length - i,by omega⟩;rw [hg,zcW h1 hw,zci h1 hw,if_neg (by omega),hp,if_pos (by omega),if_pos hk2,hop,h.inside hs.tail (by decide) (by omega) (by omega)];show PR.ok _ _=_;congr 1
 simp only [zcF,List.length_cons,List.length_append,List.length_nil];omega
theorem zf2 {l:List Tok} {d:Nat} {a b:Ex} (h:Back l d a) (h':Back l d b) {w:List UInt8} (hw:za4 w=true) (hk:zap w=0) {k:Nat} (hp:zai w callWords 0=k) (hk1:3≤k) {op:Int} (hop:callOps.getD k 0=op) (ht:zae (.mk op 0 [] [a,b])=zdt w (zae a) (zae b)):zf0 l (d+1) (.mk op 0 [] [a,b]):=by
 intro i o f hs ho hf;rw [ht] at hs ⊢;obtain ⟨h1,hlt⟩:=hs.at;obtain ⟨g,hg⟩:∃ g,l.length+1 - i=g+1:=⟨l.length - i,by omega⟩;rw [hg,zcW h1 hw,zci h1 hw,if_neg (by omega),hp,if_pos (by omega),if_neg (by omega),hop,h.inside2 h' hs.tail (by omega) (by omega)];show PR.ok _ _=_;congr 1
 simp only [zdt,List.length_cons,List.length_append,List.length_nil];omega
theorem zhX {l:List Tok} {d:Nat} {a:Ex} (h:Back l d a) {s:List UInt8} {op:Int} (hs0:(s=[45]∧op=7)∨(s=[33]∧op=8)) (ht:zae (.mk op 0 [] [a])=sK s :: zbE (zat a,zae a) 6):zf0 l (d+1) (.mk op 0 [] [a]):=by
 intro i o f hs ho hf;rw [ht] at hs ⊢;obtain ⟨h1,hlt⟩:=hs.at;have hs1:=hs.tail;obtain ⟨g,hg⟩:∃ g,l.length+1 - i=g+1:=⟨l.length - i,by omega⟩;have hg2:l.length+1 - (i+1)=g:=by omega
 have hu:zas l (zaw l f) g (i+1) (o+1)=.ok a (i+1+(zbE (zat a,zae a) 6).length):=by
  rw [zjt] at hs1 ⊢;by_cases hb:zat a < 6
  ·rw [if_pos hb] at hs1 ⊢;obtain ⟨-,hlt1⟩:=hs1.at;obtain ⟨g',rfl⟩:∃ g',g=g'+1:=⟨g - 1,by omega⟩;exact h.paren hs1 (by omega) (by omega)
  ·rw [if_neg hb] at hs1 ⊢;have:=zmU a;have:=h.2 (by omega) (i+1) (o+1) f hs1 (by omega) (by omega);rw [hg2] at this;exact this
 have h0:¬ (isS l i [45]=false∧isS l i [33]=false):=by
  rw [zcb h1,zcb h1];rcases hs0 with ⟨rfl,-⟩ | ⟨rfl,-⟩ <;> decide
 rw [hg,zas,if_neg h0,if_neg (by omega),hu];show PR.ok _ _=_
 have e:(if isS l i [33]=true then (8:Int) else 7)=op:=by
  rw [zcb h1];rcases hs0 with ⟨rfl,rfl⟩ | ⟨rfl,rfl⟩ <;> rfl
 rw [e];congr 1
 simp only [List.length_cons];omega
theorem zeO (l:List Tok):∀ {d:Nat} {x:Ex},Shp d x→Back l d x:=by
 intro d x h
 induction h with
 | @num d n h0 h1 =>
  refine .of_unary fun i o f hs ho hf=>?_
  rw [zhO] at hs ⊢;obtain ⟨k1,hlt⟩:=hs.at;obtain ⟨g,hg⟩:∃ g,l.length+1 - i=g+1:=⟨l.length - i,by omega⟩;have hd:=zjS n.toNat (by omega);rw [hg,zeo (by rw [is_nK k1];exact decide_eq_false hd.1) (by rw [is_nK k1];exact decide_eq_false hd.2)];obtain ⟨e1,-,e3⟩:=zcp k1;unfold zah;rw [if_pos e1,e3]
  rfl
 | @var d name h =>
  refine .of_unary fun i o f hs ho hf=>?_
  rw [zhP] at hs ⊢;obtain ⟨k1,hlt⟩:=hs.at;obtain ⟨g,hg⟩:∃ g,l.length+1 - i=g+1:=⟨l.length - i,by omega⟩;obtain ⟨n1,n2,n3⟩:=zbG h;obtain ⟨c1,c2,c3⟩:=zk0 h;rw [hg,zcW k1 n1,zci k1 n1,if_neg (by omega),if_neg (by omega),if_neg c2,if_neg c3,if_neg (by rw [h];decide)]
  rfl
 | @comp d n a h0 h1 h ih =>
  refine .of_unary fun i o f hs ho hf=>?_
  rw [zgV] at hs ⊢;obtain ⟨k1,hlt⟩:=hs.at;obtain ⟨g,hg⟩:∃ g,l.length+1 - i=g+1:=⟨l.length - i,by omega⟩;obtain ⟨n1,n2⟩:=zgU n h0 h1;rw [hg,zcW k1 n2,zci k1 n2,if_pos (by omega),ih.inside hs.tail (by decide) (by omega) (by omega),n1];show PR.ok _ _=_;congr 1
  simp only [zcF,List.length_cons,List.length_append,List.length_nil]
  omega
 | @leaf d op h =>
  refine .of_unary fun i o f hs ho hf=>?_
  obtain ⟨w,hw,hk,hc,ht,hr⟩:∃ w,za4 w=true∧zap w=0∧zai w callWords 0=0∧zae (.mk op 0 [] [])=[wK w]∧(if w=[116,105,99,107] then PR.ok (Ex.mk 4 0 [] []) (i+1) else if w=[115,101,108,102] then .ok (Ex.mk 5 0 [] []) (i+1) else if zaP w=false then .err i 120 else .ok (Ex.mk 2 0 w []) (i+1))=PR.ok (Ex.mk op 0 [] []) (i+1):=by
   rcases h with rfl | rfl
   ·exact ⟨[116,105,99,107],by decide +kernel,by decide +kernel,by decide +kernel,rfl,rfl⟩
   ·exact ⟨[115,101,108,102],by decide +kernel,by decide +kernel,by decide +kernel,rfl,rfl⟩
  rw [ht] at hs ⊢;obtain ⟨k1,hlt⟩:=hs.at;obtain ⟨g,hg⟩:∃ g,l.length+1 - i=g+1:=⟨l.length - i,by omega⟩;rw [hg,zcW k1 hw,zci k1 hw,if_neg (by omega),if_neg (by omega)]
  exact hr
 | @call d op a ho' h ih =>
  rcases ho' with rfl | rfl
  ·exact .of_unary (zf1 ih (w:=[114,97,110,100]) (by decide +kernel) (by decide +kernel) (k:=1) (by decide +kernel) (by omega) (by omega) (by decide) (zgW a))
  ·exact .of_unary (zf1 ih (w:=[97,98,115]) (by decide +kernel) (by decide +kernel) (k:=2) (by decide +kernel) (by omega) (by omega) (by decide) (zhQ a))
 | @pre d op a ho' h ih =>
  rcases ho' with rfl | rfl
  ·exact .of_unary (zhX ih (.inl ⟨rfl,rfl⟩) (zhR a))
  ·exact .of_unary (zhX ih (.inr ⟨rfl,rfl⟩) (zhS a))
 | @two d op a b ho' ha hb iha ihb =>
  rcases ho' with rfl | rfl
  ·exact .of_unary (zf2 iha ihb (w:=[109,105,110]) (by decide +kernel) (by decide +kernel) (k:=3) (by decide +kernel) (by omega) (by decide) (zhT a b))
  ·exact .of_unary (zf2 iha ihb (w:=[109,97,120]) (by decide +kernel) (by decide +kernel) (k:=4) (by decide +kernel) (by omega) (by decide) (zhU a b))
 | @bin d op a b h0 h1 ha hb iha ihb =>
  obtain ⟨s1,s2,s3,s4⟩:=zdE h0 h1;have hbe:zat (.mk op 0 [] [a,b])=zar op:=rfl;refine ⟨fun i o q f hq hs hF ho hf=>?_,fun h6=>by rw [hbe] at h6;omega⟩;rw [hbe] at hq hF;rw [zhV h0 h1] at hs hF ⊢;obtain ⟨g1,g2⟩:=hs.app;obtain ⟨k1,hlt⟩:=g2.at;have g3:=g2.tail;have hle:=g3.le;have st:=zeN k1;rw [s2] at st;have ra:=iha.part (q:=q) (o:=o) (f:=f) (by have:=zhL (zar op);omega) g1 (by rw [st.2];exact .inr (zr _)) (by omega) hf
  have elen:i+(zbE (zat a,zae a) (zby (zar op))++sK (zaO op) :: zbE (zat b,zae b) (zar op+1)).length=i+(zbE (zat a,zae a) (zby (zar op))).length+1+(zbE (zat b,zae b) (zar op+1)).length:=by
   rw [List.length_append,List.length_cons];omega
  rw [elen] at hF ⊢;have hb3:=ihb.part (q:=zar op+1) (o:=o) (f:=f - 1) (zr _) g3 (hF.mono (by omega)) (by omega) (by omega);obtain ⟨f',rfl⟩:∃ f',f=f'+1:=⟨f - 1,by omega⟩;have eb:=hb3.done (by omega) hle (by have:=hF.lt;omega);rw [Nat.add_sub_cancel] at eb;unfold Reads at ra ⊢;rw [ra]
  generalize (zbE (zat a,zae a) (zby (zar op))).length=na at *
  generalize (zbE (zat b,zae b) (zar op+1)).length=nb at *
  obtain ⟨m,hm⟩:∃ m,l.length+1 - (i+na)=m+1:=⟨l.length - (i+na),by omega⟩;rw [hm,zaD,if_neg (by rw [st.2];omega),st.2,eb]
  have h3:¬ (zar op=3∧zaj l (i+na+1+nb)=3):=by
   rintro ⟨h3,h4⟩;rw [h3] at hF;exact hF.cmp h4
  simp only [PR.andThen];rw [if_neg h3,st.1,s1];exact ze2 (zdc l _) (zc3 l _) _ _ _ _ _ _ (by omega) (zr _) hle
end Go.Proofs.YtoaojdobjinhfaaGreatDoor
