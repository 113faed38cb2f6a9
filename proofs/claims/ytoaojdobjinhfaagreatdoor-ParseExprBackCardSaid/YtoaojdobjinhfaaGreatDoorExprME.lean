/- The text of an expression is parsed to it, also in two pairs of parentheses, as abs's argument and at both sides of a sign. Plain mathematics. -/
import Derived.Test.YtoaojdobjinhfaaGreatDoorBackSE
set_option linter.unusedSimpArgs false
set_option linter.unusedVariables false
namespace Go.Proofs.YtoaojdobjinhfaaGreatDoor
theorem zf5 {x:Ex} {d:Nat} (h:Shp d x) (hd:d≤90) (hlen:(zab x).length≤16384):zbT (zab x)=.ok x:=by
 refine zed ((zff h).1 [] rfl) hlen fun l hs h4=>?_
 have e0:0+(zae x).length=(zae x).length:=Nat.zero_add _;have:=zjT (zeO l h) (i:=0) (o:=0) hs (by rw [e0];exact zdw h4) (by omega);rw [this,e0]
theorem zl7 {x:Ex} {d:Nat} (h:Shp d x) (hd:d≤80) (hlen:(zab x).length≤16000):zbT ([97,98,115]++[40]++zab x++[41])=.ok (.mk 9 0 [] [x]):=by
 rw [← zcN];exact zf5 (Shp.call (.inr rfl) h) (by omega) (by rw [zcN];simp;omega)
theorem zf6 {l:List Tok} {d:Nat} {x:Ex} (h:Back l d x) {i o q f:Nat} (hs:Seg l i (sK [40] :: (zae x++[sK [41]]))) (h0:zaj l (i+(zae x).length+2) < q∨zaj l (i+(zae x).length+2)=0) (ho:o+2 * d < 200) (hf:l.length+1 - i≤f):zaw l f i o q=.ok x (i+(zae x).length+2):=by
 obtain ⟨-,hlt⟩:=hs.at;have hle:=hs.le;have el:i+(sK [40] :: (zae x++[sK [41]])).length=i+(zae x).length+2:=by simp only [List.length_cons,List.length_append,List.length_nil];omega
 rw [el] at hle;obtain ⟨g,rfl⟩:∃ g,f=g+1:=⟨f - 1,by omega⟩;obtain ⟨n,hn⟩:∃ n,l.length+1 - i=n+1:=⟨l.length - i,by omega⟩;have hr:Reads l (zaw l g) o i q x (i+(zae x).length+2):=Reads.of_unary (by rw [hn,h.paren hs ho hf,el]);exact hr.done hf hle h0
theorem ziS {x:Ex} {d:Nat} (h:Shp d x) (hd:d≤80) (hlen:(zab x).length≤16000):zbT ([40]++([40]++(zab x++([41]++[41]))))=.ok x:=by
 have e5:Lx [41] [sK [41]] []:=zdV 41 [] (by decide);have e4:Lx [41] [sK [41]] ([41]++[]):=zdV 41 _ (by decide);have e3:Lx (zab x) (zae x) (([41]++[41])++[]):=(zff h).1 _ rfl;have e2:Lx [40] [sK [40]] ((zab x++([41]++[41]))++[]):=zdV 40 _ (by decide);have e1:Lx [40] [sK [40]] (([40]++(zab x++([41]++[41])))++[]):=zdV 40 _ (by decide);have hl:=Lx.app e1 (Lx.app e2 (Lx.app e3 (Lx.app e4 e5)));refine zed hl (by simp;omega) fun l hs h4=>?_
 have hB:=zeO l h;have ek:([sK [40]]++([sK [40]]++(zae x++([sK [41]]++[sK [41]])))).length=(zae x).length+4:=by simp
 rw [ek] at h4 ⊢;have hle:=hs.le;rw [ek] at hle;have hs':Seg l 0 (sK [40] :: ((sK [40] :: (zae x++[sK [41]]))++[sK [41]])):=by simpa using hs
 obtain ⟨h1,hlt⟩:=hs'.at;obtain ⟨h2,h3⟩:=hs'.tail.app;obtain ⟨h5,hlt5⟩:=h3.at;have el:0+1+(sK [40] :: (zae x++[sK [41]])).length=(zae x).length+3:=by simp only [List.length_cons,List.length_append,List.length_nil];omega
 rw [el] at h5;have e3':0+1+(zae x).length+2=(zae x).length+3:=by omega
 have hE:zaw l l.length (0+1) (0+1) 1=.ok x ((zae x).length+3):=by
  have:=zf6 hB (i:=0+1) (o:=0+1) (q:=1) (f:=l.length) h2 (by rw [e3'];exact .inr (zfd h5 (by decide))) (by omega) (by omega);rw [this,e3']
 have hop:zah l (zaw l l.length) 0 0=.ok x ((zae x).length+4):=zeK h1 (zfZ (by rw [zcb h1];simp) (by omega) hE (by rw [zcb h5];simp));have hr:Reads l (zaw l l.length) 0 0 1 x ((zae x).length+4):=Reads.of_unary (by rw [show l.length+1 - 0=l.length+1 from rfl,zeo (by rw [zcb h1];decide) (by rw [zcb h1];decide),hop]);exact hr.done (by omega) (by omega) (.inr (zdw h4))
theorem zl8 {x:Ex} {d:Nat} (h:Shp d x) (hd:d≤80) (hlen:(zab x).length≤8000):zbT ([40]++(zab x++([41]++([32]++(([42]++[32])++([40]++(zab x++[41])))))))=.ok (.mk 10 0 [] [x,x]):=by
 have a1:Lx [41] [sK [41]] []:=zdV 41 [] (by decide);have a2:Lx (zab x) (zae x) ([41]++[]):=(zff h).1 _ rfl;have a3:Lx [40] [sK [40]] ((zab x++[41])++[]):=zdV 40 _ (by decide);have a4:Lx ([42]++[32]) [sK [42]] (([40]++(zab x++[41]))++[]):=lx_sp (s:=[42]) (.inl rfl) (zjz (op:=10) (by omega) (by omega) _);have a5:Lx [32] [] ((([42]++[32])++([40]++(zab x++[41])))++[]):=Lx.blank (.inl rfl) _;have a6:Lx [41] [sK [41]] (([32]++(([42]++[32])++([40]++(zab x++[41]))))++[]):=zdV 41 _ (by decide);have a7:Lx (zab x) (zae x) (([41]++([32]++(([42]++[32])++([40]++(zab x++[41])))))++[]):=(zff h).1 _ rfl;have a8:Lx [40] [sK [40]] ((zab x++([41]++([32]++(([42]++[32])++([40]++(zab x++[41]))))))++[]):=zdV 40 _ (by decide);have hl:=Lx.app a8 (Lx.app a7 (Lx.app a6 (Lx.app a5 (Lx.app a4 (Lx.app a3 (Lx.app a2 a1))))));refine zed hl (by simp;omega) fun l hs h4=>?_
 have hB:=zeO l h;have ek:([sK [40]]++(zae x++([sK [41]]++([]++([sK [42]]++([sK [40]]++(zae x++[sK [41]]))))))).length=(zae x).length+(zae x).length+5:=by simp;omega
 rw [ek] at h4 ⊢;have hle:=hs.le;rw [ek] at hle;have hs':Seg l 0 ((sK [40] :: (zae x++[sK [41]]))++sK [42] :: (sK [40] :: (zae x++[sK [41]]))):=by simpa using hs
 obtain ⟨h2,h3⟩:=hs'.app;obtain ⟨h5,hlt5⟩:=h3.at;have h6:=h3.tail;have el:0+(sK [40] :: (zae x++[sK [41]])).length=(zae x).length+2:=by simp only [List.length_cons,List.length_append,List.length_nil];omega
 rw [el] at h5 hlt5 h6
 have hu:zas l (zaw l l.length) (l.length+1) 0 0=.ok x ((zae x).length+2):=by
  rw [hB.paren h2 (by omega) (by omega),el]
 have st:=zeN h5;have e6:(zae x).length+2+1+(zae x).length+2=(zae x).length+(zae x).length+5:=by omega
 have h0:=zdw h4
 have hE:zaw l l.length ((zae x).length+2+1) 0 6=.ok x ((zae x).length+(zae x).length+5):=by
  have:=zf6 hB (i:=(zae x).length+2+1) (o:=0) (q:=6) (f:=l.length) h6 (by rw [e6];exact .inr h0) (by omega) (by omega);rw [this,e6]
 have s1:za3 l ((zae x).length+2)=1:=by rw [st.1];decide
 have s2:zaj l ((zae x).length+2)=5:=by rw [st.2];decide
 show (zas l (zaw l l.length) (l.length+1) 0 0).andThen (fun x j=>zaD l (zaw l l.length) (l.length+1 - j) x j 0 1)=_;rw [hu];show zaD l (zaw l l.length) (l.length+1 - ((zae x).length+2)) x ((zae x).length+2) 0 1=_;obtain ⟨n,hn⟩:∃ n,l.length+1 - ((zae x).length+2)=n+1+1:=⟨l.length - 1 - ((zae x).length+2),by omega⟩;rw [hn,zaD,s1,s2,if_neg (by omega),hE];simp only [PR.andThen];rw [if_neg (by omega),zaD,if_pos (.inr h0)];rfl
end Go.Proofs.YtoaojdobjinhfaaGreatDoor
