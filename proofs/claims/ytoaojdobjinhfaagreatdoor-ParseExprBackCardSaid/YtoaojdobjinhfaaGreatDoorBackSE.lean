/- The tokens of statements that can be written are read back to them. Plain mathematics. -/
import Derived.Test.YtoaojdobjinhfaaGreatDoorBackME
import Derived.Test.YtoaojdobjinhfaaGreatDoorBackSC
set_option linter.unusedSimpArgs false
set_option linter.unusedVariables false
namespace Go.Proofs.YtoaojdobjinhfaaGreatDoor
theorem zjT {l:List Tok} {d:Nat} {x:Ex} (h:Back l d x) {i o:Nat} (hs:Seg l i (zae x)) (h0:zaj l (i+(zae x).length)=0) (ho:o+2 * d≤200):zaA l i o 1=.ok x (i+(zae x).length):=h.zero hs h0 ho (zr _)
theorem Lx.bang {b:UInt8} {r:List UInt8} (hb:b.toNat≠61):Lx [33] [sK [33]] (b :: r):=by
 refine Lx.tok (t:=⟨3,[33],0,0,0⟩) (.sign (by decide) (by decide) (by decide)) ⟨fun h=>absurd rfl h,fun _ x b' r' hx he hm=>?_⟩;cases hx;cases he;simp only [zbB,List.mem_cons,Prod.mk.injEq,List.not_mem_nil,or_false] at hm;rcases hm with h | h | h | h | h | h
 all_goals (obtain ⟨h1,h2⟩:=h;first | exact hb h2 | exact absurd h1 (by decide))
theorem zcX {r:List UInt8} (h:zct r=true):zeP r:=zgb h
theorem zeQ {w:List UInt8} (h:za4 w=true):∃ b t,w=b :: t∧b.toNat≠61:=by
 cases w with
 | nil=>cases h
 | cons b t =>
  refine ⟨b,t,rfl,?_⟩;unfold za4 at h;simp only [Bool.and_eq_true] at h;intro e;have hl:=h.1.2;unfold zaH zaV at hl;rw [e] at hl;exact absurd hl (by decide)
theorem zfD {w:List UInt8} (hw:za4 w=true) {o c:UInt8} (ho:zaH o=false∧zaG o=false∧zag [o]=1∧zf3 o=true) (hc:zaH c=false∧zaG c=false∧zag [c]=1∧zf3 c=true) (hs:∀ r,zct (c :: r)=true) {a:Ex} (ha:LxE a) {x:Ex} (ex:zab x=w++[o]++zab a++[c]) (et:zae x=zcF w [o] [c] (zae a)):LxE x:=by
 refine ⟨fun r _=>?_,?_⟩
 ·rw [ex,et]
  have hn:zeP ([o]++(zab a++([c]++r))):=by
   show (!zaf o)=true;unfold zaf;rw [ho.1,ho.2.1];rfl
  have:=Lx.app (Lx.app (Lx.app (Lx.word hw hn) (Lx.sign (zab a++([c]++r)) ho.1 ho.2.1 ho.2.2.1 ho.2.2.2)) (ha.1 ([c]++r) (hs r))) (Lx.sign r hc.1 hc.2.1 hc.2.2.1 hc.2.2.2);have e:[wK w]++[sK [o]]++zae a++[sK [c]]=zcF w [o] [c] (zae a):=by simp [zcF]
  rw [e] at this;exact this
 ·obtain ⟨b,t,e,hb⟩:=zeQ hw;exact ⟨b,t++[o]++zab a++[c],by rw [ex,e];rfl,hb⟩
theorem zh1 {w:List UInt8} (hw:za4 w=true) {a b:Ex} (ha:LxE a) (hb:LxE b) {x:Ex} (ex:zab x=w++[40]++zab a++[44,32]++zab b++[41]) (et:zae x=zdt w (zae a) (zae b)):LxE x:=by
 refine ⟨fun r _=>?_,?_⟩
 ·rw [ex,et];have hn:zeP ([40]++(zab a++([44,32]++(zab b++([41]++r))))):=(by decide:(!zaf 40)=true);have hcs:Lx [44,32] [sK [44]] (zab b++([41]++r)):=Lx.app (s:=[44]) (t:=[32]) (kt:=[]) (Lx.sign _ (by decide) (by decide) (by decide) (by decide)) (Lx.blank (.inl rfl) _);have:=Lx.app (Lx.app (Lx.app (Lx.app (Lx.app (Lx.word hw hn) (Lx.sign (a:=40) (zab a++([44,32]++(zab b++([41]++r)))) (by decide) (by decide) (by decide) (by decide))) (ha.1 ([44,32]++(zab b++([41]++r))) rfl)) hcs) (hb.1 ([41]++r) rfl)) (Lx.sign (a:=41) r (by decide) (by decide) (by decide) (by decide));have e:[wK w]++[sK [40]]++zae a++[sK [44]]++zae b++[sK [41]]=zdt w (zae a) (zae b):=by simp [zdt]
  rw [e] at this;exact this
 ·obtain ⟨c,t,e,hc⟩:=zeQ hw;exact ⟨c,t++[40]++zab a++[44,32]++zab b++[41],by rw [ex,e];rfl,hc⟩
theorem zjz {op:Int} (h0:10≤op) (h1:op≤22) (r:List UInt8):Lx (zaO op) [sK (zaO op)] (32 :: r):=by
 obtain ⟨b,t,e,h1,h2,h3⟩:∃ b t,zaO op=b :: t∧zaH b=false∧zaG b=false∧zag (b :: t)=(b :: t).length:=by
  obtain ⟨k,rfl⟩:=zhJ h0 h1;have key:∀ k:Fin 13,(zaO (10+(k.val:Int))).head?.all (fun b=>!zaH b && !zaG b)=true∧zag (zaO (10+(k.val:Int)))=(zaO (10+(k.val:Int))).length∧zaO (10+(k.val:Int))≠[]:=by decide
  obtain ⟨k1,k2,k3⟩:=key k
  cases he:zaO (10+(k.val:Int)) with
  | nil=>exact absurd he k3
  | cons b t =>
   rw [he] at k1 k2;simp only [List.head?_cons,Option.all_some,Bool.and_eq_true,Bool.not_eq_true'] at k1;exact ⟨b,t,rfl,k1.1,k1.2,k2⟩
 rw [e];exact Lx.stop h1 h2 h3 rfl
theorem zff:∀ {d:Nat} {x:Ex},Shp d x→LxE x:=by
 intro d x h
 induction h with
 | @num d n h0 h1 =>
  refine ⟨fun r hr=>?_,?_⟩
  ·rw [zcq,zhO];exact Lx.num h0 h1 (zcX hr)
  ·obtain ⟨b,t,e,hd,-,-⟩:=zfm (n:=n.toNat) (by omega);rw [zb1] at hd
   exact ⟨b,t,by rw [zcq,e],by omega⟩
 | @var d name h =>
  refine ⟨fun r hr=>?_,?_⟩
  ·rw [zcr,zhP];exact Lx.word (zbG h).1 (zcX hr)
  ·rw [zcr];exact zeQ (zbG h).1
 | @comp d n a h0 h1 h ih=>exact zfD (zgU n h0 h1).2 (by decide) (by decide) (fun _=>rfl) ih (zdu n a) (zgV n a)
 | @leaf d op h =>
  rcases h with rfl | rfl
  ·exact ⟨fun r hr=>Lx.word (by decide +kernel) (zcX hr),⟨_,_,rfl,by decide⟩⟩
  ·exact ⟨fun r hr=>Lx.word (by decide +kernel) (zcX hr),⟨_,_,rfl,by decide⟩⟩
 | @call d op a ho' h ih =>
  rcases ho' with rfl | rfl
  ·exact zfD (by decide +kernel) (by decide) (by decide) (fun _=>rfl) ih (zdv a) (zgW a)
  ·exact zfD (by decide +kernel) (by decide) (by decide) (fun _=>rfl) ih (zcN a) (zhQ a)
 | @pre d op a ho' h ih =>
  obtain ⟨hp,b,t,e,hb⟩:=ih.part 6;rcases ho' with rfl | rfl
  ·refine ⟨fun r hr=>?_,⟨45,_,by rw [zcs];rfl,by decide⟩⟩;rw [zcs,zhR];exact Lx.app (s:=[45]) (ks:=[sK [45]]) (Lx.sign _ (by decide) (by decide) (by decide) (by decide)) (hp r hr)
  ·refine ⟨fun r hr=>?_,⟨33,_,by rw [zdm];rfl,by decide⟩⟩;rw [zdm,zhS];refine Lx.app (s:=[33]) (ks:=[sK [33]]) ?_ (hp r hr);rw [e]
   exact Lx.bang hb
 | @two d op a b ho' ha hb iha ihb =>
  rcases ho' with rfl | rfl
  ·exact zh1 (by decide +kernel) iha ihb (zdT a b) (zhT a b)
  ·exact zh1 (by decide +kernel) iha ihb (zdU a b) (zhU a b)
 | @bin d op a b h0 h1 ha hb iha ihb =>
  obtain ⟨pa,c,t,e,hc⟩:=iha.part (zby (zar op));obtain ⟨pb,-⟩:=ihb.part (zar op+1);refine ⟨fun r hr=>?_,⟨c,_,by rw [zb0 h0 h1,e];rfl,hc⟩⟩;rw [zb0 h0 h1,zhV h0 h1];have:=Lx.app (Lx.app (Lx.app (Lx.app (pa ([32]++(zaO op++([32]++(zaN (zat b,zab b) (zar op+1)++r)))) rfl) (Lx.blank (.inl rfl) _)) (zjz h0 h1 _)) (Lx.blank (.inl rfl) _)) (pb r hr);simpa using this
theorem zdV (a:UInt8) (r:List UInt8) (h:(!zaH a && !zaG a && decide (zag [a]=1) && zf3 a)=true):Lx [a] [sK [a]] r:=by
 simp only [Bool.and_eq_true,Bool.not_eq_true',decide_eq_true_eq] at h;exact Lx.sign r h.1.1.1 h.1.1.2 h.1.2 h.2
theorem lx_sp {s:List UInt8} {ks:List BK} {b:UInt8} (hb:b=32∨b=9∨b=10) {r:List UInt8} (h:Lx s ks (b :: r)):Lx (s++[b]) ks r:=by
 have:=Lx.app (s:=s) (ks:=ks) (t:=[b]) (kt:=[]) h (Lx.blank hb r);rw [List.append_nil] at this;exact this
theorem zmV {us:List Tok} {ks:List BK} {l c:Int} (h:us.map Tok.bare=ks):Seg (us++[endT l c]) 0 ks:=⟨[],[(endT l c).bare],by rw [List.map_append,h];rfl,rfl⟩
theorem zl6 (us:List Tok) (l c:Int):(zaa (us++[endT l c]) us.length).kind=4:=by
 unfold zaa;rw [List.getD_eq_getElem?_getD,List.getElem?_append_right (zr _),Nat.sub_self];rfl
theorem zed {s:List UInt8} {ks:List BK} {x:Ex} (hl:Lx s ks []) (hlen:s.length≤16384) (hE:∀ l,Seg l 0 ks→(zaa l ks.length).kind=4→zaA l 0 0 1=.ok x ks.length):zbT s=.ok x:=by
 obtain ⟨us,a,c,h1,h2⟩:=zfe hl;have hlen2:us.length=ks.length:=by rw [← h2,List.length_map]
 have h4:(zaa (us++[endT a c]) ks.length).kind=4:=by rw [← hlen2];exact zl6 us a c
 unfold zbT;rw [zcO,if_neg (by omega),h1];simp only [zf4];rw [hE _ (zmV h2) h4];simp only [PR.andThen,if_pos h4]
end Go.Proofs.YtoaojdobjinhfaaGreatDoor
