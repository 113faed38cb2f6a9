/- marchesref13.list, walked. -/
import Derived.Test.YtdeneckmoejcfaaRStmtZs
set_option linter.unusedSimpArgs false
set_option linter.unusedVariables false
set_option maxRecDepth 100000
set_option maxHeartbeats 2000000
namespace Go.Proofs.Ytdeneckmoejcfaa
open Go.RowKit

theorem codeL_ge:∀ (l:List St) (ns:znU) (r:znA × Nat),znQ ns l=.ok r->ns.length<=r.2:=by
 intro l
 induction l with
 | nil=>intro ns r h;rw [znQ] at h;cases h;exact zr _
 | cons x l ih =>
  intro ns r h;obtain ⟨op,n,name,es,body,els⟩:=x;rw [znQ] at h;obtain ⟨c,h1,h2⟩:=CR.andThen_ok h;obtain ⟨c',h3,h4⟩:=CR.andThen_ok h2;have:=ih _ _ h3;have hl:ns.length<=(if op=1 then ns++[name] else ns).length:=by split <;> simp
  cases h4;show ns.length<=max c.2 c'.2;omega
theorem codeT_zero (ns:znU) (n:Int) (name:List UInt8) (es:List Ex) (body els:List St) {c:znA × Nat} (h:zon ns (.mk 1 n name es body els)=.ok c):c.2=0:=by
 rw [zon] at h;obtain ⟨cs,h1,h2⟩:=CR.andThen_ok h;rw [yP rfl] at h2;split at h2
 ·cases h2
 ·split at h2
  ·cases h2
  ·cases h2;rfl
theorem OwnV.drew' {w:World} {g:Nat} {e:TypeId} {vs:List Value} (h:OwnV w g e vs):OwnV w.drew g e vs:=h
theorem info_string:(Try.prog.info? 9).map (fun i=>(i.zero,i.size,i.bytes))=some (some (.string ByteArray.empty),1,16):=by kernel_rfl
theorem strs_one (l:znU):(l.map fun s=>Value.string (bstr s)).all (fun u=>u.oneCell')=true:=by
 rw [List.all_map,List.all_eq_true];intro x _;rfl
theorem codeL_step {ns nk:znU} {l:List St} {k:Nat} {op n:Int} {name:List UInt8} {es:List Ex} {body els:List St} {C c:znA} {mk m:Nat} (hat:l[k]? = some (.mk op n name es body els))
  (h:znQ ns l=(znQ nk (l.drop k)).andThen fun r=>.ok (znB C r.1,max mk r.2)) (hc:zon nk (.mk op n name es body els)=.ok (c,m)) :
  znQ ns l=(znQ (if op=1 then nk++[name] else nk) (l.drop (k+1))).andThen fun r=>.ok (znB (znB C c) r.1,max (max mk (if op=1 then nk.length+1 else m)) r.2):=by
 obtain ⟨h1,h2⟩:=List.getElem?_eq_some_iff.1 hat;rw [h,List.drop_eq_getElem_cons h1,h2,znQ,hc];show ((znQ (if op=1 then nk++[name] else nk) (l.drop (k+1))).andThen fun c'=>.ok (znB c c'.1,max m c'.2)).andThen _=_
 cases hr:znQ (if op=1 then nk++[name] else nk) (l.drop (k+1)) with
 | err e=>rfl
 | ok r =>
  show CR.ok (znB C (znB c r.1),max mk (max m r.2))=CR.ok (znB (znB C c) r.1,max (max mk (if op=1 then nk.length+1 else m)) r.2);rw [zof];congr 2
  by_cases ho:op=1
  ·subst ho;have hm:=codeT_zero _ _ _ _ _ _ hc;have hm:m=0:=hm;have:=codeL_ge _ _ _ hr;rw [yP rfl,yA,List.length_singleton] at this;rw [yP rfl];omega
  ·rw [yN ho];omega
theorem codeL_step_err {ns nk:znU} {l:List St} {k:Nat} {op n:Int} {name:List UInt8} {es:List Ex} {body els:List St} {C:znA} {mk:Nat} {q:Int} (hat:l[k]? = some (.mk op n name es body els))
  (h:znQ ns l=(znQ nk (l.drop k)).andThen fun r=>.ok (znB C r.1,max mk r.2)) (hc:zon nk (.mk op n name es body els)=.err q):znQ ns l=.err q:=by
 obtain ⟨h1,h2⟩:=List.getElem?_eq_some_iff.1 hat;rw [h,List.drop_eq_getElem_cons h1,h2,znQ,hc];rfl
theorem right1_parts {d:Nat} {op n:Int} {name:List UInt8} {es:List Ex} {body els:List St} (h:zh2 d (.mk op n name es body els)=true):zaJ d body=true/\zaJ d els=true/\(1<=op/\op<=7)/\es.all (zbd 40)=true:=by
 unfold zh2 at h;rw [yC,yC,yC] at h;obtain ⟨⟨h1,h2⟩,h3,h4⟩:=h;refine ⟨h1,h2,?_,h4⟩;unfold zbA at h3;rw [yC,yQ] at h3;exact h3.1
theorem rlist_step (d:Nat) (ih:∀ (l:List St) (v:Value) (w:World) (B:Nat) (ns:znU) (vn:Value),zaJ d l=true->okSs l->szSs l<=100000->SsL w B l v->B<=w.heap.size->Strs w ns vn->ns.length+szSs l<=900000->Calls Try.prog 38 #[v,vn] w fun e w'=>StmtCR w w' e (znQ ns l)/\Below w.heap.size w w')
  (l:List St) (v:Value) (w:World) (B:Nat) (ns:znU) (vn:Value) (hf:zaJ (d+1) l=true) (hok:okSs l) (hsz:szSs l<=100000) (hL:SsL w B l v) (hB:B<=w.heap.size) (hS:Strs w ns vn) (hns:ns.length+szSs l<=900000) :
  Calls Try.prog 38 #[v,vn] w fun e w'=>StmtCR w w' e (znQ ns l)/\Below w.heap.size w w':=by
 obtain ⟨a,cap,rfl,hcc1,hcc2⟩:=hL.form;obtain ⟨an,capn,rfl,hcn1,hcn2⟩:=Sl.form hS;have Hih:=zh ih;have HL:=zh hL;have HS:=zh hS;have Hoks:=zh hok;rw [zfn] at hf;have Hf:=zh hf;have hll:l.length<=100000:=yT (zs7 l) hsz;obtain ⟨final,hfin⟩:∃ q,znQ ns l=q:=⟨_,rfl⟩;have HF:Hid (final=znQ ns l):=zh hfin.symm;rw [hfin];clear ih hL hS hok hf hfin;go_enter Try.func38,Try.ntmps38
 go_wp2_with fail
 go_loopw [1,4,5,6,7,8,9,10,11,12,13,16,17,18,19,20,21,22,23,24,25,26,27,28,29,30,31,32,33,34,35,36,37,38,39,40,41,42,43,44,45,46,47,48,49,50,51,52,53,54] (fun t1 _ _ _ t7 t8 t9 _ _ _ _ _ _ _ _ _ _ _ _ _ _ _ _ _ _ _ _ _ _ _ _ _ _ _ _ _ _ _ _ _ _ _ _ _ _ _ _ _ _ _ wr=>∃ (k:Nat) (nk:znU) (C:znA) (mk:Nat),k<=l.length/\t9=.int .i64 k/\t8=.int .i64 mk/\mk<=1000000/\nk.length<=mk/\Hid (Strs wr nk t1)/\Hid (nk.length<=ns.length+szSs (l.take k))/\wr.ownsRow w.heap.size 47 2 t7 C.length (znH C)/\Hid (jOk C/\C.length<=4 * szSs (l.take k))/\Hid (znQ ns l=(znQ nk (l.drop k)).andThen fun r=>.ok (znB C r.1,max mk r.2))/\Hid (Below w.heap.size w wr)) (fun _ _ _ _ _ _ t9 _ _ _ _ _ _ _ _ _ _ _ _ _ _ _ _ _ _ _ _ _ _ _ _ _ _ _ _ _ _ _ _ _ _ _ _ _ _ _ _ _ _ _ _=>l.length - (intOf t9).toNat)
 case atStart=>exact ⟨0,ns,[],ns.length,by omega,by first | rfl | go_num,by first | rfl | go_num,by omega,zr _,HS,zh (by simp),World.ownsRow_nil _ _ _ _,zh ⟨zrl,by simp⟩,zh (by
  rw [List.drop_zero]
  cases hr:znQ ns l with
  | err e=>rfl
  | ok r =>
   have:=codeL_ge _ _ _ hr;show CR.ok r=CR.ok (znB [] r.1,max ns.length r.2)
   rw [zoQ,Nat.max_eq_right this]),zh (yR _ _)⟩
 case round =>
  obtain ⟨k,nk,C,mk,hk,rfl,rfl,hmk,hnm,HSk,Hnk,hown,HC,HD,HB⟩:=hrel;have hsr:=HB.out.size;have hslo:=Sl.of_own hown;obtain ⟨ao,co,rfl,_,_⟩:=Sl.form hslo;obtain ⟨ank,ck,rfl,_,_⟩:=Sl.form HSk.out;by_cases hkl:k < l.length
  ·have hki:(k:Int) < (l.length:Int):=by omega
   obtain ⟨b,off,op,n,name,es,body,els,ae,ce,ab,cb,al,cl,rfl,hbB,hbw,hat,c0,c1,c2,c3,c4,c5,hE,hBd,hEl⟩:=(HL.out.low (HB.out.mono hB)).at hkl;obtain ⟨-,-,-,hok1,hok2,hok3⟩:=znr Hoks.out hat;obtain ⟨hr1,hr2,hr3,hr4⟩:=right1_parts (by have:=Hf.out;rw [List.all_eq_true] at this;exact this _ (List.mem_of_getElem? hat));have hszx:szS (.mk op n name es body els)<=szSs l:=znt hat;have hszt:=zlM hat;have hszt2:szSs (l.take (k+1))<=szSs l:=by have:=ziC (l.take (k+1)) (l.drop (k+1));rw [List.take_append_drop] at this;omega
   have hszp:szSs body < szS (.mk op n name es body els)/\szSs els < szS (.mk op n name es body els):=by rw [szS];omega
   have hnkb:=Hnk.out;have hBr:B<=wr.heap.size:=yT hB hsr;obtain ⟨W1,hW1,hX1,hb1⟩:∃ W1,W1=wr.alloc (.cells #[.int .u8 op,.int .i64 n,.string (bstr name),.slice ae es.length ce,.slice ab body.length cb,.slice al els.length cl] 59)/\OwnV W1 wr.heap.size 59 [.int .u8 op,.int .i64 n,.string (bstr name),.slice ae es.length ce,.slice ab body.length cb,.slice al els.length cl]/\Below wr.heap.size wr W1:=⟨_,rfl,OwnV.new _ _ _,(yR _ _).alloc (zr _) _⟩;have hbB1:Below B wr W1:=hb1.mono hBr;have hB1:B<=W1.heap.size:=yT hBr hb1.size
   have HI:=zh (rstmt_step op n name es body els _ _ _ W1 B nk _ hr3 hr4 hok1 (by omega) (hE.low hbB1) ⟨_,_,rfl⟩ ⟨_,_,rfl⟩ (yT (zs7 els) (by omega)) hB1 (HSk.out.below hb1) (by omega)
    (fun w' hb=>Hih.out body _ w' B nk _ hr1 hok2 (by omega) (hBd.low (hbB1.trans (hb.mono hB1))) (yT hB1 hb.size) (Strs.below (HSk.out.below hb1) hb) (by omega))
    (fun w' hb=>Hih.out els _ w' B nk _ hr2 hok3 (by omega) (hEl.low (hbB1.trans (hb.mono hB1))) (yT hB1 hb.size) (Strs.below (HSk.out.below hb1) hb) (by omega)))
   have HW1:=zh hW1;have HX1:=zh hX1;have HB1:=zh (HB.out.trans (hb1.mono hsr));have hs1:w.heap.size<=W1.heap.size:=yT hsr hb1.size;have HS1:=zh (HSk.out.below hb1);have HO1:Hid (OwnC W1 w.heap.size 47 (.slice ao C.length co) C):=zh (OwnC.below hown hb1);have Hok1:Hid (∀ r,zon nk (.mk op n name es body els)=.ok r->jOk r.1/\r.1.length<=4 * szS (.mk op n name es body els)/\r.2<=nk.length+szS (.mk op n name es body els)):=zh (fun r h=>codeT_ok nk _ r h);have Hst:Hid (∀ c m,zon nk (.mk op n name es body els)=.ok (c,m)->znQ ns l=(znQ (if op=1 then nk++[name] else nk) (l.drop (k+1))).andThen fun r=>.ok (znB (znB C c) r.1,max (max mk (if op=1 then nk.length+1 else m)) r.2)):=zh (fun c m h=>codeL_step hat HD.out h);have Hse:Hid (∀ q,zon nk (.mk op n name es body els)=.err q->znQ ns l=.err q):=zh (fun q h=>codeL_step_err hat HD.out h)
   generalize zon nk (.mk op n name es body els)=R1 at *
   generalize szS (.mk op n name es body els)=z1 at *
   have Hszt:=zh hszt;clear hE hBd hEl hok1 hok2 hok3 hr1 hr2 hr4 hat hszt hW1 hX1 hb1 hbB1 hB1 hown hslo;go_upto_region 7 with (fail)
   rw [<- HW1.out];obtain ⟨x0,x1,x2,x3,x4,x5⟩:=yc6 HX1.out
   cases R1 with
   | err q =>
    have HFz:Hid (final=.err q):=zh (by rw [HF.out,Hse.out q rfl]);go_wp2_with fail
    refine HI.out.mono ?_;rintro e3 w3 ⟨he3,hb3⟩;obtain ⟨rfl,hq⟩:=he3;have hq0:(q != 0)=true:=by rcases hq with rfl | rfl | rfl <;> rfl
    have Hq:=zh hq;have Hb3:=zh (HB1.out.trans (hb3.mono hs1));clear hb3 hq;go_wp2_with fail
    exact yE (v:=.tuple #[.slice none 0 0,.int .i64 0,.int .i64 q]) (by simp [results,Try.results38,go_sem]) rfl ⟨by rw [HFz.out];exact ⟨rfl,Hq.out⟩,Hb3.out⟩
   | ok r1 =>
    obtain ⟨c,m⟩:=r1;obtain ⟨hjc,hlc,hmc⟩:=Hok1.out _ rfl;have hjc:jOk c:=hjc;have hlc:c.length<=4 * z1:=hlc;have hmc:m<=nk.length+z1:=hmc;have hm6:m<=1000000:=by have:=Hszt.out;omega
    have HDn0:=zh (Hst.out c m rfl);have HCn:Hid (jOk (znB C c)/\(znB C c).length<=4 * szSs (l.take (k+1))):=zh ⟨zpo HC.out.1 hjc,by rw [znT,Hszt.out];have:=HC.out.2;omega⟩;have hCl:C.length<=400000:=by have:=HC.out.2;have:=Hszt.out;omega
    clear Hst Hse Hok1;go_wp2_with fail
    refine HI.out.mono ?_;rintro e3 w3 ⟨he3,hb3⟩;obtain ⟨v3,rfl,hO3⟩:=he3;have HB3:=zh (HB1.out.trans (hb3.mono hs1));have hs3:w.heap.size<=w3.heap.size:=yT hs1 hb3.size;have HS3:=zh (HS1.out.below hb3);have HX3:=zh (HX1.out.below hb3 (zr _));have HJ3:Hid (∀ W:World,Below w3.heap.size w3 W->Calls Try.prog 58 #[.slice ao C.length co,v3] W _):=zh (fun W hb=>join_any C c _ v3 W ((OwnC.below (HO1.out.below hb3) hb).sl) (OwnC.below hO3 hb).sl (by omega) (by omega) (jOk_small hjc (by omega)));clear hb3 hO3 x0 x1 x2 x3 x4 x5;have x0:=HX3.out.cell (i:=0) rfl;have x2:=HX3.out.cell (i:=2) rfl;by_cases hop:op=1
    ·subst hop
     have HDn:Hid (znQ ns l=(znQ (nk++[name]) (l.drop (k+1))).andThen fun r=>.ok (znB (znB C c) r.1,max (max mk (nk.length+1)) r.2)):=zh (by
      have h:=HDn0.out;rw [yP rfl,yP rfl] at h
      exact h)
     clear HDn0;have hnm6:nk.length+1<=1000000:=by have:=Hszt.out;omega
     have hsl3:=HS3.out;have hlx:wr.heap.size < w3.heap.size:=HX3.out.lt;have HOs:Hid ((w3.alloc (.cells #[] 9)).ownsRow w3.heap.size 9 1 (.slice (some ⟨w3.heap.size,0,none⟩) 0 0) 0 []):=zh ((OwnV.new w3 9 []).own2 (n:=0) (sz:=1) (zr _) rfl (by decide));have HSs:Hid (Sl (w3.alloc (.cells #[] 9)) 1 nk.length (nk.map fun s=>Value.string (bstr s)) (.slice ank nk.length ck)):=zh (Sl.below (by omega) hsl3 ((yR _ _).alloc (zr _) _) (zr _))
     have HOs3:Hid (((w3.alloc (.cells #[.string (bstr name)] 9)).alloc (.cells #[] 9)).ownsRow w3.heap.size 9 1 (.slice (some ⟨w3.heap.size+1,0,none⟩) 0 0) 0 []):=zh (by
      have h:=(OwnV.new (w3.alloc (.cells #[.string (bstr name)] 9)) 9 []).own2 (base:=w3.heap.size) (n:=0) (sz:=1) (by simp) rfl (by decide)
      simpa using h)
     have HSs3:Hid (Sl ((w3.alloc (.cells #[.string (bstr name)] 9)).alloc (.cells #[] 9)) 1 nk.length (nk.map fun s=>Value.string (bstr s)) (.slice ank nk.length ck)):=zh (Sl.below (by omega) hsl3 (((yR _ _).alloc (zr _) _).alloc (by simp) _) (zr _));have HSs2:Hid (Sl ((w3.alloc (.cells #[] 9)).alloc (.cells #[.string (bstr name)] 9)) 1 nk.length (nk.map fun s=>Value.string (bstr s)) (.slice ank nk.length ck)):=zh (Sl.below (by omega) hsl3 (((yR _ _).alloc (zr _) _).alloc (by simp) _) (zr _))
     have HN2:Hid (OwnV ((w3.alloc (.cells #[] 9)).alloc (.cells #[.string (bstr name)] 9)) (w3.heap.size+1) 9 [.string (bstr name)]):=zh (by
      have h:=OwnV.new (w3.alloc (.cells #[] 9)) 9 [.string (bstr name)]
      simpa using h)
     have HN3:Hid (OwnV ((w3.alloc (.cells #[.string (bstr name)] 9)).alloc (.cells #[] 9)) w3.heap.size 9 [.string (bstr name)]):=zh ((OwnV.new w3 9 [.string (bstr name)]).alloc _);clear hsl3;go_upto_region 11 with (fail)
     go_region_held3 (fun w'=>w'.cell? ⟨wr.heap.size,2,none⟩=some (.string (bstr name))) (go_keep) (first | (refine zaR rfl (.tmp 39) (.tmp 40) 53 rfl HOs.out.drew info_string Try.underlying53 rfl (by decide) rfl HSs.out rfl (strs_one nk) (by unfold maxLen;omega) (by omega) (by exact Nat.le_of_lt (by simp)) ?_;intro vA wA hownA hgA hbA hatA;have zA:=hgA.cell (a:=⟨wr.heap.size,2,none⟩) (v:=.string (bstr name)) (by go_keep) (by simp [Value.ownBlock];omega)) | (refine zaR rfl (.tmp 41) (.tmp 44) 53 rfl (hownA.alloc _) info_string Try.underlying53 rfl (by decide) rfl (Sl.of_own ((OwnV.new wA 9 [.string (bstr name)]).own2 (n:=1) (sz:=1) (zr _) rfl (by decide))) rfl rfl (by unfold maxLen;omega) (by omega) (by exact yT (Nat.le_of_lt (Nat.lt_succ_self _)) (yT (by exact (by simp:w3.heap.size+1<=(w3.alloc (.cells #[] 9)).heap.size)) (yT hgA.size (by simp)))) ?_;intro vB wB hownB hgB hbB hatB;have zB:=hgB.cell (a:=⟨wr.heap.size,2,none⟩) (v:=.string (bstr name)) (by go_keep) (by intro e;have:=(hownA.lt _ e.symm).1;simp at this;omega)) | (refine zaR rfl (.tmp 39) (.tmp 40) 53 rfl (HOs.out.alloc (.cells #[.string (bstr name)] 9)).drew info_string Try.underlying53 rfl (by decide) rfl HSs2.out rfl (strs_one nk) (by unfold maxLen;omega) (by omega) (by exact Nat.le_of_lt (by first | (simp;done) | (simp;omega))) ?_;intro vA wA hownA hgA hbA hatA;have zA:=hgA.cell (a:=⟨wr.heap.size,2,none⟩) (v:=.string (bstr name)) (by go_keep) (by simp [Value.ownBlock];omega)) | (refine zaR rfl (.tmp 39) (.tmp 40) 53 rfl HOs3.out.drew info_string Try.underlying53 rfl (by decide) rfl HSs3.out rfl (strs_one nk) (by unfold maxLen;omega) (by omega) (by exact Nat.le_of_lt (by first | (simp;done) | (simp;omega))) ?_;intro vA wA hownA hgA hbA hatA;have zA:=hgA.cell (a:=⟨wr.heap.size,2,none⟩) (v:=.string (bstr name)) (by go_keep) (by simp [Value.ownBlock];omega)) | (refine zaR rfl (.tmp 41) (.tmp 44) 53 rfl hownA info_string Try.underlying53 rfl (by decide) rfl (Sl.of_own (OwnV.own2 (n:=1) (sz:=1) ((OwnV.drew' HN2.out).grown hgA (by intro e;simp [Value.ownBlock] at e)) (zr _) rfl (by decide))) rfl rfl (by unfold maxLen;omega) (by omega) (by exact Nat.le_of_lt (Nat.lt_of_lt_of_le (by first | (simp;done) | (simp;omega)) hgA.size)) ?_;intro vB wB hownB hgB hbB hatB;have zB:=hgB.cell (a:=⟨wr.heap.size,2,none⟩) (v:=.string (bstr name)) zA (by intro e;have:=(hownA.lt _ e.symm).1;simp at this;omega)) | (refine zaR rfl (.tmp 41) (.tmp 44) 53 rfl hownA info_string Try.underlying53 rfl (by decide) rfl (Sl.of_own (OwnV.own2 (n:=1) (sz:=1) ((OwnV.drew' HN3.out).grown hgA (by intro e;simp [Value.ownBlock] at e)) (zr _) rfl (by decide))) rfl rfl (by unfold maxLen;omega) (by omega) (by exact Nat.le_of_lt (Nat.lt_of_lt_of_le (by first | (simp;done) | (simp;omega)) hgA.size)) ?_;intro vB wB hownB hgB hbB hatB;have zB:=hgB.cell (a:=⟨wr.heap.size,2,none⟩) (v:=.string (bstr name)) zA (by intro e;have:=(hownA.lt _ e.symm).1;simp at this;omega)))
     all_goals
      have hb3B:Below w3.heap.size w3 wB:=by
       first
        | exact ((((yR _ _).alloc (zr _) _).drew.trans hbA).alloc (yT (by simp) hbA.size) _).trans hbB
        | exact ((((yR _ _).alloc (zr _) _).alloc (by simp) _).drew.trans hbA).trans hbB
      have hsB:Strs wB (nk++[name]) vB:=by
       have h:=Sl.of_own hownB;unfold Strs;rw [yA,List.length_singleton,List.map_append,show nk.length+1=0+nk.length+1 from by omega];exact h
      obtain ⟨anB,cnB,hvB,_,_⟩:=Sl.form hsB;rw [show (nk++[name]).length=nk.length+1 from by simp] at hvB;subst hvB;have HSB:=zh hsB;have HJ:=zh (HJ3.out wB hb3B);have HB3:=zh (HB3.out.trans (hb3B.mono hs3));have hs3:w.heap.size<=wB.heap.size:=yT hs3 hb3B.size;have HNK:Hid (List.length (nk++[name])<=ns.length+szSs (l.take (k+1))):=zh (by rw [yA,List.length_singleton,Hszt.out];omega);clear hb3B hsB hownA hgA hbA hatA hownB hgB hbB hatB;by_cases hmm:mk < (nk.length+1)
      ·have hmi:((nk.length:Int)+1) > (mk:Int):=by omega
       have HLN:List.length ((nk++[name]))<=(nk.length+1):=by simp
       have HDf:Hid (znQ ns l=(znQ (nk++[name]) (l.drop (k+1))).andThen fun r=>.ok (znB (znB C c) r.1,max (nk.length+1) r.2)):=zh (by
        have h:=HDn.out;rw [Nat.max_eq_right (Nat.le_of_lt hmm)] at h
        exact h)
       clear HDn;go_wp2_with fail
       refine HJ.out.mono ?_;rintro e4 w4 ⟨⟨v4,rfl,hO4⟩,hb4⟩;have hO4':=znE hO4 hs3;have HB4:=zh (HB3.out.trans (hb4.mono hs3));have HS4:=zh (HSB.out.below hb4);clear hO4 hb4;go_wp2_with fail
       go_roundw
       case rel=>exact ⟨k+1,(nk++[name]),znB C c,(nk.length+1),by omega,by go_num,by first | rfl | go_num,by omega,HLN,HS4,HNK,hO4',HCn,HDf,HB4⟩
       case measure=>simp [intOf];omega
      ·have hmi:¬ ((nk.length:Int)+1) > (mk:Int):=by omega
       have HLN:List.length ((nk++[name]))<=mk:=by rw [yA,List.length_singleton];omega
       have HDf:Hid (znQ ns l=(znQ (nk++[name]) (l.drop (k+1))).andThen fun r=>.ok (znB (znB C c) r.1,max mk r.2)):=zh (by
        have h:=HDn.out;rw [Nat.max_eq_left (Nat.le_of_not_lt hmm)] at h
        exact h)
       clear HDn;go_wp2_with fail
       refine HJ.out.mono ?_;rintro e4 w4 ⟨⟨v4,rfl,hO4⟩,hb4⟩;have hO4':=znE hO4 hs3;have HB4:=zh (HB3.out.trans (hb4.mono hs3));have HS4:=zh (HSB.out.below hb4);clear hO4 hb4;go_wp2_with fail
       go_roundw
       case rel=>exact ⟨k+1,(nk++[name]),znB C c,mk,by omega,by go_num,by first | rfl | go_num,by omega,HLN,HS4,HNK,hO4',HCn,HDf,HB4⟩
       case measure=>simp [intOf];omega
    ·have e1:(op == 1)=false:=by rw [beq_eq_false_iff_ne];exact hop
     have HDn:Hid (znQ ns l=(znQ nk (l.drop (k+1))).andThen fun r=>.ok (znB (znB C c) r.1,max (max mk m) r.2)):=zh (by
      have h:=HDn0.out;rw [yN hop,yN hop] at h
      exact h)
     have HNK:Hid (nk.length<=ns.length+szSs (l.take (k+1))):=zh (by rw [Hszt.out];omega);have HJ:=zh (HJ3.out w3 (yR _ _));clear hop HDn0;by_cases hmm:mk < m
     ·have hmi:((m:Int)) > (mk:Int):=by omega
      have HLN:List.length (nk)<=m:=by omega
      have HDf:Hid (znQ ns l=(znQ nk (l.drop (k+1))).andThen fun r=>.ok (znB (znB C c) r.1,max m r.2)):=zh (by
       have h:=HDn.out;rw [Nat.max_eq_right (Nat.le_of_lt hmm)] at h
       exact h)
      clear HDn;go_wp2_with fail
      refine HJ.out.mono ?_;rintro e4 w4 ⟨⟨v4,rfl,hO4⟩,hb4⟩;have hO4':=znE hO4 hs3;have HB4:=zh (HB3.out.trans (hb4.mono hs3));have HS4:=zh (HS3.out.below hb4);clear hO4 hb4;go_wp2_with fail
      go_roundw
      case rel=>exact ⟨k+1,nk,znB C c,m,by omega,by go_num,by first | rfl | go_num,by omega,HLN,HS4,HNK,hO4',HCn,HDf,HB4⟩
      case measure=>simp [intOf];omega
     ·have hmi:¬ ((m:Int)) > (mk:Int):=by omega
      have HLN:List.length (nk)<=mk:=by omega
      have HDf:Hid (znQ ns l=(znQ nk (l.drop (k+1))).andThen fun r=>.ok (znB (znB C c) r.1,max mk r.2)):=zh (by
       have h:=HDn.out;rw [Nat.max_eq_left (Nat.le_of_not_lt hmm)] at h
       exact h)
      clear HDn;go_wp2_with fail
      refine HJ.out.mono ?_;rintro e4 w4 ⟨⟨v4,rfl,hO4⟩,hb4⟩;have hO4':=znE hO4 hs3;have HB4:=zh (HB3.out.trans (hb4.mono hs3));have HS4:=zh (HS3.out.below hb4);clear hO4 hb4;go_wp2_with fail
      go_roundw
      case rel=>exact ⟨k+1,nk,znB C c,mk,by omega,by go_num,by first | rfl | go_num,by omega,HLN,HS4,HNK,hO4',HCn,HDf,HB4⟩
      case measure=>simp [intOf];omega
  ·have hki:¬ (k:Int) < (l.length:Int):=by omega
   have hke:k=l.length:=by omega
   have HFz:Hid (final=.ok (C,mk)):=zh (by
    rw [HF.out,HD.out,hke,List.drop_length,znQ];show CR.ok (znB C [],max mk nk.length)=_
    rw [zo1,Nat.max_eq_left hnm])
   have HO:Hid (OwnC wr w.heap.size 47 (.slice ao C.length co) C):=zh hown;clear hown hslo HD;go_wp2_with fail
   exact yE (v:=.tuple #[.slice ao C.length co,.int .i64 mk,.int .i64 0]) (by simp [results,Try.results38,go_sem]) rfl ⟨by rw [HFz.out];exact ⟨_,rfl,HO.out⟩,HB.out⟩

theorem rlist_zero (l:List St) (v:Value) (w:World) (B:Nat) (ns:znU) (vn:Value) (hf:zaJ 0 l=true) (hL:SsL w B l v) (hS:Strs w ns vn) :
  Calls Try.prog 38 #[v,vn] w fun e w'=>StmtCR w w' e (znQ ns l)/\Below w.heap.size w w':=by
 obtain ⟨a,cap,rfl,_,_⟩:=hL.form;obtain ⟨an,capn,rfl,_,_⟩:=Sl.form hS
 obtain rfl:l=[]:=by
  cases l with
  | nil=>rfl
  | cons x r=>cases hf
 clear hL hS hf;go_enter Try.func38,Try.ntmps38
 go_wp2_with fail
 go_loopw [1,4,5,6,7,8,9,10,11,12,13,16,17,18,19,20,21,22,23,24,25,26,27,28,29,30,31,32,33,34,35,36,37,38,39,40,41,42,43,44,45,46,47,48,49,50,51,52,53,54] (fun _ _ _ _ t7 t8 t9 _ _ _ _ _ _ _ _ _ _ _ _ _ _ _ _ _ _ _ _ _ _ _ _ _ _ _ _ _ _ _ _ _ _ _ _ _ _ _ _ _ _ _ wr=>t9=.int .i64 0/\t8=.int .i64 ns.length/\t7=.slice none 0 0/\wr=w) (fun _ _ _ _ _ _ _ _ _ _ _ _ _ _ _ _ _ _ _ _ _ _ _ _ _ _ _ _ _ _ _ _ _ _ _ _ _ _ _ _ _ _ _ _ _ _ _ _ _ _ _=>0)
 case atStart=>exact ⟨by first | rfl | go_num,by first | rfl | go_num,rfl,rfl⟩
 case round =>
  obtain ⟨rfl,rfl,rfl,rfl⟩:=hrel;go_wp2_with fail
  exact yE (v:=.tuple #[.slice none 0 0,.int .i64 ns.length,.int .i64 0]) (by simp [results,Try.results38,go_sem]) rfl ⟨⟨_,rfl,World.ownsRow_nil _ _ _ _⟩,yR _ _⟩
theorem rlist_any:∀ (d:Nat) (l:List St) (v:Value) (w:World) (B:Nat) (ns:znU) (vn:Value),zaJ d l=true->okSs l->szSs l<=100000->SsL w B l v->B<=w.heap.size->Strs w ns vn->ns.length+szSs l<=900000 ->
  Calls Try.prog 38 #[v,vn] w fun e w'=>StmtCR w w' e (znQ ns l)/\Below w.heap.size w w':=by
 intro d
 induction d with
 | zero=>intro l v w B ns vn hf _ _ hL _ hS _;exact rlist_zero l v w B ns vn hf hL hS
 | succ d ih=>intro l v w B ns vn hf hok hsz hL hB hS hns;exact rlist_step d ih l v w B ns vn hf hok hsz hL hB hS hns
end Go.Proofs.Ytdeneckmoejcfaa
