/- The reference's cursors: the next part's kind, what is left of it, what is taken. -/
import Derived.Test.YtbonkabfmlajnaaGreatQrbb
set_option maxHeartbeats 2000000
set_option maxRecDepth 100000
namespace Go.Proofs.YtbonkabfmlajnaaGreat
open Go.RowKit
theorem Zad (w0:World)(b:Nat)(v:Value)(o:List zaa)(k d:Nat)(w:World)(hX:Bx w b [v,k,d])(h:RdS w0 v o)(hb0:w0.heap.size<=b)(hbw:Below w0 w0 w)(hall:o.all kab=true)(hc:Cok o k d)(hlen:o.length<=600):
 Calls Tryz.prog 180 #[.pointer (some ⟨b,0,none⟩)] w (fun e w'=>∃R Y:Nat,e= .returned (.int .i64 (hd (skip (qab o k d))).kind)/\Bx w' b [v,R,Y]/\Cok o R Y/\qab o R Y=skip (qab o k d)/\Wr (own b 0 3) w w'/\(skip (qab o k d)=qab o k d->R=k/\Y=d/\Below w w w')):=by
 have HALL:=hH hall;have HR:=hH h;have HX:=hH hX;obtain⟨zl0,_⟩:=hX.o3;have HBW:=hH hbw;have HC:=hH hc;clear hall h hX hbw hc;go_enter Tryz.func180,Tryz.ntmps180
 go_wp2_with fail
 go_loopg [] (o.length-k) (fun n wr=>∃R Y:Nat,n=o.length-R/\Cok o R Y/\skip (qab o R Y)=skip (qab o k d)/\Bx wr b [v,R,Y]/\Wr (own b 0 3) w wr/\((R=k/\Y=d/\Below w w wr)\/skip (qab o k d)≠qab o k d))
 case atStart=>exact⟨k,d,rfl,HC.out,rfl,HX.out,Wr.refl _ _,.inl ⟨rfl,rfl,lf _ _⟩⟩
 case round=>
  obtain⟨R,Y,rfl,hc',hsk,hx,hw,hst⟩:=hrel;have HST:=hH hst;clear hst;have HW:=hH hw;have HSK:=hH hsk;have HC':=hH hc';have hbr:Below w0 w0 wr:=HBW.out.trans (hw.below HBW.out.size fun p hp=>by have:=kaA hp;omega)
  obtain⟨z,c0,c1,c2,g0,g1,g2⟩:=hx.q3;have rr:=HR.out.below hbr;have hl:=fun I ty=>rr.len Tryz.underlying30 I ty
  have hle:=hc'.le;clear hw hsk hc' hx hbr;by_cases hk:R<o.length
  ·obtain⟨q,hq⟩:=Jaa hk;obtain⟨J,o1,cs,i1,i2,i3⟩:=rr.idx Tryz.underlying30 uae R hq;obtain⟨vg,rfl,r_signs⟩:=xah i3;have e0:=i2.zero;have e1:wr.cell? ⟨J,o1+1,none⟩=some _:=i2 1 _ rfl;have e2:wr.cell? ⟨J,o1+2,none⟩=some _:=i2 2 _ rfl;have U:J<wr.heap.size:=lk (w:=wr) (a:=⟨J,o1,none⟩) e0;have HRS:=hH r_signs;clear i2 i3 r_signs;have hpo:=jat HALL.out hq;have hsz:=za4 hpo;have hdn:=HC'.out.dn q hq;have hn2:=vba hpo;have HQ:=hH hq;have HPO:=hH hpo;have HSZ:=hH hsz;clear hq hpo hsz;by_cases hdd:Y=nsz q
   ·have hde:((Y:Int)==Kbc q)=true:=by rw[HSZ.out,hdd];simp
    have hke:(R:Int)<(o.length:Int):=om;go_wp2_with fail
    obtain⟨X,hX,F,hF,M⟩:=zae wr;obtain⟨Z,a0,a1⟩:=mx3 hF z c0 c1 c2;have fe0:∀x,(F x).cell? ⟨J,o1,none⟩=some (.int .i64 q.kind):=fun x=>((hF x).cell (p:=⟨J,o1,none⟩) U).trans e0
    obtain⟨fe1,fe2⟩:=mx2 hF U e1 e2;have HF:=hH hF;have D:=hH M;clear hF M;have HS:=hH (fun(W':World) (hb:Below wr wr W')=>(by have:=Kat q vg _ (HRS.out.below hb);exact this:Calls Tryz.prog 184 #[.agg #[q.kind,q.n,vg]] W' (yae W' (.int .i64 (Kbc q)))))
    refine uaa (F:=F) (by kernel_rfl) (by kernel_rfl) (D.out _ (lf _ _).drew) ?_
    repeat(go_big_quiet_step ((go_at_call 184;(with_reducible exact Calls.fam_tells HF.out D.out (HS.out _ (HF.out _))))))
    refine wpQuiet_nil ?_;intro x;obtain⟨I,B⟩:∃wx:World,F x=wx:=⟨_,rfl⟩;have N:Below wr wr I:=by rw[<-B];exact HF.out x
    rw[B];clear B Z a0 a1 fe0 fe1 fe2 HF D;have s1:=N.size;replace c0:I.cell? ⟨b,0,none⟩=some (v):=(N.cell (p:=⟨b,0,none⟩) z).trans c0;replace c1:I.cell? ⟨b,1,none⟩=some (.int .i64 R):=(N.cell (p:=⟨b,1,none⟩) z).trans c1;replace c2:I.cell? ⟨b,2,none⟩=some (.int .i64 Y):=(N.cell (p:=⟨b,2,none⟩) z).trans c2;replace e0:I.cell? ⟨J,o1,none⟩=some (.int .i64 q.kind):=(N.cell (p:=⟨J,o1,none⟩) U).trans e0;replace e1:I.cell? ⟨J,o1+1,none⟩=some (.int .i64 q.n):=(N.cell (p:=⟨J,o1+1,none⟩) U).trans e1;replace e2:I.cell? ⟨J,o1+2,none⟩=some (vg):=(N.cell (p:=⟨J,o1+2,none⟩) U).trans e2;replace g0:I.frozen? ⟨b,0,none⟩=false:=(N.frozen (p:=⟨b,0,none⟩) z).trans g0;replace g1:I.frozen? ⟨b,1,none⟩=false:=(N.frozen (p:=⟨b,1,none⟩) z).trans g1;replace g2:I.frozen? ⟨b,2,none⟩=false:=(N.frozen (p:=⟨b,2,none⟩) z).trans g2;replace U:=lq U s1;replace z:=lq z s1;go_wp2;go_roundg (o.length-(R+1))
    case measure=>omega
    case rel=>
     refine⟨R+1,0,rfl,Cok.zero om,?_,?_,?_,.inr ?_⟩;rotate_right
     ·rcases HST.out with⟨rfl,rfl,_⟩|hs
      ·rw[Jao HQ.out];exact kba (by have:=Xav HPO.out (Nat.le_of_eq hdd);omega)
      ·exact hs
     ·rw[<-HSK.out,jbd HQ.out HPO.out hdd]
     ·have hx1:Bx I b [v,R,Y]:=⟨z,fun j u Q=>by
       match j,Q with
       |0,Q=>simp at Q;subst Q;exact⟨c0,g0⟩
       |1,Q=>simp at Q;subst Q;exact⟨c1,g1⟩
       |2,Q=>simp at Q;subst Q;exact⟨c2,g2⟩⟩
      exact(hx1.set 1 (.int .i64 ((R+1:Nat):Int))).set 2 (.int .i64 ((0:Nat):Int))
     ·exact((HW.out.trans (Wr.of_below N)).put (b:=b) (o:=1) (Kaa.2 ⟨rfl,by simp,by simp⟩) _).put (b:=b) (o:=2) (Kaa.2 ⟨rfl,by simp,by simp⟩) _
   ·have hdl:Y<nsz q:=om;have hde:((Y:Int)==Kbc q)=false:=by rw[HSZ.out];simp;omega
    have hke:((R:Int)==(o.length:Int))=false:=by simp;omega
    have hki:(R:Int)<(o.length:Int):=om;have HV:Hid ((hd (skip (qab o k d))).kind=q.kind):=hH (by rw[<-HSK.out,Ka5 HQ.out HPO.out hdl,Jao HQ.out];show(cutR q Y).kind=_;unfold cutR;split<;>rfl)
    go_wp2_with fail
    obtain⟨X,hX,F,hF,M⟩:=zae wr;obtain⟨Z,a0,a1⟩:=mx3 hF z c0 c1 c2;have fe0:∀x,(F x).cell? ⟨J,o1,none⟩=some (.int .i64 q.kind):=fun x=>((hF x).cell (p:=⟨J,o1,none⟩) U).trans e0
    obtain⟨fe1,fe2⟩:=mx2 hF U e1 e2;have HF:=hH hF;have D:=hH M;clear hF M;have HS:=hH (fun(W':World) (hb:Below wr wr W')=>(by have:=Kat q vg _ (HRS.out.below hb);exact this:Calls Tryz.prog 184 #[.agg #[q.kind,q.n,vg]] W' (yae W' (.int .i64 (Kbc q)))))
    refine uaa (F:=F) (by kernel_rfl) (by kernel_rfl) (D.out _ (lf _ _).drew) ?_
    repeat(go_big_quiet_step ((go_at_call 184;(with_reducible exact Calls.fam_tells HF.out D.out (HS.out _ (HF.out _))))))
    refine wpQuiet_nil ?_;intro x;obtain⟨I,B⟩:∃wx:World,F x=wx:=⟨_,rfl⟩;have N:Below wr wr I:=by rw[<-B];exact HF.out x
    rw[B];clear B Z a0 a1 fe0 fe1 fe2 HF D;have s1:=N.size;replace c0:I.cell? ⟨b,0,none⟩=some (v):=(N.cell (p:=⟨b,0,none⟩) z).trans c0;replace c1:I.cell? ⟨b,1,none⟩=some (.int .i64 R):=(N.cell (p:=⟨b,1,none⟩) z).trans c1;replace c2:I.cell? ⟨b,2,none⟩=some (.int .i64 Y):=(N.cell (p:=⟨b,2,none⟩) z).trans c2;replace e0:I.cell? ⟨J,o1,none⟩=some (.int .i64 q.kind):=(N.cell (p:=⟨J,o1,none⟩) U).trans e0;replace e1:I.cell? ⟨J,o1+1,none⟩=some (.int .i64 q.n):=(N.cell (p:=⟨J,o1+1,none⟩) U).trans e1;replace e2:I.cell? ⟨J,o1+2,none⟩=some (vg):=(N.cell (p:=⟨J,o1+2,none⟩) U).trans e2;replace g0:I.frozen? ⟨b,0,none⟩=false:=(N.frozen (p:=⟨b,0,none⟩) z).trans g0;replace g1:I.frozen? ⟨b,1,none⟩=false:=(N.frozen (p:=⟨b,1,none⟩) z).trans g1;replace g2:I.frozen? ⟨b,2,none⟩=false:=(N.frozen (p:=⟨b,2,none⟩) z).trans g2;replace U:=lq U s1;replace z:=lq z s1;go_wp2_with fail
    obtain⟨X,hX,F,hF,M⟩:=zae I;obtain⟨Z,a0,a1⟩:=mx3 hF z c0 c1 c2;have fe0:∀x,(F x).cell? ⟨J,o1,none⟩=some (.int .i64 q.kind):=fun x=>((hF x).cell (p:=⟨J,o1,none⟩) U).trans e0
    obtain⟨fe1,fe2⟩:=mx2 hF U e1 e2;have HF:=hH hF;have D:=hH M;clear hF M;refine uaa (F:=F) (by kernel_rfl) (by kernel_rfl) (D.out _ (lf _ _).drew) ?_
    repeat(go_big_quiet_step (fail))
    refine wpQuiet_nil ?_;intro x;obtain⟨w2,B⟩:∃wx:World,F x=wx:=⟨_,rfl⟩;have B2:Below I I w2:=by rw[<-B];exact HF.out x
    rw[B];clear B Z a0 a1 fe0 fe1 fe2 HF D;have s2:=B2.size;replace c0:w2.cell? ⟨b,0,none⟩=some (v):=(B2.cell (p:=⟨b,0,none⟩) z).trans c0;replace c1:w2.cell? ⟨b,1,none⟩=some (.int .i64 R):=(B2.cell (p:=⟨b,1,none⟩) z).trans c1;replace c2:w2.cell? ⟨b,2,none⟩=some (.int .i64 Y):=(B2.cell (p:=⟨b,2,none⟩) z).trans c2;replace e0:w2.cell? ⟨J,o1,none⟩=some (.int .i64 q.kind):=(B2.cell (p:=⟨J,o1,none⟩) U).trans e0;replace e1:w2.cell? ⟨J,o1+1,none⟩=some (.int .i64 q.n):=(B2.cell (p:=⟨J,o1+1,none⟩) U).trans e1;replace e2:w2.cell? ⟨J,o1+2,none⟩=some (vg):=(B2.cell (p:=⟨J,o1+2,none⟩) U).trans e2;replace g0:w2.frozen? ⟨b,0,none⟩=false:=(B2.frozen (p:=⟨b,0,none⟩) z).trans g0;replace g1:w2.frozen? ⟨b,1,none⟩=false:=(B2.frozen (p:=⟨b,1,none⟩) z).trans g1;replace g2:w2.frozen? ⟨b,2,none⟩=false:=(B2.frozen (p:=⟨b,2,none⟩) z).trans g2;replace U:=lq U s2;replace z:=lq z s2;go_wp2_with fail
    obtain⟨X,hX,F,hF,M⟩:=zae w2;obtain⟨Z,a0,a1⟩:=mx3 hF z c0 c1 c2;have fe0:∀x,(F x).cell? ⟨J,o1,none⟩=some (.int .i64 q.kind):=fun x=>((hF x).cell (p:=⟨J,o1,none⟩) U).trans e0
    obtain⟨fe1,fe2⟩:=mx2 hF U e1 e2;have HF:=hH hF;have D:=hH M;clear hF M;refine uaa (F:=F) (by kernel_rfl) (by kernel_rfl) (D.out _ (lf _ _).drew) ?_
    repeat(go_big_quiet_step (fail))
    refine wpQuiet_nil ?_;intro x;obtain⟨w3,B⟩:∃wx:World,F x=wx:=⟨_,rfl⟩;have B3:Below w2 w2 w3:=by rw[<-B];exact HF.out x
    rw[B];clear B Z a0 a1 fe0 fe1 fe2 HF D;have s3:=B3.size;replace c0:w3.cell? ⟨b,0,none⟩=some (v):=(B3.cell (p:=⟨b,0,none⟩) z).trans c0;replace c1:w3.cell? ⟨b,1,none⟩=some (.int .i64 R):=(B3.cell (p:=⟨b,1,none⟩) z).trans c1;replace c2:w3.cell? ⟨b,2,none⟩=some (.int .i64 Y):=(B3.cell (p:=⟨b,2,none⟩) z).trans c2;replace e0:w3.cell? ⟨J,o1,none⟩=some (.int .i64 q.kind):=(B3.cell (p:=⟨J,o1,none⟩) U).trans e0;replace e1:w3.cell? ⟨J,o1+1,none⟩=some (.int .i64 q.n):=(B3.cell (p:=⟨J,o1+1,none⟩) U).trans e1;replace e2:w3.cell? ⟨J,o1+2,none⟩=some (vg):=(B3.cell (p:=⟨J,o1+2,none⟩) U).trans e2;replace g0:w3.frozen? ⟨b,0,none⟩=false:=(B3.frozen (p:=⟨b,0,none⟩) z).trans g0;replace g1:w3.frozen? ⟨b,1,none⟩=false:=(B3.frozen (p:=⟨b,1,none⟩) z).trans g1;replace g2:w3.frozen? ⟨b,2,none⟩=false:=(B3.frozen (p:=⟨b,2,none⟩) z).trans g2;replace U:=lq U s3;replace z:=lq z s3;go_wp2;go_ret;refine⟨R,Y,Jah (by rw[HV.out]),⟨z,fun j u Q=>by
     match j,Q with
     |0,Q=>simp at Q;subst Q;exact⟨c0,g0⟩
     |1,Q=>simp at Q;subst Q;exact⟨c1,g1⟩
     |2,Q=>simp at Q;subst Q;exact⟨c2,g2⟩⟩,HC'.out,?_,((HW.out.trans (Wr.of_below N)).trans (Wr.of_below B2)).trans (Wr.of_below B3),fun hs=> ?_⟩
    rotate_left
    ·rcases HST.out with⟨rfl,rfl,b0⟩|hs2
     ·have:=b0.size;exact⟨rfl,rfl,((b0.trans (N.mono om)).trans (B2.mono om)).trans (B3.mono om)⟩
     ·exact absurd hs hs2
    rw[<-HSK.out,Ka5 HQ.out HPO.out hdl]
  ·have hke:((R:Int)==(o.length:Int))=true:=by simp;omega
   have hki:¬(R:Int)<(o.length:Int):=om;have HV:Hid ((hd (skip (qab o k d))).kind=0):=hH (by rw[<-HSK.out,JaY om];rfl)
   go_wp2_with fail
   obtain⟨X,hX,F,hF,M⟩:=zae wr;obtain⟨Z,a0,a1⟩:=mx3 hF z c0 c1 c2;have HF:=hH hF;have D:=hH M;clear hF M;refine uaa (F:=F) (by kernel_rfl) (by kernel_rfl) (D.out _ (lf _ _).drew) ?_
   repeat(go_big_quiet_step (fail))
   refine wpQuiet_nil ?_;intro x;obtain⟨I,B⟩:∃wx:World,F x=wx:=⟨_,rfl⟩;have N:Below wr wr I:=by rw[<-B];exact HF.out x
   rw[B];clear B Z a0 a1 HF D;have s1:=N.size;replace c0:I.cell? ⟨b,0,none⟩=some (v):=(N.cell (p:=⟨b,0,none⟩) z).trans c0;replace c1:I.cell? ⟨b,1,none⟩=some (.int .i64 R):=(N.cell (p:=⟨b,1,none⟩) z).trans c1;replace c2:I.cell? ⟨b,2,none⟩=some (.int .i64 Y):=(N.cell (p:=⟨b,2,none⟩) z).trans c2;replace g0:I.frozen? ⟨b,0,none⟩=false:=(N.frozen (p:=⟨b,0,none⟩) z).trans g0;replace g1:I.frozen? ⟨b,1,none⟩=false:=(N.frozen (p:=⟨b,1,none⟩) z).trans g1;replace g2:I.frozen? ⟨b,2,none⟩=false:=(N.frozen (p:=⟨b,2,none⟩) z).trans g2;replace z:=lq z s1;go_wp2_with fail
   obtain⟨X,hX,F,hF,M⟩:=zae I;obtain⟨Z,a0,a1⟩:=mx3 hF z c0 c1 c2;have HF:=hH hF;have D:=hH M;clear hF M;refine uaa (F:=F) (by kernel_rfl) (by kernel_rfl) (D.out _ (lf _ _).drew) ?_
   repeat(go_big_quiet_step (fail))
   refine wpQuiet_nil ?_;intro x;obtain⟨w2,B⟩:∃wx:World,F x=wx:=⟨_,rfl⟩;have B2:Below I I w2:=by rw[<-B];exact HF.out x
   rw[B];clear B Z a0 a1 HF D;have s2:=B2.size;replace c0:w2.cell? ⟨b,0,none⟩=some (v):=(B2.cell (p:=⟨b,0,none⟩) z).trans c0;replace c1:w2.cell? ⟨b,1,none⟩=some (.int .i64 R):=(B2.cell (p:=⟨b,1,none⟩) z).trans c1;replace c2:w2.cell? ⟨b,2,none⟩=some (.int .i64 Y):=(B2.cell (p:=⟨b,2,none⟩) z).trans c2;replace g0:w2.frozen? ⟨b,0,none⟩=false:=(B2.frozen (p:=⟨b,0,none⟩) z).trans g0;replace g1:w2.frozen? ⟨b,1,none⟩=false:=(B2.frozen (p:=⟨b,1,none⟩) z).trans g1;replace g2:w2.frozen? ⟨b,2,none⟩=false:=(B2.frozen (p:=⟨b,2,none⟩) z).trans g2;replace z:=lq z s2;go_wp2;go_ret;refine⟨R,Y,Jah (by rw[HV.out]),⟨z,fun j u Q=>by
    match j,Q with
    |0,Q=>simp at Q;subst Q;exact⟨c0,g0⟩
    |1,Q=>simp at Q;subst Q;exact⟨c1,g1⟩
    |2,Q=>simp at Q;subst Q;exact⟨c2,g2⟩⟩,HC'.out,?_,(HW.out.trans (Wr.of_below N)).trans (Wr.of_below B2),fun hs=> ?_⟩
   rotate_left
   ·rcases HST.out with⟨rfl,rfl,b0⟩|hs2
    ·have:=b0.size;exact⟨rfl,rfl,(b0.trans (N.mono om)).trans (B2.mono om)⟩
    ·exact absurd hs hs2
   rw[<-HSK.out,JaY om,zaE om]
theorem qam (w0:World)(b:Nat)(v:Value)(o:List zaa)(k d:Nat)(p:zaa)(l:List zaa)(w:World)(Y:Bx w b [v,k,d])(h:RdS w0 v o)(N:Below w0 w0 w)(u:o.all kab=true)(hc:Cok o k d)(z:qab o k d=p::l):Calls Tryz.prog 181 #[.pointer (some ⟨b,0,none⟩)] w (yae w (.int .i64 (nsz p))):=by
 obtain⟨q,hq,hpo,R,hn2,hdn,Q,hkp,_,B⟩:=xaJ u hc z;obtain⟨zl,c0,c1,c2,g0,g1,g2⟩:=Y.q3;have rr:=h.below N;have HX:=hH Y;have a0:=hH Q;have HPUT:=hH B;obtain⟨J,o1,cs,i1,Z,i3⟩:=rr.idx Tryz.underlying30 uae k hq;obtain⟨vg,rfl,j⟩:=xah i3;have e0:=Z.zero;have e1:w.cell? ⟨J,o1+1,none⟩=some _:=Z 1 _ rfl;have e2:w.cell? ⟨J,o1+2,none⟩=some _:=Z 2 _ rfl;have l1:J<w.heap.size:=lk (w:=w) (a:=⟨J,o1,none⟩) e0;have a1:=hH j;clear Z i3 j;clear u hc Y h N B z hkp hpo Q;go_enter Tryz.func181,Tryz.ntmps181
 go_wp2_with fail
 obtain⟨X,Y,F,hF,M⟩:=zae w;obtain⟨fc0,fc1,fc2⟩:=mx3 hF zl c0 c1 c2;have fe0:∀x,(F x).cell? ⟨J,o1,none⟩=some (.int .i64 q.kind):=fun x=>((hF x).cell (p:=⟨J,o1,none⟩) l1).trans e0
 obtain⟨fe1,fe2⟩:=mx2 hF l1 e1 e2;have U:=hH hF;have D:=hH M;clear hF M;have HS:=hH (fun(W':World) (hb:Below w w W')=>(by have:=Kat q vg _ (a1.out.below hb);rw[R]at this;exact this:Calls Tryz.prog 184 #[.agg #[q.kind,q.n,vg]] W' (yae W' (.int .i64 (nsz q)))))
 refine uaa (F:=F) (by kernel_rfl) (by kernel_rfl) (D.out _ (lf _ _).drew) ?_
 repeat(go_big_quiet_step ((go_at_call 184;(with_reducible exact Calls.fam_tells U.out D.out (HS.out _ (U.out _))))))
 refine wpQuiet_nil ?_;intro x;obtain⟨w1,I⟩:∃wx:World,F x=wx:=⟨_,rfl⟩;have B1:Below w w w1:=by rw[<-I];exact U.out x
 rw[I];clear I fc0 fc1 fc2 fe0 fe1 fe2 U D;clear R;go_wp2;go_ret;exact⟨Jah (by have:=a0.out;omega),B1⟩
theorem Zat (w0:World)(b:Nat)(v:Value)(o:List zaa)(k d:Nat)(p:zaa)(l:List zaa)(w:World)(hX:Bx w b [v,k,d])(h:RdS w0 v o)(hb0:w0.heap.size<=b)(D:Below w0 w0 w)(U:o.all kab=true)(hc:Cok o k d)(Y:qab o k d=p::l)(k2:p.kind=2):Calls Tryz.prog 182 #[.pointer (some ⟨b,0,none⟩),(nsz p)] w (fun e w'=>∃vs,e= .returned vs/\RdS w' vs p.signs/\Bx w' b [v,k,.int .i64 ((d+nsz p:Nat):Int)]/\Wr (own b 0 3) w w'):=by
 obtain⟨q,hq,hpo,hsz,hn2,hdn,hnp,hkp,_,M⟩:=xaJ U hc Y;obtain⟨R,c0,c1,c2,g0,g1,g2⟩:=hX.q3;have rr:=h.below D;have HX:=hH hX;have HNP:=hH hnp;have HPUT:=hH M;have hkq:q.kind=2:=om;obtain⟨hps,hql⟩:=M hkq;obtain⟨z,o1,cs,i1,i2,i3⟩:=h.idx Tryz.underlying30 uae k hq;obtain⟨vg,rfl,B⟩:=xah i3;have e0:=i2.zero;have e1:w0.cell? ⟨z,o1+1,none⟩=some _:=i2 1 _ rfl;have e2:w0.cell? ⟨z,o1+2,none⟩=some _:=i2 2 _ rfl;have J:z<w0.heap.size:=lk (w:=w0) (a:=⟨z,o1,none⟩) e0;have HRS:=hH B;clear i2 i3 B;replace e0:w.cell? ⟨z,o1,none⟩=some _:=(D.cell (p:=⟨z,o1,none⟩) J).trans e0;replace e1:w.cell? ⟨z,o1+1,none⟩=some _:=(D.cell (p:=⟨z,o1+1,none⟩) J).trans e1;replace e2:w.cell? ⟨z,o1+2,none⟩=some _:=(D.cell (p:=⟨z,o1+2,none⟩) J).trans e2;replace J:=lq J D.size;have HBW:=hH D;obtain⟨vs,hcut,Z⟩:=HRS.out.cut Tryz.underlying31 (E:=3) (fun _=>by kernel_rfl) (lo:=d) (hi:=d+nsz p) om om
 have HVS:Hid (RdS w0 vs p.signs):=hH (by rw[hps];have e:d+nsz p=q.signs.length:=om;rw[e,List.take_length]at Z;exact Z)
 rw[Int.natCast_add]at hcut;have hpb:nsz p<=200:=om;have hdb:d<=200:=om;clear U hc hX h D rr M Y hkp hpo hsz hps Z hql hkq k2 hnp;go_enter Tryz.func182,Tryz.ntmps182
 go_wp2_with fail
 obtain⟨X,hX,F,hF,hFs⟩:=zae w;obtain⟨fc0,fc1,fc2⟩:=mx3 hF R c0 c1 c2;have fe0:∀x,(F x).cell? ⟨z,o1,none⟩=some (.int .i64 q.kind):=fun x=>((hF x).cell (p:=⟨z,o1,none⟩) J).trans e0
 obtain⟨fe1,fe2⟩:=mx2 hF J e1 e2;have HF:=hH hF;have HFs:=hH hFs;clear hF hFs;refine uaa (F:=F) (by kernel_rfl) (by kernel_rfl) (HFs.out _ (lf _ _).drew) ?_
 repeat(go_big_quiet_step (fail))
 refine wpQuiet_nil ?_;intro x;obtain⟨N,a0⟩:∃wx:World,F x=wx:=⟨_,rfl⟩;have I:Below w w N:=by rw[<-a0];exact HF.out x
 rw[a0];clear a0 fc0 fc1 fc2 fe0 fe1 fe2 HF HFs;have s1:=I.size;replace c0:N.cell? ⟨b,0,none⟩=some (v):=(I.cell (p:=⟨b,0,none⟩) R).trans c0;replace c1:N.cell? ⟨b,1,none⟩=some (.int .i64 k):=(I.cell (p:=⟨b,1,none⟩) R).trans c1;replace c2:N.cell? ⟨b,2,none⟩=some (.int .i64 d):=(I.cell (p:=⟨b,2,none⟩) R).trans c2;replace e0:N.cell? ⟨z,o1,none⟩=some (.int .i64 q.kind):=(I.cell (p:=⟨z,o1,none⟩) J).trans e0;replace e1:N.cell? ⟨z,o1+1,none⟩=some (.int .i64 q.n):=(I.cell (p:=⟨z,o1+1,none⟩) J).trans e1;replace e2:N.cell? ⟨z,o1+2,none⟩=some (vg):=(I.cell (p:=⟨z,o1+2,none⟩) J).trans e2;replace g0:N.frozen? ⟨b,0,none⟩=false:=(I.frozen (p:=⟨b,0,none⟩) R).trans g0;replace g1:N.frozen? ⟨b,1,none⟩=false:=(I.frozen (p:=⟨b,1,none⟩) R).trans g1;replace g2:N.frozen? ⟨b,2,none⟩=false:=(I.frozen (p:=⟨b,2,none⟩) R).trans g2;replace J:=lq J s1;replace R:=lq R s1;go_wp2;go_ret;have hx1:Bx N b [v,k,d]:=⟨R,fun j u Q=>by
  match j,Q with
  |0,Q=>simp at Q;subst Q;exact⟨c0,g0⟩
  |1,Q=>simp at Q;subst Q;exact⟨c1,g1⟩
  |2,Q=>simp at Q;subst Q;exact⟨c2,g2⟩⟩
 refine⟨vs,rfl,HVS.out.below ((HBW.out.trans (I.mono HBW.out.size)).setCell (p:=⟨b,2,none⟩) hb0 _),?_,(Wr.of_below I).put (b:=b) (o:=2) (Kaa.2 ⟨rfl,by simp,by simp⟩) _⟩
 have:=hx1.set 2 (.int .i64 ((d+nsz p:Nat):Int));rw[Int.natCast_add]at this⊢;exact this
