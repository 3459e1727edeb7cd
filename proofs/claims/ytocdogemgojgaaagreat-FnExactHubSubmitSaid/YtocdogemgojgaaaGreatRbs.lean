/- Rebase: both walks. -/
import Derived.Test.YtocdogemgojgaaaGreatPst
import Derived.Test.YtocdogemgojgaaaGreatDfn
import Derived.Test.YtocdogemgojgaaaGreatDfo
set_option maxHeartbeats 4000000
set_option maxRecDepth 100000
namespace Go.Proofs.YtocdogemgojgaaaGreat
open Go.RowKit
theorem rebase_no {d:DDoc}{base:Int}{o:List DPart}(h:¬(docOk d=true/\opOk o=true)):rebase d base o=([],1):=if_neg h
theorem rebase_future {d:DDoc}{base:Int}{o:List DPart}(h:docOk d=true/\opOk o=true)(j:headRev d<base):rebase d base o=([],2):=by unfold rebase;rw[if_pos h,if_pos j]
theorem rebase_old {d:DDoc}{base:Int}{o:List DPart}(h:docOk d=true/\opOk o=true)(j:¬headRev d<base)(n:base<d.from_):rebase d base o=([],3):=by unfold rebase;rw[if_pos h,if_neg j,if_pos n]
theorem rebase_from {d:DDoc}{base:Int}{o:List DPart}(h:docOk d=true/\opOk o=true)(j:¬headRev d<base)(n:¬base<d.from_)(p:¬opFrom o=(textAt d base).1.length):rebase d base o=([],1):=by unfold rebase;rw[if_pos h,if_neg j,if_neg n,if_neg p]
theorem rebase_large {d:DDoc}{base:Int}{o:List DPart}(h:docOk d=true/\opOk o=true)(j:¬headRev d<base)(n:¬base<d.from_)(p:opFrom o=(textAt d base).1.length)(q:past (opsSince d base).1 o=none):rebase d base o=([],5):=by unfold rebase;rw[if_pos h,if_neg j,if_neg n,if_pos p,q]
theorem rebase_yes {d:DDoc}{base:Int}{o:List DPart}{z:List (List DPart)×List DPart}(h:docOk d=true/\opOk o=true)(j:¬headRev d<base)(n:¬base<d.from_)(p:opFrom o=(textAt d base).1.length)(q:past (opsSince d base).1 o=some z):rebase d base o=(z.2,0):=by unfold rebase;rw[if_pos h,if_neg j,if_neg n,if_pos p,q]
theorem atRev_mk {d:DDoc}{base:Int}(h:docOk d=true)(j:¬headRev d<base)(n:¬base<d.from_):atRev d base:=⟨h,by omega,by omega⟩
theorem spec_Rebase_c (d:DDoc)(J D I:Value)(base:Int)(vo:Value)(o:List DPart)(w:World)(B:d.name.size<=BIG)(u:RdS w J d.text)(p:RdS w D d.list)(q:RdS w I d.seen)(ho:RdS w vo o):
 Calls Tryz.prog 166 #[.agg #[.string d.name,.int .i64 d.from_,J,D,I],.int .i64 base,vo] w (Out_PartS_i w (rebase d base o).1 (rebase d base o).2):=by
 go_enter Tryz.func166,Tryz.ntmps166
 go_wp2_with fail
 refine(spec_DocOk_c d _ _ _ _ B (u.below ((lf w.heap.size w).alloc om _)) (p.below ((lf w.heap.size w).alloc om _)) (q.below ((lf w.heap.size w).alloc om _))).mono ?_;rintro e' w1 ⟨rfl,hb1⟩;have s1:w.heap.size+1<=w1.heap.size:=by have:=hb1.size;(try simp at this);omega
 have j:=hH (((lf w.heap.size w).alloc om _).trans (hb1.mono om));have n:Hid (Bx w1 (w.heap.size) [.string d.name,.int .i64 d.from_,J,D,I]):=hH ((Bx.new (by first|rfl|simp|omega)).at hb1)
 have Kd:=n.out.o5;clear hb1;by_cases h1:docOk d=true
 rotate_left
 ·have h1:docOk d=false:=by simpa using h1
  rw[h1];have Q:=hH (rebase_no (base:=base) (o:=o) (d:=d) fun h=>by rw[h1]at h;cases h.1)
  go_wp2;have N:Hid (Below w.heap.size w w1):=hH j.out;rw[Q.out];exact bodyPost_ret (v:= .tuple #[.slice none 0 0,.int .i64 1]) (by simp[results,Tryz.results166,go_sem, *]) rfl ⟨_,_,rfl,Sl.nil,Fresh.nil _ _,N.out⟩
 rw[h1];go_wp2_with fail
 refine(spec_OpOk_c _ o _ (ho.below j.out)).mono ?_;rintro e' w2 ⟨rfl,hb2⟩;have s2:w1.heap.size<=w2.heap.size:=by have:=hb2.size;(try simp at this);omega
 replace j:=hH (j.out.trans (hb2.mono om));replace n:=hH (n.out.at hb2);replace Kd:=n.out.o5;clear hb2;by_cases h2:opOk o=true
 rotate_left
 ·have h2:opOk o=false:=by simpa using h2
  rw[h2];have Q:=hH (rebase_no (base:=base) (o:=o) (d:=d) fun h=>by rw[h2]at h;cases h.2)
  go_wp2;have N:Hid (Below w.heap.size w w2):=hH j.out;rw[Q.out];exact bodyPost_ret (v:= .tuple #[.slice none 0 0,.int .i64 1]) (by simp[results,Tryz.results166,go_sem, *]) rfl ⟨_,_,rfl,Sl.nil,Fresh.nil _ _,N.out⟩
 rw[h2];obtain⟨bh0,bh1,bf0,bf1⟩:=headRev_bd h1;have Y:=hH (And.intro h1 h2);go_wp2_with fail
 refine(spec_HeadRev_c d _ _ _ _ (p.below j.out) (by omega) (by omega)).mono ?_
 rintro e' w3 ⟨rfl,hb3⟩;have s3:w2.heap.size<=w3.heap.size:=by have:=hb3.size;(try simp at this);omega
 replace j:=hH (j.out.trans (hb3.mono om));replace n:=hH (n.out.at hb3);replace Kd:=n.out.o5;clear hb3;by_cases h3:headRev d<base
 ·have Q:=hH (rebase_future Y.out h3);go_wp2;have N:Hid (Below w.heap.size w w3):=hH j.out;rw[Q.out];exact bodyPost_ret (v:= .tuple #[.slice none 0 0,.int .i64 2]) (by simp[results,Tryz.results166,go_sem, *]) rfl ⟨_,_,rfl,Sl.nil,Fresh.nil _ _,N.out⟩
 by_cases h4:base<d.from_
 ·have Q:=hH (rebase_old Y.out h3 h4);go_wp2;have N:Hid (Below w.heap.size w w3):=hH j.out;rw[Q.out];exact bodyPost_ret (v:= .tuple #[.slice none 0 0,.int .i64 3]) (by simp[results,Tryz.results166,go_sem, *]) rfl ⟨_,_,rfl,Sl.nil,Fresh.nil _ _,N.out⟩
 have HAR:=hH (atRev_mk h1 h3 h4);have H3:Hid (base<=headRev d):=hH (by omega)
 have H4:Hid (d.from_<=base):=hH (by omega)
 go_wp2_with fail
 refine(spec_TextAt_c d _ _ _ base _ B (u.below j.out) (p.below j.out) (q.below j.out)).mono ?_;rintro e' w4 ⟨vt,ft,rfl,st,kt,hb4⟩;have HST:=hH st;obtain⟨at_,ct,rfl⟩:=RdS.isSlice ⟨_,st⟩
 clear st kt;have s4:w3.heap.size<=w4.heap.size:=by have:=hb4.size;(try simp at this);omega
 replace j:=hH (j.out.trans (hb4.mono om));replace n:=hH (n.out.at hb4);replace Kd:=n.out.o5;clear hb4;go_wp2_with fail
 refine(spec_OpFrom_c _ o _ (ho.below j.out)).mono ?_;rintro e' w5 ⟨rfl,hb5⟩;have s5:w4.heap.size<=w5.heap.size:=by have:=hb5.size;(try simp at this);omega
 replace j:=hH (j.out.trans (hb5.mono om));replace n:=hH (n.out.at hb5);replace Kd:=n.out.o5;clear hb5;by_cases h5:opFrom o=((textAt d base).1.length:Int)
 rotate_left
 ·have Q:=hH (rebase_from Y.out (Int.not_lt.2 H3.out) (Int.not_lt.2 H4.out) h5);have h5b:(opFrom o==((textAt d base).1.length:Int))=false:=by simpa using h5
  clear h5;go_wp2;have N:Hid (Below w.heap.size w w5):=hH j.out;rw[Q.out];exact bodyPost_ret (v:= .tuple #[.slice none 0 0,.int .i64 1]) (by simp[results,Tryz.results166,go_sem, *]) rfl ⟨_,_,rfl,Sl.nil,Fresh.nil _ _,N.out⟩
 have H5:=hH h5;have h5b:(opFrom o==((textAt d base).1.length:Int))=true:=by simpa using h5
 have HLN:Hid ((opsSince d base).1.length<=1000):=hH (by rw[opsSince_yes HAR.out];have:=(docOk_iff.1 h1).len;simp[opsL];omega)
 clear h5;go_wp2_with fail
 refine(spec_OpsSince_c d _ _ _ base _ B (u.below j.out) (p.below j.out) (q.below j.out)).mono ?_;rintro e' w6 ⟨vl,fl,rfl,sl,kl,hb6⟩;have HSL:Hid (RdS w6 vl (opsSince d base).1):=hH ⟨_,sl⟩;clear sl kl;have s6:w5.heap.size<=w6.heap.size:=by have:=hb6.size;(try simp at this);omega
 replace j:=hH (j.out.trans (hb6.mono om));replace n:=hH (n.out.at hb6);replace Kd:=n.out.o5;clear hb6;go_wp2_with fail
 refine(spec_Past_c _ _ _ o _ HSL.out (ho.below j.out) HLN.out).mono ?_;rintro e' w7 ⟨vp,rfl,hop,hb7⟩;have HOP:Hid (OwnS w.heap.size w7 vp (pastY (opsSince d base).1 o)):=hH (hop.mono om);clear hop HSL;have s7:w6.heap.size<=w7.heap.size:=by have:=hb7.size;(try simp at this);omega
 replace j:=hH (j.out.trans (hb7.mono om));replace n:=hH (n.out.at hb7);replace Kd:=n.out.o5;clear hb7;rcases hp:past (opsSince d base).1 o with _|z
 ·have Q:=hH (rebase_large Y.out (Int.not_lt.2 H3.out) (Int.not_lt.2 H4.out) H5.out hp);clear hp;try dsimp only[Option.isSome]
  go_wp2;have N:Hid (Below w.heap.size w w7):=hH j.out;rw[Q.out];exact bodyPost_ret (v:= .tuple #[.slice none 0 0,.int .i64 5]) (by simp[results,Tryz.results166,go_sem, *]) rfl ⟨_,_,rfl,Sl.nil,Fresh.nil _ _,N.out⟩
 have Q:=hH (rebase_yes Y.out (Int.not_lt.2 H3.out) (Int.not_lt.2 H4.out) H5.out hp);have HPY:Hid (pastY (opsSince d base).1 o=z.2):=hH (by unfold pastY;rw[hp])
 have HAP:Hid ((applyP z.2 (headText d)).2=true):=hH (past_apply HAR.out h2 H5.out hp);clear hp;try dsimp only[Option.isSome]
 obtain⟨fp,sp,kp⟩:=HOP.out;have M:Hid (Sl BIG w7 vp z.2 fp):=hH (by rw[<-HPY.out];exact sp)
 have Z:=hH kp;clear sp kp;go_wp2_with fail
 refine(spec_HeadText_c d _ _ _ _ B (u.below j.out) (p.below j.out) (q.below j.out)).mono ?_;rintro e' w8 ⟨vh,fh,rfl,sh,kh,R⟩;have HSH:Hid (RdS w8 vh (headText d)):=hH ⟨_,sh⟩;replace Z:=hH (Z.out.belowL R (Live.lt M.out.live));replace M:=hH (M.out.belowW R);clear sh kh;have s8:w7.heap.size<=w8.heap.size:=by have:=R.size;(try simp at this);omega
 replace j:=hH (j.out.trans (R.mono om));replace n:=hH (n.out.at R);replace Kd:=n.out.o5;clear R;go_wp2_with fail
 refine(spec_Apply_c z.2 (headText d) _ _ _ ⟨_,M.out⟩ HSH.out).mono ?_;rintro e' w9 ⟨va,fa,rfl,sa,ka,U⟩;rw[HAP.out];replace Z:=hH (Z.out.belowL U (Live.lt M.out.live));replace M:=hH (M.out.belowW U);clear sa ka;have s9:w8.heap.size<=w9.heap.size:=by have:=U.size;(try simp at this);omega
 replace j:=hH (j.out.trans (U.mono om));replace n:=hH (n.out.at U);replace Kd:=n.out.o5;clear U;go_wp2;have N:Hid (Below w.heap.size w w9):=hH j.out;rw[Q.out];exact bodyPost_ret (v:= .tuple #[vp,.int .i64 0]) (by simp[results,Tryz.results166,go_sem, *]) rfl ⟨_,fp,rfl,M.out,Z.out,N.out⟩
theorem impl_Rebase_c (d:DDoc)(J D I:Value)(base:Int)(vo:Value)(o:List DPart)(w:World)(B:d.name.size<=BIG)(u:RdS w J d.text)(p:RdS w D d.list)(q:RdS w I d.seen)(ho:RdS w vo o):
 Calls Tryz.prog 173 #[.agg #[.string d.name,.int .i64 d.from_,J,D,I],.int .i64 base,vo] w (Out_PartS_i w (rebase d base o).1 (rebase d base o).2):=by
 go_enter Tryz.func173,Tryz.ntmps173
 go_wp2_with fail
 refine(impl_DocOk_c d _ _ _ _ B (u.below ((lf w.heap.size w).alloc om _)) (p.below ((lf w.heap.size w).alloc om _)) (q.below ((lf w.heap.size w).alloc om _))).mono ?_;rintro e' w1 ⟨rfl,Y⟩;have s1:w.heap.size+1<=w1.heap.size:=by have:=Y.size;(try simp at this);omega
 have j:=hH (((lf w.heap.size w).alloc om _).trans (Y.mono om));have n:Hid (Bx w1 (w.heap.size) [.string d.name,.int .i64 d.from_,J,D,I]):=hH ((Bx.new (by first|rfl|simp|omega)).at Y)
 have Kd:=n.out.o5;clear Y;by_cases U:docOk d=true
 rotate_left
 ·have U:docOk d=false:=by simpa using U
  rw[U];have Q:=hH (rebase_no (base:=base) (o:=o) (d:=d) fun h=>by rw[U]at h;cases h.1)
  go_wp2;have N:Hid (Below w.heap.size w w1):=hH j.out;rw[Q.out];exact bodyPost_ret (v:= .tuple #[.slice none 0 0,.int .i64 1]) (by simp[results,Tryz.results173,go_sem, *]) rfl ⟨_,_,rfl,Sl.nil,Fresh.nil _ _,N.out⟩
 rw[U];go_wp2_with fail
 refine(impl_OpOk_c _ o _ (ho.below j.out)).mono ?_;rintro e' w2 ⟨rfl,Z⟩;have s2:w1.heap.size<=w2.heap.size:=by have:=Z.size;(try simp at this);omega
 replace j:=hH (j.out.trans (Z.mono om));replace n:=hH (n.out.at Z);replace Kd:=n.out.o5;clear Z;by_cases h2:opOk o=true
 rotate_left
 ·have h2:opOk o=false:=by simpa using h2
  rw[h2];have Q:=hH (rebase_no (base:=base) (o:=o) (d:=d) fun h=>by rw[h2]at h;cases h.2)
  go_wp2;have N:Hid (Below w.heap.size w w2):=hH j.out;rw[Q.out];exact bodyPost_ret (v:= .tuple #[.slice none 0 0,.int .i64 1]) (by simp[results,Tryz.results173,go_sem, *]) rfl ⟨_,_,rfl,Sl.nil,Fresh.nil _ _,N.out⟩
 rw[h2];obtain⟨bh0,bh1,bf0,bf1⟩:=headRev_bd U;have R:=hH (And.intro U h2);go_wp2_with fail
 refine(impl_atBase_c d _ _ _ base _ (p.below j.out) (by omega) (by omega)).mono ?_
 rintro e' w3 ⟨rfl,a0⟩;have s3:w2.heap.size<=w3.heap.size:=by have:=a0.size;(try simp at this);omega
 replace j:=hH (j.out.trans (a0.mono om));replace n:=hH (n.out.at a0);replace Kd:=n.out.o5;clear a0;by_cases h3:headRev d<base
 ·have M:atBase d base=2:=by unfold atBase;rw[if_pos h3]
  rw[M];clear M;have Q:=hH (rebase_future R.out h3);go_wp2;have N:Hid (Below w.heap.size w w3):=hH j.out;rw[Q.out];exact bodyPost_ret (v:= .tuple #[.slice none 0 0,.int .i64 2]) (by simp[results,Tryz.results173,go_sem, *]) rfl ⟨_,_,rfl,Sl.nil,Fresh.nil _ _,N.out⟩
 by_cases h4:base<d.from_
 ·have M:atBase d base=3:=by unfold atBase;rw[if_neg h3,if_pos h4]
  rw[M];clear M;have Q:=hH (rebase_old R.out h3 h4);go_wp2;have N:Hid (Below w.heap.size w w3):=hH j.out;rw[Q.out];exact bodyPost_ret (v:= .tuple #[.slice none 0 0,.int .i64 3]) (by simp[results,Tryz.results173,go_sem, *]) rfl ⟨_,_,rfl,Sl.nil,Fresh.nil _ _,N.out⟩
 have M:atBase d base=0:=by unfold atBase;rw[if_neg h3,if_neg h4]
 rw[M];clear M;have HAR:=hH (atRev_mk U h3 h4);have H3:Hid (base<=headRev d):=hH (by omega)
 have H4:Hid (d.from_<=base):=hH (by omega)
 go_wp2_with fail
 refine(impl_TextAt_c d _ _ _ base _ B (u.below j.out) (p.below j.out) (q.below j.out)).mono ?_;rintro e' w4 ⟨vt,ft,rfl,st,kt,a1⟩;have HST:=hH st;obtain⟨at_,ct,rfl⟩:=RdS.isSlice ⟨_,st⟩
 clear st kt;have s4:w3.heap.size<=w4.heap.size:=by have:=a1.size;(try simp at this);omega
 replace j:=hH (j.out.trans (a1.mono om));replace n:=hH (n.out.at a1);replace Kd:=n.out.o5;clear a1;go_wp2_with fail
 refine(impl_OpFrom_c _ o _ (ho.below j.out)).mono ?_;rintro e' w5 ⟨rfl,a2⟩;have s5:w4.heap.size<=w5.heap.size:=by have:=a2.size;(try simp at this);omega
 replace j:=hH (j.out.trans (a2.mono om));replace n:=hH (n.out.at a2);replace Kd:=n.out.o5;clear a2;by_cases h5:opFrom o=((textAt d base).1.length:Int)
 rotate_left
 ·have Q:=hH (rebase_from R.out (Int.not_lt.2 H3.out) (Int.not_lt.2 H4.out) h5);have h5b:(opFrom o==((textAt d base).1.length:Int))=false:=by simpa using h5
  clear h5;go_wp2;have N:Hid (Below w.heap.size w w5):=hH j.out;rw[Q.out];exact bodyPost_ret (v:= .tuple #[.slice none 0 0,.int .i64 1]) (by simp[results,Tryz.results173,go_sem, *]) rfl ⟨_,_,rfl,Sl.nil,Fresh.nil _ _,N.out⟩
 have H5:=hH h5;have h5b:(opFrom o==((textAt d base).1.length:Int))=true:=by simpa using h5
 have HLN:Hid ((opsSince d base).1.length<=1000):=hH (by rw[opsSince_yes HAR.out];have:=(docOk_iff.1 U).len;simp[opsL];omega)
 clear h5;go_wp2_with fail
 refine(impl_OpsSince_c d _ _ _ base _ B (u.below j.out) (p.below j.out) (q.below j.out)).mono ?_;rintro e' w6 ⟨vl,fl,rfl,sl,kl,a3⟩;have HSL:Hid (RdS w6 vl (opsSince d base).1):=hH ⟨_,sl⟩;clear sl kl;have s6:w5.heap.size<=w6.heap.size:=by have:=a3.size;(try simp at this);omega
 replace j:=hH (j.out.trans (a3.mono om));replace n:=hH (n.out.at a3);replace Kd:=n.out.o5;clear a3;go_wp2_with fail
 refine(impl_Past_c _ _ _ o _ HSL.out (ho.below j.out) HLN.out).mono ?_;rintro e' w7 ⟨vp,rfl,hop,a4⟩;have HOP:Hid (OwnS w.heap.size w7 vp (pastY (opsSince d base).1 o)):=hH (hop.mono om);clear hop HSL;have s7:w6.heap.size<=w7.heap.size:=by have:=a4.size;(try simp at this);omega
 replace j:=hH (j.out.trans (a4.mono om));replace n:=hH (n.out.at a4);replace Kd:=n.out.o5;clear a4;rcases hp:past (opsSince d base).1 o with _|z
 ·have Q:=hH (rebase_large R.out (Int.not_lt.2 H3.out) (Int.not_lt.2 H4.out) H5.out hp);clear hp;try dsimp only[Option.isSome]
  go_wp2;have N:Hid (Below w.heap.size w w7):=hH j.out;rw[Q.out];exact bodyPost_ret (v:= .tuple #[.slice none 0 0,.int .i64 5]) (by simp[results,Tryz.results173,go_sem, *]) rfl ⟨_,_,rfl,Sl.nil,Fresh.nil _ _,N.out⟩
 have Q:=hH (rebase_yes R.out (Int.not_lt.2 H3.out) (Int.not_lt.2 H4.out) H5.out hp);have HPY:Hid (pastY (opsSince d base).1 o=z.2):=hH (by unfold pastY;rw[hp])
 have HAP:Hid ((applyP z.2 (headText d)).2=true):=hH (past_apply HAR.out h2 H5.out hp);clear hp;try dsimp only[Option.isSome]
 obtain⟨fp,sp,kp⟩:=HOP.out;have HSP:Hid (Sl BIG w7 vp z.2 fp):=hH (by rw[<-HPY.out];exact sp)
 have HKP:=hH kp;clear sp kp;go_wp2;have N:Hid (Below w.heap.size w w7):=hH j.out;rw[Q.out];exact bodyPost_ret (v:= .tuple #[vp,.int .i64 0]) (by simp[results,Tryz.results173,go_sem, *]) rfl ⟨_,fp,rfl,HSP.out,HKP.out,N.out⟩
theorem parts_szL:∀{o:List DPart},o.all partOk=true->szL o<=201*o.length
 |[],_=>by simp[szL,szs]
 |p::l,h=>by
  simp only[List.all_cons,Bool.and_eq_true]at h;have n:=parts_szL h.2;have q:p.signs.length<=200:=by
   rcases partOk_cases h.1 with⟨_,_,_,j⟩|⟨_,_,j,_⟩|⟨_,_,_,j⟩
   ·rw[j];simp
   ·exact j
   ·rw[j];simp
  have e:GoS.sz p=p.signs.length:=szL_int p.signs;simp only[szL,szs,List.length_cons]at n⊢;omega
theorem rebase_ok {d:DDoc}{base:Int}{o:List DPart}(h:(rebase d base o).2=0):opOk (rebase d base o).1=true/\isNorm (rebase d base o).1=true/\(applyP (rebase d base o).1 (headText d)).2=true:=by
 unfold rebase at h⊢;split at h
 ·rename_i j
  rw[if_pos j];split at h
  ·simp at h
  ·rename_i p
   rw[if_neg p];split at h
   ·simp at h
   ·rename_i q
    rw[if_neg q];split at h
    ·rename_i n
     rw[if_pos n];rcases hp:past (opsSince d base).1 o with _|z
     ·rw[hp]at h;simp at h
     ·simp only;have u:=atRev_mk j.1 p q;obtain⟨B,D,_⟩:=past_head u j.2 n hp;exact⟨B,D,past_apply u j.2 n hp⟩
    ·simp at h
 ·simp at h
