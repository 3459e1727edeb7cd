/- Calls that are in order: what the reference asks; a call with the fields alone that its kind uses. -/
import Derived.Test.YtocdogemgojgaaaGreatRaf
set_option maxHeartbeats 8000000
set_option maxRecDepth 100000
namespace Go.Proofs.YtocdogemgojgaaaGreat
open Go.RowKit
def jap (k:Int):Bool:=within k 1 5
def qag (c:xah):xah:=
 ⟨c.kind,if jap c.kind=true then c.doc else ByteArray.empty,if c.kind=2\/c.kind=6\/c.kind=7 then c.client else 0,if c.kind=2 then c.seq else 0,
  if c.kind=2\/c.kind=3\/c.kind=5\/c.kind=6 then c.n else 0,if c.kind=2 then c.o else[],if c.kind=1 then c.text else[]⟩
def Qac (c:xah):Bool:=within c.kind 1 8&&decide (c.doc.size<=8)&&vah c.o&&uae c.text&&decide (c=qag c)
theorem zaN {c:xah}(j:within c.kind 1 8=true)(n:c.doc.size<=8)(p:vah c.o=true)(q:uae c.text=true):Qac c=decide (c=qag c):=by simp[Qac,j,n,p,q]
theorem kinds {k:Int}(h:within k 1 8=true):k=1\/k=2\/k=3\/k=4\/k=5\/k=6\/k=7\/k=8:=by
 rw[within_iff]at h;omega
theorem XaU {d:ByteArray}(h:d=ByteArray.empty):(d.toList==[])=true:=by rw[h];simp
theorem ka2 (k:Int)(w:World):Calls Tryz.prog 124 #[k] w (uac w (.bool (jap k))):=by
 go_enter Tryz.func124,Tryz.ntmps124
 go_wp2_with fail
 refine(Kaa k 1 5 _).mono ?_;rintro e n ⟨rfl,j⟩;go_wp2;go_ret;exact⟨rfl,blw⟩
theorem Ja2 (k:Int)(w:World):Calls Tryz.prog 136 #[k] w (uac w (.bool (jap k))):=by
 go_enter Tryz.func136,Tryz.ntmps136
 go_wp2_with fail
 refine(Qaa k 1 5 _).mono ?_;rintro e n ⟨rfl,j⟩;go_wp2;go_ret;exact⟨rfl,blw⟩
theorem QaR (k:Int)(w:World):Calls Tryz.prog 121 #[k] w (uac w (.bool (within k 1 8))):=by
 go_enter Tryz.func121,Tryz.ntmps121
 go_wp2_with fail
 refine(Kaa k 1 8 _).mono ?_;rintro e n ⟨rfl,j⟩;go_wp2;go_ret;exact⟨rfl,blw⟩
theorem QaW (c:xah)(Y I:Value)(w:World)(Q:RdS w Y c.o)(D:RdS w I c.text):
 Calls Tryz.prog 53 #[.agg #[c.kind,c.doc,c.client,c.seq,c.n,Y,I]] w (uac w (.bool (Qac c))):=by
 have hlo:=fun R ty=>Q.len Tryz.underlying30 R ty
 have hlt:=fun R ty=>D.len Tryz.underlying31 R ty
 have blo:=Q.le;have blt:=D.le;obtain⟨kind,doc,client,seq,n,z,text⟩:=c;simp only at Q D hlo hlt blo blt;show Calls Tryz.prog 53 #[.agg #[kind,doc,client,seq,n,Y,I]] w _;go_enter Tryz.func53,Tryz.ntmps53
 go_wp2_with fail
 refine(QaR _ _).mono ?_;rintro e R ⟨rfl,hb⟩;have M:=hH ((Bx.new rfl).at hb);have j:=hH (((lf w w).alloc om _).trans (hb.mono om));have K:=M.out.o7;clear hb;by_cases h1:within kind 1 8=true
 rotate_left
 ·replace h1:within kind 1 8=false:=by simpa using h1
  have q:Hid (Qac ⟨kind,doc,client,seq,n,z,text⟩=false):=hH (by simp[Qac,h1])
  go_wp2;go_ret;exact⟨qaa q.out.symm,j.out.trans ((show Below R R _ from blw).mono j.out.size)⟩
 by_cases h2:doc.size<=8
 rotate_left
 ·skip
  have q:Hid (Qac ⟨kind,doc,client,seq,n,z,text⟩=false):=hH (by simp[Qac,h2])
  go_wp2;go_ret;exact⟨qaa q.out.symm,j.out.trans ((show Below R R _ from blw).mono j.out.size)⟩
 go_wp2_with fail
 refine(yaq _ z _ (Q.below j.out)).mono ?_;rintro e w2 ⟨rfl,hb⟩;replace M:=hH (M.out.at hb);replace j:=hH (j.out.trans (hb.mono j.out.size));clear K;have K:=M.out.o7;clear hb;by_cases h3:vah z=true
 rotate_left
 ·replace h3:vah z=false:=by simpa using h3
  have q:Hid (Qac ⟨kind,doc,client,seq,n,z,text⟩=false):=hH (by simp[Qac,h3])
  go_wp2;go_ret;exact⟨qaa q.out.symm,j.out.trans ((show Below w2 w2 _ from blw).mono j.out.size)⟩
 go_wp2_with fail
 refine(Xaj _ text _ (D.below j.out)).mono ?_;rintro e w3 ⟨rfl,hb⟩;replace M:=hH (M.out.at hb);replace j:=hH (j.out.trans (hb.mono j.out.size));clear K;have K:=M.out.o7;clear hb;by_cases h4:uae text=true
 rotate_left
 ·replace h4:uae text=false:=by simpa using h4
  have q:Hid (Qac ⟨kind,doc,client,seq,n,z,text⟩=false):=hH (by simp[Qac,h4])
  go_wp2;go_ret;exact⟨qaa q.out.symm,j.out.trans ((show Below w3 w3 _ from blw).mono j.out.size)⟩
 have B:=hH (zaN (c:=⟨kind,doc,client,seq,n,z,text⟩) h1 h2 h3 h4);go_wp2_with fail
 refine(ka2 _ _).mono ?_;rintro e u ⟨rfl,hb⟩;replace M:=hH (M.out.at hb);replace j:=hH (j.out.trans (hb.mono j.out.size));clear K;have K:=M.out.o7;clear hb;rcases kinds h1 with rfl|rfl|rfl|rfl|rfl|rfl|rfl|rfl
 all_goals clear h1
 ·have p:jap 1=true:=by decide
  by_cases t:z=[]
  rotate_left
  ·have q:=hH (show Qac ⟨1,doc,client,seq,n,z,text⟩=false by rw[B.out];simp[qag,p,t])
   have g:0<z.length:=List.length_pos_iff.2 t;clear t;go_wp2;go_ret;exact⟨qaa q.out.symm,j.out.trans ((show Below u u _ from blw).mono j.out.size)⟩
  have Z:z.length=0:=by rw[t];rfl
  have J:=hH t;clear t;by_cases t:seq=0
  rotate_left
  ·have q:=hH (show Qac ⟨1,doc,client,seq,n,z,text⟩=false by rw[B.out];simp[qag,p,t])
   have g:(seq !=0)=true:=by simpa using t
   clear t;go_wp2;go_ret;exact⟨qaa q.out.symm,j.out.trans ((show Below u u _ from blw).mono j.out.size)⟩
  have gS:(seq !=0)=false:=by rw[t];simp
  have TS:=hH t;clear t;by_cases t:client=0
  rotate_left
  ·have q:=hH (show Qac ⟨1,doc,client,seq,n,z,text⟩=false by rw[B.out];simp[qag,p,t])
   have g:(client==0)=false:=by simpa using t
   clear t;go_wp2;go_ret;exact⟨qaa q.out.symm,j.out.trans ((show Below u u _ from blw).mono j.out.size)⟩
  have gC:(client==0)=true:=by rw[t];simp
  have N:=hH t;clear t;by_cases t:n=0
  rotate_left
  ·have q:=hH (show Qac ⟨1,doc,client,seq,n,z,text⟩=false by rw[B.out];simp[qag,p,t])
   have g:(n==0)=false:=by simpa using t
   clear t;go_wp2;go_ret;exact⟨qaa q.out.symm,j.out.trans ((show Below u u _ from blw).mono j.out.size)⟩
  have gN:(n==0)=true:=by rw[t];simp
  have U:=hH t;clear t;have q:=hH (show Qac ⟨1,doc,client,seq,n,z,text⟩=true by rw[B.out];simp[qag,p,J.out,TS.out,N.out,U.out])
  go_wp2;go_ret;exact⟨qaa q.out.symm,j.out.trans ((show Below u u _ from blw).mono j.out.size)⟩
 ·have p:jap 2=true:=by decide
  by_cases t:text=[]
  rotate_left
  ·have q:=hH (show Qac ⟨2,doc,client,seq,n,z,text⟩=false by rw[B.out];simp[qag,p,t])
   have g:0<text.length:=List.length_pos_iff.2 t;clear t;go_wp2;go_ret;exact⟨qaa q.out.symm,j.out.trans ((show Below u u _ from blw).mono j.out.size)⟩
  have gX:text.length=0:=by rw[t];rfl
  have TX:=hH t;clear t;have q:=hH (show Qac ⟨2,doc,client,seq,n,z,text⟩=true by rw[B.out];simp[qag,p,TX.out])
  go_wp2;go_ret;exact⟨qaa q.out.symm,j.out.trans ((show Below u u _ from blw).mono j.out.size)⟩
 ·have p:jap 3=true:=by decide
  by_cases t:text=[]
  rotate_left
  ·have q:=hH (show Qac ⟨3,doc,client,seq,n,z,text⟩=false by rw[B.out];simp[qag,p,t])
   have g:0<text.length:=List.length_pos_iff.2 t;clear t;go_wp2;go_ret;exact⟨qaa q.out.symm,j.out.trans ((show Below u u _ from blw).mono j.out.size)⟩
  have gX:text.length=0:=by rw[t];rfl
  have TX:=hH t;clear t;by_cases t:z=[]
  rotate_left
  ·have q:=hH (show Qac ⟨3,doc,client,seq,n,z,text⟩=false by rw[B.out];simp[qag,p,t])
   have g:0<z.length:=List.length_pos_iff.2 t;clear t;go_wp2;go_ret;exact⟨qaa q.out.symm,j.out.trans ((show Below u u _ from blw).mono j.out.size)⟩
  have Z:z.length=0:=by rw[t];rfl
  have J:=hH t;clear t;by_cases t:seq=0
  rotate_left
  ·have q:=hH (show Qac ⟨3,doc,client,seq,n,z,text⟩=false by rw[B.out];simp[qag,p,t])
   have g:(seq !=0)=true:=by simpa using t
   clear t;go_wp2;go_ret;exact⟨qaa q.out.symm,j.out.trans ((show Below u u _ from blw).mono j.out.size)⟩
  have gS:(seq !=0)=false:=by rw[t];simp
  have TS:=hH t;clear t;by_cases t:client=0
  rotate_left
  ·have q:=hH (show Qac ⟨3,doc,client,seq,n,z,text⟩=false by rw[B.out];simp[qag,p,t])
   have g:(client==0)=false:=by simpa using t
   clear t;go_wp2;go_ret;exact⟨qaa q.out.symm,j.out.trans ((show Below u u _ from blw).mono j.out.size)⟩
  have gC:(client==0)=true:=by rw[t];simp
  have N:=hH t;clear t;have q:=hH (show Qac ⟨3,doc,client,seq,n,z,text⟩=true by rw[B.out];simp[qag,p,TX.out,J.out,TS.out,N.out])
  go_wp2;go_ret;exact⟨qaa q.out.symm,j.out.trans ((show Below u u _ from blw).mono j.out.size)⟩
 ·have p:jap 4=true:=by decide
  by_cases t:text=[]
  rotate_left
  ·have q:=hH (show Qac ⟨4,doc,client,seq,n,z,text⟩=false by rw[B.out];simp[qag,p,t])
   have g:0<text.length:=List.length_pos_iff.2 t;clear t;go_wp2;go_ret;exact⟨qaa q.out.symm,j.out.trans ((show Below u u _ from blw).mono j.out.size)⟩
  have gX:text.length=0:=by rw[t];rfl
  have TX:=hH t;clear t;by_cases t:z=[]
  rotate_left
  ·have q:=hH (show Qac ⟨4,doc,client,seq,n,z,text⟩=false by rw[B.out];simp[qag,p,t])
   have g:0<z.length:=List.length_pos_iff.2 t;clear t;go_wp2;go_ret;exact⟨qaa q.out.symm,j.out.trans ((show Below u u _ from blw).mono j.out.size)⟩
  have Z:z.length=0:=by rw[t];rfl
  have J:=hH t;clear t;by_cases t:seq=0
  rotate_left
  ·have q:=hH (show Qac ⟨4,doc,client,seq,n,z,text⟩=false by rw[B.out];simp[qag,p,t])
   have g:(seq !=0)=true:=by simpa using t
   clear t;go_wp2;go_ret;exact⟨qaa q.out.symm,j.out.trans ((show Below u u _ from blw).mono j.out.size)⟩
  have gS:(seq !=0)=false:=by rw[t];simp
  have TS:=hH t;clear t;by_cases t:client=0
  rotate_left
  ·have q:=hH (show Qac ⟨4,doc,client,seq,n,z,text⟩=false by rw[B.out];simp[qag,p,t])
   have g:(client==0)=false:=by simpa using t
   clear t;go_wp2;go_ret;exact⟨qaa q.out.symm,j.out.trans ((show Below u u _ from blw).mono j.out.size)⟩
  have gC:(client==0)=true:=by rw[t];simp
  have N:=hH t;clear t;by_cases t:n=0
  rotate_left
  ·have q:=hH (show Qac ⟨4,doc,client,seq,n,z,text⟩=false by rw[B.out];simp[qag,p,t])
   have g:(n==0)=false:=by simpa using t
   clear t;go_wp2;go_ret;exact⟨qaa q.out.symm,j.out.trans ((show Below u u _ from blw).mono j.out.size)⟩
  have gN:(n==0)=true:=by rw[t];simp
  have U:=hH t;clear t;have q:=hH (show Qac ⟨4,doc,client,seq,n,z,text⟩=true by rw[B.out];simp[qag,p,TX.out,J.out,TS.out,N.out,U.out])
  go_wp2;go_ret;exact⟨qaa q.out.symm,j.out.trans ((show Below u u _ from blw).mono j.out.size)⟩
 ·have p:jap 5=true:=by decide
  by_cases t:text=[]
  rotate_left
  ·have q:=hH (show Qac ⟨5,doc,client,seq,n,z,text⟩=false by rw[B.out];simp[qag,p,t])
   have g:0<text.length:=List.length_pos_iff.2 t;clear t;go_wp2;go_ret;exact⟨qaa q.out.symm,j.out.trans ((show Below u u _ from blw).mono j.out.size)⟩
  have gX:text.length=0:=by rw[t];rfl
  have TX:=hH t;clear t;by_cases t:z=[]
  rotate_left
  ·have q:=hH (show Qac ⟨5,doc,client,seq,n,z,text⟩=false by rw[B.out];simp[qag,p,t])
   have g:0<z.length:=List.length_pos_iff.2 t;clear t;go_wp2;go_ret;exact⟨qaa q.out.symm,j.out.trans ((show Below u u _ from blw).mono j.out.size)⟩
  have Z:z.length=0:=by rw[t];rfl
  have J:=hH t;clear t;by_cases t:seq=0
  rotate_left
  ·have q:=hH (show Qac ⟨5,doc,client,seq,n,z,text⟩=false by rw[B.out];simp[qag,p,t])
   have g:(seq !=0)=true:=by simpa using t
   clear t;go_wp2;go_ret;exact⟨qaa q.out.symm,j.out.trans ((show Below u u _ from blw).mono j.out.size)⟩
  have gS:(seq !=0)=false:=by rw[t];simp
  have TS:=hH t;clear t;by_cases t:client=0
  rotate_left
  ·have q:=hH (show Qac ⟨5,doc,client,seq,n,z,text⟩=false by rw[B.out];simp[qag,p,t])
   have g:(client==0)=false:=by simpa using t
   clear t;go_wp2;go_ret;exact⟨qaa q.out.symm,j.out.trans ((show Below u u _ from blw).mono j.out.size)⟩
  have gC:(client==0)=true:=by rw[t];simp
  have N:=hH t;clear t;have q:=hH (show Qac ⟨5,doc,client,seq,n,z,text⟩=true by rw[B.out];simp[qag,p,TX.out,J.out,TS.out,N.out])
  go_wp2;go_ret;exact⟨qaa q.out.symm,j.out.trans ((show Below u u _ from blw).mono j.out.size)⟩
 ·have p:jap 6=false:=by decide
  by_cases t:doc=ByteArray.empty
  rotate_left
  ·have q:=hH (show Qac ⟨6,doc,client,seq,n,z,text⟩=false by rw[B.out];simp[qag,p,t])
   have g:(doc.toList==[])=false:=by have:=xaR t;simpa using this
   have g2:doc.toList.isEmpty=false:=by have:=xaR t;simpa using this
   clear t;go_wp2;go_ret;exact⟨qaa q.out.symm,j.out.trans ((show Below u u _ from blw).mono j.out.size)⟩
  have gD:=XaU t;have gD2:doc.toList.isEmpty=true:=by rw[t];simp
  have TD:=hH t;clear t;by_cases t:text=[]
  rotate_left
  ·have q:=hH (show Qac ⟨6,doc,client,seq,n,z,text⟩=false by rw[B.out];simp[qag,p,t])
   have g:0<text.length:=List.length_pos_iff.2 t;clear t;go_wp2;go_ret;exact⟨qaa q.out.symm,j.out.trans ((show Below u u _ from blw).mono j.out.size)⟩
  have gX:text.length=0:=by rw[t];rfl
  have TX:=hH t;clear t;by_cases t:z=[]
  rotate_left
  ·have q:=hH (show Qac ⟨6,doc,client,seq,n,z,text⟩=false by rw[B.out];simp[qag,p,t])
   have g:0<z.length:=List.length_pos_iff.2 t;clear t;go_wp2;go_ret;exact⟨qaa q.out.symm,j.out.trans ((show Below u u _ from blw).mono j.out.size)⟩
  have Z:z.length=0:=by rw[t];rfl
  have J:=hH t;clear t;by_cases t:seq=0
  rotate_left
  ·have q:=hH (show Qac ⟨6,doc,client,seq,n,z,text⟩=false by rw[B.out];simp[qag,p,t])
   have g:(seq !=0)=true:=by simpa using t
   clear t;go_wp2;go_ret;exact⟨qaa q.out.symm,j.out.trans ((show Below u u _ from blw).mono j.out.size)⟩
  have gS:(seq !=0)=false:=by rw[t];simp
  have TS:=hH t;clear t;have q:=hH (show Qac ⟨6,doc,client,seq,n,z,text⟩=true by rw[B.out];simp[qag,p,TD.out,TX.out,J.out,TS.out])
  go_wp2;go_ret;exact⟨qaa q.out.symm,j.out.trans ((show Below u u _ from blw).mono j.out.size)⟩
 ·have p:jap 7=false:=by decide
  by_cases t:doc=ByteArray.empty
  rotate_left
  ·have q:=hH (show Qac ⟨7,doc,client,seq,n,z,text⟩=false by rw[B.out];simp[qag,p,t])
   have g:(doc.toList==[])=false:=by have:=xaR t;simpa using this
   have g2:doc.toList.isEmpty=false:=by have:=xaR t;simpa using this
   clear t;go_wp2;go_ret;exact⟨qaa q.out.symm,j.out.trans ((show Below u u _ from blw).mono j.out.size)⟩
  have gD:=XaU t;have gD2:doc.toList.isEmpty=true:=by rw[t];simp
  have TD:=hH t;clear t;by_cases t:text=[]
  rotate_left
  ·have q:=hH (show Qac ⟨7,doc,client,seq,n,z,text⟩=false by rw[B.out];simp[qag,p,t])
   have g:0<text.length:=List.length_pos_iff.2 t;clear t;go_wp2;go_ret;exact⟨qaa q.out.symm,j.out.trans ((show Below u u _ from blw).mono j.out.size)⟩
  have gX:text.length=0:=by rw[t];rfl
  have TX:=hH t;clear t;by_cases t:z=[]
  rotate_left
  ·have q:=hH (show Qac ⟨7,doc,client,seq,n,z,text⟩=false by rw[B.out];simp[qag,p,t])
   have g:0<z.length:=List.length_pos_iff.2 t;clear t;go_wp2;go_ret;exact⟨qaa q.out.symm,j.out.trans ((show Below u u _ from blw).mono j.out.size)⟩
  have Z:z.length=0:=by rw[t];rfl
  have J:=hH t;clear t;by_cases t:seq=0
  rotate_left
  ·have q:=hH (show Qac ⟨7,doc,client,seq,n,z,text⟩=false by rw[B.out];simp[qag,p,t])
   have g:(seq !=0)=true:=by simpa using t
   clear t;go_wp2;go_ret;exact⟨qaa q.out.symm,j.out.trans ((show Below u u _ from blw).mono j.out.size)⟩
  have gS:(seq !=0)=false:=by rw[t];simp
  have TS:=hH t;clear t;by_cases t:n=0
  rotate_left
  ·have q:=hH (show Qac ⟨7,doc,client,seq,n,z,text⟩=false by rw[B.out];simp[qag,p,t])
   have g:(n==0)=false:=by simpa using t
   clear t;go_wp2;go_ret;exact⟨qaa q.out.symm,j.out.trans ((show Below u u _ from blw).mono j.out.size)⟩
  have gN:(n==0)=true:=by rw[t];simp
  have U:=hH t;clear t;have q:=hH (show Qac ⟨7,doc,client,seq,n,z,text⟩=true by rw[B.out];simp[qag,p,TD.out,TX.out,J.out,TS.out,U.out])
  go_wp2;go_ret;exact⟨qaa q.out.symm,j.out.trans ((show Below u u _ from blw).mono j.out.size)⟩
 ·have p:jap 8=false:=by decide
  by_cases t:doc=ByteArray.empty
  rotate_left
  ·have q:=hH (show Qac ⟨8,doc,client,seq,n,z,text⟩=false by rw[B.out];simp[qag,p,t])
   have g:(doc.toList==[])=false:=by have:=xaR t;simpa using this
   have g2:doc.toList.isEmpty=false:=by have:=xaR t;simpa using this
   clear t;go_wp2;go_ret;exact⟨qaa q.out.symm,j.out.trans ((show Below u u _ from blw).mono j.out.size)⟩
  have gD:=XaU t;have gD2:doc.toList.isEmpty=true:=by rw[t];simp
  have TD:=hH t;clear t;by_cases t:text=[]
  rotate_left
  ·have q:=hH (show Qac ⟨8,doc,client,seq,n,z,text⟩=false by rw[B.out];simp[qag,p,t])
   have g:0<text.length:=List.length_pos_iff.2 t;clear t;go_wp2;go_ret;exact⟨qaa q.out.symm,j.out.trans ((show Below u u _ from blw).mono j.out.size)⟩
  have gX:text.length=0:=by rw[t];rfl
  have TX:=hH t;clear t;by_cases t:z=[]
  rotate_left
  ·have q:=hH (show Qac ⟨8,doc,client,seq,n,z,text⟩=false by rw[B.out];simp[qag,p,t])
   have g:0<z.length:=List.length_pos_iff.2 t;clear t;go_wp2;go_ret;exact⟨qaa q.out.symm,j.out.trans ((show Below u u _ from blw).mono j.out.size)⟩
  have Z:z.length=0:=by rw[t];rfl
  have J:=hH t;clear t;by_cases t:seq=0
  rotate_left
  ·have q:=hH (show Qac ⟨8,doc,client,seq,n,z,text⟩=false by rw[B.out];simp[qag,p,t])
   have g:(seq !=0)=true:=by simpa using t
   clear t;go_wp2;go_ret;exact⟨qaa q.out.symm,j.out.trans ((show Below u u _ from blw).mono j.out.size)⟩
  have gS:(seq !=0)=false:=by rw[t];simp
  have TS:=hH t;clear t;by_cases t:client=0
  rotate_left
  ·have q:=hH (show Qac ⟨8,doc,client,seq,n,z,text⟩=false by rw[B.out];simp[qag,p,t])
   have g:(client==0)=false:=by simpa using t
   clear t;go_wp2;go_ret;exact⟨qaa q.out.symm,j.out.trans ((show Below u u _ from blw).mono j.out.size)⟩
  have gC:(client==0)=true:=by rw[t];simp
  have N:=hH t;clear t;by_cases t:n=0
  rotate_left
  ·have q:=hH (show Qac ⟨8,doc,client,seq,n,z,text⟩=false by rw[B.out];simp[qag,p,t])
   have g:(n==0)=false:=by simpa using t
   clear t;go_wp2;go_ret;exact⟨qaa q.out.symm,j.out.trans ((show Below u u _ from blw).mono j.out.size)⟩
  have gN:(n==0)=true:=by rw[t];simp
  have U:=hH t;clear t;have q:=hH (show Qac ⟨8,doc,client,seq,n,z,text⟩=true by rw[B.out];simp[qag,p,TD.out,TX.out,J.out,TS.out,N.out,U.out])
  go_wp2;go_ret;exact⟨qaa q.out.symm,j.out.trans ((show Below u u _ from blw).mono j.out.size)⟩
def vbm (w:World)(c:xah)(e:Ending)(w':World):Prop:=
 ∃vo vt,e= .returned (.agg #[c.kind,c.doc,c.client,c.seq,c.n,vo,vt])/\RdS w' vo c.o/\RdS w' vt c.text/\Below w w w'
theorem ya5 (c:xah)(B q:Value)(w:World)(D:within c.kind 1 8=true)(z:RdS w B c.o)(j:RdS w q c.text):
 Calls Tryz.prog 64 #[.agg #[c.kind,c.doc,c.client,c.seq,c.n,B,q]] w (vbm w (qag c)):=by
 obtain⟨kind,doc,client,seq,n,u,text⟩:=c;simp only at D z j;show Calls Tryz.prog 64 #[.agg #[kind,doc,client,seq,n,B,q]] w _;obtain⟨Q,R,rfl⟩:=z.isSlice;obtain⟨at_,U,rfl⟩:=j.isSlice
 rcases kinds D with rfl|rfl|rfl|rfl|rfl|rfl|rfl|rfl
 rw[show qag ⟨1,doc,client,seq,n,u,text⟩=⟨1,doc,0,0,0,[],text⟩ by simp[qag,jap,within]]
 have p:jap 1=true:=by decide
 rotate_left;rw[show qag ⟨2,doc,client,seq,n,u,text⟩=⟨2,doc,client,seq,n,u,[]⟩ by simp[qag,jap,within]]
 have p:jap 2=true:=by decide
 rotate_left;rw[show qag ⟨3,doc,client,seq,n,u,text⟩=⟨3,doc,0,0,n,[],[]⟩ by simp[qag,jap,within]]
 have p:jap 3=true:=by decide
 rotate_left;rw[show qag ⟨4,doc,client,seq,n,u,text⟩=⟨4,doc,0,0,0,[],[]⟩ by simp[qag,jap,within]]
 have p:jap 4=true:=by decide
 rotate_left;rw[show qag ⟨5,doc,client,seq,n,u,text⟩=⟨5,doc,0,0,n,[],[]⟩ by simp[qag,jap,within]]
 have p:jap 5=true:=by decide
 rotate_left;rw[show qag ⟨6,doc,client,seq,n,u,text⟩=⟨6,ByteArray.empty,client,0,n,[],[]⟩ by simp[qag,jap,within]]
 have p:jap 6=false:=by decide
 rotate_left;rw[show qag ⟨7,doc,client,seq,n,u,text⟩=⟨7,ByteArray.empty,client,0,0,[],[]⟩ by simp[qag,jap,within]]
 have p:jap 7=false:=by decide
 rotate_left;rw[show qag ⟨8,doc,client,seq,n,u,text⟩=⟨8,ByteArray.empty,0,0,0,[],[]⟩ by simp[qag,jap,within]]
 have p:jap 8=false:=by decide
 rotate_left;all_goals
  clear D;go_enter Tryz.func64,Tryz.ntmps64
  go_wp2_with fail
  refine(Ja2 _ _).mono ?_;rintro e I ⟨rfl,hb⟩;have J:=hH ((((Bx.new rfl).alloc _).alloc _).at hb);have M:Hid (Bx I (w+1) _):=hH (((Bx.new sm).alloc _).at hb);have N:Hid (Bx I (w+2) _):=hH ((Bx.new sm).at hb);have X:Below w w I:=((((lf w w).alloc om _).alloc om _).alloc om _).trans (hb.mono om);clear hb;obtain⟨z0,Y,Z,a2,a3,a4,a5,a6⟩:=J.out.o7;obtain⟨z1,b0,b1,b2,b3,b4,b5,b6,c0,c1,c2,c3,c4,c5,c6⟩:=M.out.q7;obtain⟨z2,d0,d1,d2,d3,d4,d5,d6,e0,e1,e2,e3,e4,e5,e6⟩:=N.out.q7;rw[p];clear p;go_wp2
 ·exact bodyPost_ret (v:= .agg #[.int .i64 1,doc,zI,zI,zI,zN,.slice at_ text.length U]) (by simp[results,Tryz.results64,go_sem,xaa, *]) rfl ⟨_,_,rfl,RdS.nil,j.below blw,blw⟩
 ·go_region
  all_goals
   repeat go_step
   exact bodyPost_ret (v:= .agg #[.int .i64 2,doc,client,seq,n,.slice Q u.length R,zN]) (by simp[results,Tryz.results64,go_sem,xaa, *]) rfl ⟨_,_,rfl,z.below blw,RdS.nil,blw⟩
 ·exact bodyPost_ret (v:= .agg #[.int .i64 3,doc,zI,zI,n,zN,zN]) (by simp[results,Tryz.results64,go_sem,xaa, *]) rfl ⟨_,_,rfl,RdS.nil,RdS.nil,blw⟩
 ·exact bodyPost_ret (v:= .agg #[.int .i64 4,doc,zI,zI,zI,zN,zN]) (by simp[results,Tryz.results64,go_sem,xaa, *]) rfl ⟨_,_,rfl,RdS.nil,RdS.nil,blw⟩
 ·exact bodyPost_ret (v:= .agg #[.int .i64 5,doc,zI,zI,n,zN,zN]) (by simp[results,Tryz.results64,go_sem,xaa, *]) rfl ⟨_,_,rfl,RdS.nil,RdS.nil,blw⟩
 ·go_region
  all_goals
   repeat go_step
   exact bodyPost_ret (v:= .agg #[.int .i64 6,.string ⟨#[]⟩,client,zI,n,zN,zN]) (by simp[results,Tryz.results64,go_sem,xaa, *]) rfl ⟨_,_,rfl,RdS.nil,RdS.nil,blw⟩
 ·exact bodyPost_ret (v:= .agg #[.int .i64 7,.string ⟨#[]⟩,client,zI,zI,zN,zN]) (by simp[results,Tryz.results64,go_sem,xaa, *]) rfl ⟨_,_,rfl,RdS.nil,RdS.nil,blw⟩
 ·exact bodyPost_ret (v:= .agg #[.int .i64 8,.string ⟨#[]⟩,zI,zI,zI,zN,zN]) (by simp[results,Tryz.results64,go_sem,xaa, *]) rfl ⟨_,_,rfl,RdS.nil,RdS.nil,blw⟩
