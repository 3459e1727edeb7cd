/- Polling a ring. -/
import Derived.Test.YtocdogemgojgaaaGreatQbn
set_option maxHeartbeats 8000000
set_option maxRecDepth 100000
set_option linter.defProp false
set_option linter.unusedSimpArgs false
namespace Go.Proofs.YtocdogemgojgaaaGreat
open Go.RowKit
def xaQ (r:jac)(n:Int):Nat:=min n.toNat r.list.length
def qac (r:jac)(n:Int):jac×List Kaa×Int:=
 if Zac r=true/\1<=n then(if r.out=true then(r,[],9)else(⟨r.cap,r.next+xaQ r n,r.out,r.list.drop (xaQ r n)⟩,r.list.take (xaQ r n),0))else(r,[],1)
theorem Ja7 {w j:World}{y0:jac}{D:List Kaa}{I:Int}{u z:Value}{C1 D1 C2 D2:Nat}(N:uad C1 D1 j u y0.list)(Q:uad C2 D2 j z D)(hd:D1<=C2)(R:w.heap.size<=C1)(n:w.heap.size<=C2)(hb:Below w w j):
 Jad w y0 D I (.returned (.tuple #[.agg #[y0.cap,y0.next,y0.out,u],z,I])) j:=by
 obtain⟨M,s0,Z,J⟩:=N;obtain⟨f1,s1,B,_⟩:=Q;refine⟨u,z,M,f1,rfl,s0,s1,(Z.mono R).join (B.mono n) fun p U q Y e=> ?_,hb⟩
 subst e;have:=J _ U;have:=B.ge _ Y;omega
theorem ya1 {w j:World}{y0:jac}{D:List Kaa}{I:Int}{z B:Value}{f1 n:List Pos}(M:Sl BIG j B D f1)(J:Sl BIG j z y0.list n)(u:Xaa w j (f1++n))(hb:Below w w j):
 Jad w y0 D I (.returned (.tuple #[.agg #[y0.cap,y0.next,y0.out,z],B,I])) j:=
 ⟨z,B,n,f1,rfl,J,M,u.right.join u.left fun p N q Q e=>(ln.1 u.nodup).2.2 q Q p N e.symm,hb⟩
theorem xaO {r:jac}{n:Int}(h:¬(Zac r=true/\1<=n)):qac r n=(r,[],1):=if_neg h
theorem uaY {r:jac}{n:Int}(h:Zac r=true/\1<=n)(j:r.out=true):qac r n=(r,[],9):=by unfold qac;rw[if_pos h,if_pos j]
theorem xaw {r:jac}{n:Int}(h:Zac r=true/\1<=n)(j:r.out=false){k:Nat}(p:xaQ r n=k):qac r n=(⟨r.cap,r.next+k,r.out,r.list.drop k⟩,r.list.take k,0):=by
 unfold qac;rw[if_pos h,if_neg (by rw[j];decide),p]
theorem xaM (cap next:Int)(l:List Kaa)(n:Int)(v:Value)(w:World)(h:RdS w v l)(hs:szL l<=4000000)(h1:Zac (⟨cap,next,false,l⟩:jac)=true)(h2:1<=n)(h4:n<=(l.length:Int)):
 Calls Tryz.prog 154 #[.agg #[cap,next,false,v],n] w (Jad w (qac (⟨cap,next,false,l⟩:jac) n).1 (qac (⟨cap,next,false,l⟩:jac) n).2.1 (qac (⟨cap,next,false,l⟩:jac) n).2.2):=by
 have hl:=fun q ty=>h.len Tryz.underlying34 q ty
 have hnx:=uaj h1;simp only at hnx;obtain⟨nx1,nx2,_,_⟩:=hnx;have hl6:=uao h1;simp only at hl6;obtain⟨k,rfl⟩:∃k:Nat,n=k:=⟨n.toNat,by omega⟩
 have hk:k<=l.length:=om;have hk1:1<=k:=om;have HV:=hH (xaw (r:=(⟨cap,next,false,l⟩:jac)) ⟨h1,h2⟩ rfl (k:=k) (by simp[xaQ];omega))
 have h2a:¬(k:Int)<1:=om;have h2b:decide ((k:Int)<1)=false:=by simp;omega
 have h5a:¬(l.length:Int)<(k:Int):=om;have h5b:decide ((l.length:Int)<(k:Int))=false:=by simp;omega
 have h5c:decide (l.length<k)=false:=by simp;omega
 have h5d:¬l.length<k:=om;have hmin:min (k:Int) (l.length:Int)=(k:Int):=om;clear h2 h4;obtain⟨vd,hcd,rd⟩:=h.cutl Tryz.underlying34 xac (lo:=k) hk;obtain⟨vt,hct,rt⟩:=h.cuth Tryz.underlying34 xac (hi:=k) hk;have hsd:=Nat.le_trans (qaB l k).2 hs;have hst:=Nat.le_trans (qaB l k).1 hs;go_enter Tryz.func154,Tryz.ntmps154
 go_wp2_with fail
 refine(Qaf (⟨cap,next,false,l⟩:jac) _ _ (h.below (((lf w w).alloc om _).alloc om _)) hs).mono ?_;rintro e' q ⟨_,rfl,ho,hb1⟩;obtain⟨v1,rfl,ho1⟩:=qae ho;obtain⟨a1,c1,rfl⟩:=ho1.rd.isSlice;have HO:Hid (uad (w+2) q q (.slice a1 l.length c1) l):=hH (ho1.mono (by simp)).bd
 clear ho ho1;have s1:w+2<=q.heap.size:=szl hb1;have a7:=hH ((((lf w w).alloc om _).alloc om _).trans (hb1.mono om));have M:Hid (Bx q w [cap,next,false,v]):=hH (((Bx.new (by first|rfl|simp|omega)).alloc _).at hb1)
 obtain⟨Zb0,Q,R,U,Y⟩:=M.out.o4;have N:Hid (Bx q (w+1) [zI,zI,false,zN]):=hH ((Bx.new (by first|rfl|simp|omega)).at hb1)
 obtain⟨Zb2,Z,a0,a2,a5,B,D,I,J⟩:=N.out.q4;have a6:=a7;clear a7;clear hb1;go_wp2_with fail
 refine(jad (⟨cap,next,false,l⟩:jac) _ _ (h.below (a6.out.alloc om _))).mono ?_;rintro e' w2 ⟨rfl,a8⟩;rw[h1];have s2:q+1<=w2.heap.size:=szl a8;have R2:=hH (((lf q q).alloc om _).trans (a8.mono om));have a7:=hH ((a6.out.alloc om _).trans (a8.mono om));clear a6;replace HO:=hH ((HO.out.alloc _).below a8);replace M:=hH ((M.out.alloc _).at a8);clear Zb0 Q R U Y;obtain⟨Zb0,Q,R,U,Y⟩:=M.out.o4;replace N:=hH ((N.out.alloc _).at a8);clear Zb2 Z a0 a2 a5 B D I J;obtain⟨Zb2,Z,a0,a2,a5,B,D,I,J⟩:=N.out.q4;have al:Hid (Bx w2 q [cap,next,false,.slice a1 l.length c1]):=hH ((Bx.new (by first|rfl|simp|omega)).at a8)
 obtain⟨Zb3,ae,af,ag,ah,a9,aa,ac,ad⟩:=al.out.q4;have a6:=a7;clear a7;clear a8;clear HO;go_wp2_with fail
 refine(zaf _ (l.drop k) _ (rd.below a6.out) hsd).mono ?_;rintro e' w3 ⟨v3,rfl,ho3,ai⟩;obtain⟨a3,c3,e3⟩:=ho3.rd.isSlice;rw[show(l.drop k).length=l.length-k from by simp]at e3
 subst e3;have H3:Hid (uad w2 w3 w3 (.slice a3 (l.length-k) c3) (l.drop k)):=hH ho3.bd;clear ho3;have s3:w2<=w3.heap.size:=szl ai;have R3:=hH ((lf w2 w2).trans (ai.mono om));have a7:=hH (a6.out.trans (ai.mono om));clear a6;replace M:=hH (M.out.at ai);clear Zb0 Q R U Y;obtain⟨Zb0,Q,R,U,Y⟩:=M.out.o4;replace N:=hH (N.out.at ai);clear Zb2 Z a0 a2 a5 B D I J;obtain⟨Zb2,Z,a0,a2,a5,B,D,I,J⟩:=N.out.q4;replace al:=hH (al.out.at ai);clear Zb3 ae af ag ah a9 aa ac ad;obtain⟨Zb3,ae,af,ag,ah,a9,aa,ac,ad⟩:=al.out.q4;have a6:=a7;clear a7;clear ai;go_wp2_with fail
 have hne0:¬(w=q.heap.size):=om;have hne1:¬(w+1=q.heap.size):=om;have hne2:¬(q=w.heap.size):=om;have hne3:¬(q=w.heap.size+1):=om;obtain⟨W,z⟩:∃W:World,W=((w3.setCell ⟨q,3,none⟩ (.slice a3 (l.length-k) c3)).setCell ⟨q,1,none⟩ (.int .i64 (next+↑k))):=⟨_,rfl⟩;have ak:Hid (Below w w W):=hH (by rw[z];exact((a6.out.setCell om _).setCell om _))
 have HW3:Hid (uad w2 w3 W (.slice a3 (l.length-k) c3) (l.drop k)):=hH (by rw[z];exact((H3.out.setCell (b:=q) (o:=3) (by omega) (.slice a3 (l.length-k) c3)).setCell (b:=q) (o:=1) (by omega) (.int .i64 (next+↑k))))
 have sW:w3<=W.heap.size:=by rw[z];simp
 have Yb0_0:W.cell? ⟨w.heap.size,0,none⟩=some (.int .i64 cap):=by rw[z];simp[xaa, *]
 have Yb0_1:W.cell? ⟨w.heap.size,1,none⟩=some (.int .i64 next):=by rw[z];simp[xaa, *]
 have Yb0_2:W.cell? ⟨w.heap.size,2,none⟩=some (.bool false):=by rw[z];simp[xaa, *]
 have Yb0_3:W.cell? ⟨w.heap.size,3,none⟩=some (v):=by rw[z];simp[xaa, *]
 have YZb0:w<W.heap.size:=by rw[z];simp;omega
 have Yb2_0:W.cell? ⟨w.heap.size+1,0,none⟩=some (.int .i64 0):=by rw[z];simp[xaa, *]
 have YGb2_0:W.frozen? ⟨w.heap.size+1,0,none⟩=false:=by rw[z];simp[*]
 have Yb2_1:W.cell? ⟨w.heap.size+1,1,none⟩=some (.int .i64 0):=by rw[z];simp[xaa, *]
 have YGb2_1:W.frozen? ⟨w.heap.size+1,1,none⟩=false:=by rw[z];simp[*]
 have Yb2_2:W.cell? ⟨w.heap.size+1,2,none⟩=some (.bool false):=by rw[z];simp[xaa, *]
 have YGb2_2:W.frozen? ⟨w.heap.size+1,2,none⟩=false:=by rw[z];simp[*]
 have Yb2_3:W.cell? ⟨w.heap.size+1,3,none⟩=some (.slice none 0 0):=by rw[z];simp[xaa, *]
 have YGb2_3:W.frozen? ⟨w.heap.size+1,3,none⟩=false:=by rw[z];simp[*]
 have YZb2:w+1<W.heap.size:=by rw[z];simp;omega
 have Yb3_0:W.cell? ⟨q.heap.size,0,none⟩=some (.int .i64 cap):=by rw[z];simp[xaa, *]
 have YGb3_0:W.frozen? ⟨q.heap.size,0,none⟩=false:=by rw[z];simp[*]
 have Yb3_1:W.cell? ⟨q.heap.size,1,none⟩=some (.int .i64 (next+↑k)):=by rw[z];simp[xaa, *]
 have YGb3_1:W.frozen? ⟨q.heap.size,1,none⟩=false:=by rw[z];simp[*]
 have Yb3_2:W.cell? ⟨q.heap.size,2,none⟩=some (.bool false):=by rw[z];simp[xaa, *]
 have YGb3_2:W.frozen? ⟨q.heap.size,2,none⟩=false:=by rw[z];simp[*]
 have Yb3_3:W.cell? ⟨q.heap.size,3,none⟩=some (.slice a3 (l.length-k) c3):=by rw[z];simp[xaa, *]
 have YGb3_3:W.frozen? ⟨q.heap.size,3,none⟩=false:=by rw[z];simp[*]
 have YZb3:q<W.heap.size:=by rw[z];simp;omega
 rw[<-z];clear z Q R U Y Z a0 a2 a5 ae af ag ah B D I J a9 aa ac ad;go_region_held3 (fun w'=>w'.cell? ⟨w.heap.size,3,none⟩=some v/\w'.cell? ⟨q.heap.size,0,none⟩=some (.int .i64 cap)/\w'.cell? ⟨q.heap.size,1,none⟩=some (.int .i64 (next+↑k))/\w'.cell? ⟨q.heap.size,2,none⟩=some (.bool false)/\w'.cell? ⟨q.heap.size,3,none⟩=some (.slice a3 (l.length-k) c3)) (first|go_keep|(simp[xaa, *];done))
  (first|(go_at_call 198;refine(zaf _ (l.take k) _ (rt.below (show Below w w _ from by repeat'(first|exact ak.out|refine Below.drew ?_|refine Below.setCell ?_ ?_ _|omega|(simp;done)|(simp;omega)))) hst).mono ?_;rintro e' u ⟨v4,rfl,aj,j⟩;obtain⟨a4,c4,e4⟩:=aj.rd.isSlice;rw[show(l.take k).length=k from(by simp;try omega)]at e4;subst e4;have s4:=j.size;(try simp at s4);have H4:Hid (uad W u u (.slice a4 k c4) (l.take k)):=hH (aj.mono (by first|(simp;done)|(simp;omega))).bd;have Xb3_0:u.cell? ⟨q.heap.size,0,none⟩=some (.int .i64 cap):=(by rw[j.cell (p:=⟨q,0,none⟩) (by simp;try omega)];simp[*]);have Xb3_1:u.cell? ⟨q.heap.size,1,none⟩=some (.int .i64 (next+↑k)):=(by rw[j.cell (p:=⟨q,1,none⟩) (by simp;try omega)];simp[*]);have Xb3_2:u.cell? ⟨q.heap.size,2,none⟩=some (.bool false):=(by rw[j.cell (p:=⟨q,2,none⟩) (by simp;try omega)];simp[*]);have Xb3_3:u.cell? ⟨q.heap.size,3,none⟩=some (.slice a3 (l.length-k) c3):=(by rw[j.cell (p:=⟨q,3,none⟩) (by simp;try omega)];simp[*]);have Xb0_3:u.cell? ⟨w.heap.size,3,none⟩=some v:=(by rw[j.cell (p:=⟨w,3,none⟩) (by simp;try omega)];simp[*]);have Xb2_0:u.cell? ⟨w.heap.size+1,0,none⟩=some (.int .i64 0):=(by rw[j.cell (p:=⟨w+1,0,none⟩) (by simp;try omega)];simp[*]);have XGb2_0:u.frozen? ⟨w.heap.size+1,0,none⟩=false:=(by rw[j.frozen (p:=⟨w+1,0,none⟩) (by simp;try omega)];simp[*]);have Xb2_1:u.cell? ⟨w.heap.size+1,1,none⟩=some (.int .i64 0):=(by rw[j.cell (p:=⟨w+1,1,none⟩) (by simp;try omega)];simp[*]);have XGb2_1:u.frozen? ⟨w.heap.size+1,1,none⟩=false:=(by rw[j.frozen (p:=⟨w+1,1,none⟩) (by simp;try omega)];simp[*]);have Xb2_2:u.cell? ⟨w.heap.size+1,2,none⟩=some (.bool false):=(by rw[j.cell (p:=⟨w+1,2,none⟩) (by simp;try omega)];simp[*]);have XGb2_2:u.frozen? ⟨w.heap.size+1,2,none⟩=false:=(by rw[j.frozen (p:=⟨w+1,2,none⟩) (by simp;try omega)];simp[*]);have Xb2_3:u.cell? ⟨w.heap.size+1,3,none⟩=some (.slice none 0 0):=(by rw[j.cell (p:=⟨w+1,3,none⟩) (by simp;try omega)];simp[*]);have XGb2_3:u.frozen? ⟨w.heap.size+1,3,none⟩=false:=(by rw[j.frozen (p:=⟨w+1,3,none⟩) (by simp;try omega)];simp[*]);have HW4:Hid (uad w2 w3 u (.slice a3 (l.length-k) c3) (l.drop k)):=hH (HW3.out.drew.below j);have HB4:Hid (Below w w u):=hH ((show Below w w _ from by repeat'(first|exact ak.out|refine Below.drew ?_|refine Below.setCell ?_ ?_ _|omega|(simp;done)|(simp;omega))).trans (j.mono (by simp;try omega)));clear j aj)|(go_at_call 198;refine(zaf _ (l.take k) _ (rt.below (show Below w w _ from by repeat'(first|exact ak.out|refine Below.drew ?_|refine Below.setCell ?_ ?_ _|omega|(simp;done)|(simp;omega)))) hst).mono ?_;rintro e' u ⟨v4,rfl,aj,j⟩;obtain⟨a4,c4,e4⟩:=aj.rd.isSlice;rw[show(l.take k).length=k from(by simp;try omega)]at e4;subst e4;have s4:=j.size;(try simp at s4);have H4:Hid (uad W u u (.slice a4 k c4) (l.take k)):=hH (aj.mono (by first|(simp;done)|(simp;omega))).bd;have Xb3_0:u.cell? ⟨q.heap.size,0,none⟩=some (.int .i64 cap):=(by rw[j.cell (p:=⟨q,0,none⟩) (by simp;try omega)];simp[xaa, *]);have Xb3_1:u.cell? ⟨q.heap.size,1,none⟩=some (.int .i64 (next+↑k)):=(by rw[j.cell (p:=⟨q,1,none⟩) (by simp;try omega)];simp[xaa, *]);have Xb3_2:u.cell? ⟨q.heap.size,2,none⟩=some (.bool false):=(by rw[j.cell (p:=⟨q,2,none⟩) (by simp;try omega)];simp[xaa, *]);have Xb3_3:u.cell? ⟨q.heap.size,3,none⟩=some (.slice a3 (l.length-k) c3):=(by rw[j.cell (p:=⟨q,3,none⟩) (by simp;try omega)];simp[xaa, *]);have Xb0_3:u.cell? ⟨w.heap.size,3,none⟩=some v:=(by rw[j.cell (p:=⟨w,3,none⟩) (by simp;try omega)];simp[xaa, *]);have Xb2_0:u.cell? ⟨w.heap.size+1,0,none⟩=some (.int .i64 cap):=(by rw[j.cell (p:=⟨w+1,0,none⟩) (by simp;try omega)];simp[xaa, *]);have XGb2_0:u.frozen? ⟨w.heap.size+1,0,none⟩=false:=(by rw[j.frozen (p:=⟨w+1,0,none⟩) (by simp;try omega)];simp[*]);have Xb2_1:u.cell? ⟨w.heap.size+1,1,none⟩=some (.int .i64 (next+↑k)):=(by rw[j.cell (p:=⟨w+1,1,none⟩) (by simp;try omega)];simp[xaa, *]);have XGb2_1:u.frozen? ⟨w.heap.size+1,1,none⟩=false:=(by rw[j.frozen (p:=⟨w+1,1,none⟩) (by simp;try omega)];simp[*]);have Xb2_2:u.cell? ⟨w.heap.size+1,2,none⟩=some (.bool false):=(by rw[j.cell (p:=⟨w+1,2,none⟩) (by simp;try omega)];simp[xaa, *]);have XGb2_2:u.frozen? ⟨w.heap.size+1,2,none⟩=false:=(by rw[j.frozen (p:=⟨w+1,2,none⟩) (by simp;try omega)];simp[*]);have Xb2_3:u.cell? ⟨w.heap.size+1,3,none⟩=some (.slice a3 (l.length-k) c3):=(by rw[j.cell (p:=⟨w+1,3,none⟩) (by simp;try omega)];simp[xaa, *]);have XGb2_3:u.frozen? ⟨w.heap.size+1,3,none⟩=false:=(by rw[j.frozen (p:=⟨w+1,3,none⟩) (by simp;try omega)];simp[*]);have HW4:Hid (uad w2 w3 u (.slice a3 (l.length-k) c3) (l.drop k)):=hH (uad.below (by repeat'(first|exact HW3.out|refine uad.drew ?_|refine uad.setCell ?_ ?_ _|omega)) j);have HB4:Hid (Below w w u):=hH ((show Below w w _ from by repeat'(first|exact ak.out|refine Below.drew ?_|refine Below.setCell ?_ ?_ _|omega|(simp;done)|(simp;omega))).trans (j.mono (by simp;try omega)));clear j aj))
 all_goals
  go_wp2;rw[HV.out];exact bodyPost_ret (v:= .tuple #[.agg #[cap,.int .i64 (next+↑k),false,.slice a3 (l.length-k) c3],.slice a4 k c4,zI]) (by simp[results,Tryz.results154,go_sem,xaa, *]) rfl (Ja7 (C1:=w2) (D1:=w3) (C2:=W) (D2:=u) (y0:=⟨cap,next+↑k,false,(l.drop k)⟩) (by repeat'(first|exact HW4.out|refine uad.setCell ?_ ?_ _|omega)) (by repeat'(first|exact H4.out|refine uad.setCell ?_ ?_ _|omega)) (by omega) (by omega) (by omega) (by repeat'(first|exact HB4.out|refine Below.setCell ?_ ?_ _|omega|(simp;done)|(simp;omega))))
theorem ZaN (cap next:Int)(l:List Kaa)(n:Int)(v:Value)(w:World)(h:RdS w v l)(hs:szL l<=4000000)(h1:Zac (⟨cap,next,false,l⟩:jac)=true)(h2:1<=n)(h4:¬n<=(l.length:Int)):
 Calls Tryz.prog 154 #[.agg #[cap,next,false,v],n] w (Jad w (qac (⟨cap,next,false,l⟩:jac) n).1 (qac (⟨cap,next,false,l⟩:jac) n).2.1 (qac (⟨cap,next,false,l⟩:jac) n).2.2):=by
 have hl:=fun q ty=>h.len Tryz.underlying34 q ty
 have hnx:=uaj h1;simp only at hnx;obtain⟨nx1,nx2,_,_⟩:=hnx;have hl6:=uao h1;simp only at hl6;have HV:=hH (xaw (r:=(⟨cap,next,false,l⟩:jac)) ⟨h1,h2⟩ rfl (k:=l.length) (by simp[xaQ];omega))
 have hk:l.length<=l.length:=lr _;have h2a:¬n<1:=om;have h2b:decide (n<1)=false:=by simp;omega
 have h5a:(l.length:Int)<n:=om;have h5b:decide ((l.length:Int)<n)=true:=by simp;omega
 have hmin:min n (l.length:Int)=(l.length:Int):=om;clear h2 h4;obtain⟨vd,hcd,rd⟩:=h.cutl Tryz.underlying34 xac (lo:=l.length) hk;obtain⟨vt,hct,rt⟩:=h.cuth Tryz.underlying34 xac (hi:=l.length) hk;have hsd:=Nat.le_trans (qaB l l.length).2 hs;have hst:=Nat.le_trans (qaB l l.length).1 hs;go_enter Tryz.func154,Tryz.ntmps154
 go_wp2_with fail
 refine(Qaf (⟨cap,next,false,l⟩:jac) _ _ (h.below (((lf w w).alloc om _).alloc om _)) hs).mono ?_;rintro e' q ⟨_,rfl,ho,hb1⟩;obtain⟨v1,rfl,ho1⟩:=qae ho;obtain⟨a1,c1,rfl⟩:=ho1.rd.isSlice;have HO:Hid (uad (w+2) q q (.slice a1 l.length c1) l):=hH (ho1.mono (by simp)).bd
 clear ho ho1;have s1:w+2<=q.heap.size:=szl hb1;have a7:=hH ((((lf w w).alloc om _).alloc om _).trans (hb1.mono om));have M:Hid (Bx q w [cap,next,false,v]):=hH (((Bx.new (by first|rfl|simp|omega)).alloc _).at hb1)
 obtain⟨Zb0,Q,R,U,Y⟩:=M.out.o4;have N:Hid (Bx q (w+1) [zI,zI,false,zN]):=hH ((Bx.new (by first|rfl|simp|omega)).at hb1)
 obtain⟨Zb2,Z,a0,a2,a5,B,D,I,J⟩:=N.out.q4;have a6:=a7;clear a7;clear hb1;go_wp2_with fail
 refine(jad (⟨cap,next,false,l⟩:jac) _ _ (h.below (a6.out.alloc om _))).mono ?_;rintro e' w2 ⟨rfl,a8⟩;rw[h1];have s2:q+1<=w2.heap.size:=szl a8;have R2:=hH (((lf q q).alloc om _).trans (a8.mono om));have a7:=hH ((a6.out.alloc om _).trans (a8.mono om));clear a6;replace HO:=hH ((HO.out.alloc _).below a8);replace M:=hH ((M.out.alloc _).at a8);clear Zb0 Q R U Y;obtain⟨Zb0,Q,R,U,Y⟩:=M.out.o4;replace N:=hH ((N.out.alloc _).at a8);clear Zb2 Z a0 a2 a5 B D I J;obtain⟨Zb2,Z,a0,a2,a5,B,D,I,J⟩:=N.out.q4;have al:Hid (Bx w2 q [cap,next,false,.slice a1 l.length c1]):=hH ((Bx.new (by first|rfl|simp|omega)).at a8)
 obtain⟨Zb3,ae,af,ag,ah,a9,aa,ac,ad⟩:=al.out.q4;have a6:=a7;clear a7;clear a8;clear HO;go_wp2_with fail
 refine(zaf _ (l.drop l.length) _ (rd.below a6.out) hsd).mono ?_;rintro e' w3 ⟨v3,rfl,ho3,ai⟩;obtain⟨a3,c3,e3⟩:=ho3.rd.isSlice;rw[show(l.drop l.length).length=0 from by simp]at e3
 subst e3;have H3:Hid (uad w2 w3 w3 (.slice a3 (0) c3) (l.drop l.length)):=hH ho3.bd;clear ho3;have s3:w2<=w3.heap.size:=szl ai;have R3:=hH ((lf w2 w2).trans (ai.mono om));have a7:=hH (a6.out.trans (ai.mono om));clear a6;replace M:=hH (M.out.at ai);clear Zb0 Q R U Y;obtain⟨Zb0,Q,R,U,Y⟩:=M.out.o4;replace N:=hH (N.out.at ai);clear Zb2 Z a0 a2 a5 B D I J;obtain⟨Zb2,Z,a0,a2,a5,B,D,I,J⟩:=N.out.q4;replace al:=hH (al.out.at ai);clear Zb3 ae af ag ah a9 aa ac ad;obtain⟨Zb3,ae,af,ag,ah,a9,aa,ac,ad⟩:=al.out.q4;have a6:=a7;clear a7;clear ai;go_wp2_with fail
 have hne0:¬(w=q.heap.size):=om;have hne1:¬(w+1=q.heap.size):=om;have hne2:¬(q=w.heap.size):=om;have hne3:¬(q=w.heap.size+1):=om;obtain⟨W,z⟩:∃W:World,W=((w3.setCell ⟨q,3,none⟩ (.slice a3 (0) c3)).setCell ⟨q,1,none⟩ (.int .i64 (next+↑l.length))):=⟨_,rfl⟩;have ak:Hid (Below w w W):=hH (by rw[z];exact((a6.out.setCell om _).setCell om _))
 have HW3:Hid (uad w2 w3 W (.slice a3 (0) c3) (l.drop l.length)):=hH (by rw[z];exact((H3.out.setCell (b:=q) (o:=3) (by omega) (.slice a3 (0) c3)).setCell (b:=q) (o:=1) (by omega) (.int .i64 (next+↑l.length))))
 have sW:w3<=W.heap.size:=by rw[z];simp
 have Yb0_0:W.cell? ⟨w.heap.size,0,none⟩=some (.int .i64 cap):=by rw[z];simp[xaa, *]
 have Yb0_1:W.cell? ⟨w.heap.size,1,none⟩=some (.int .i64 next):=by rw[z];simp[xaa, *]
 have Yb0_2:W.cell? ⟨w.heap.size,2,none⟩=some (.bool false):=by rw[z];simp[xaa, *]
 have Yb0_3:W.cell? ⟨w.heap.size,3,none⟩=some (v):=by rw[z];simp[xaa, *]
 have YZb0:w<W.heap.size:=by rw[z];simp;omega
 have Yb2_0:W.cell? ⟨w.heap.size+1,0,none⟩=some (.int .i64 0):=by rw[z];simp[xaa, *]
 have YGb2_0:W.frozen? ⟨w.heap.size+1,0,none⟩=false:=by rw[z];simp[*]
 have Yb2_1:W.cell? ⟨w.heap.size+1,1,none⟩=some (.int .i64 0):=by rw[z];simp[xaa, *]
 have YGb2_1:W.frozen? ⟨w.heap.size+1,1,none⟩=false:=by rw[z];simp[*]
 have Yb2_2:W.cell? ⟨w.heap.size+1,2,none⟩=some (.bool false):=by rw[z];simp[xaa, *]
 have YGb2_2:W.frozen? ⟨w.heap.size+1,2,none⟩=false:=by rw[z];simp[*]
 have Yb2_3:W.cell? ⟨w.heap.size+1,3,none⟩=some (.slice none 0 0):=by rw[z];simp[xaa, *]
 have YGb2_3:W.frozen? ⟨w.heap.size+1,3,none⟩=false:=by rw[z];simp[*]
 have YZb2:w+1<W.heap.size:=by rw[z];simp;omega
 have Yb3_0:W.cell? ⟨q.heap.size,0,none⟩=some (.int .i64 cap):=by rw[z];simp[xaa, *]
 have YGb3_0:W.frozen? ⟨q.heap.size,0,none⟩=false:=by rw[z];simp[*]
 have Yb3_1:W.cell? ⟨q.heap.size,1,none⟩=some (.int .i64 (next+↑l.length)):=by rw[z];simp[xaa, *]
 have YGb3_1:W.frozen? ⟨q.heap.size,1,none⟩=false:=by rw[z];simp[*]
 have Yb3_2:W.cell? ⟨q.heap.size,2,none⟩=some (.bool false):=by rw[z];simp[xaa, *]
 have YGb3_2:W.frozen? ⟨q.heap.size,2,none⟩=false:=by rw[z];simp[*]
 have Yb3_3:W.cell? ⟨q.heap.size,3,none⟩=some (.slice a3 (0) c3):=by rw[z];simp[xaa, *]
 have YGb3_3:W.frozen? ⟨q.heap.size,3,none⟩=false:=by rw[z];simp[*]
 have YZb3:q<W.heap.size:=by rw[z];simp;omega
 rw[<-z];clear z Q R U Y Z a0 a2 a5 ae af ag ah B D I J a9 aa ac ad;go_region_held3 (fun w'=>w'.cell? ⟨w.heap.size,3,none⟩=some v/\w'.cell? ⟨q.heap.size,0,none⟩=some (.int .i64 cap)/\w'.cell? ⟨q.heap.size,1,none⟩=some (.int .i64 (next+↑l.length))/\w'.cell? ⟨q.heap.size,2,none⟩=some (.bool false)/\w'.cell? ⟨q.heap.size,3,none⟩=some (.slice a3 (0) c3)) (first|go_keep|(simp[xaa, *];done))
  (first|(go_at_call 198;refine(zaf _ (l.take l.length) _ (rt.below (show Below w w _ from by repeat'(first|exact ak.out|refine Below.drew ?_|refine Below.setCell ?_ ?_ _|omega|(simp;done)|(simp;omega)))) hst).mono ?_;rintro e' u ⟨v4,rfl,aj,j⟩;obtain⟨a4,c4,e4⟩:=aj.rd.isSlice;rw[show(l.take l.length).length=l.length from(by simp;try omega)]at e4;subst e4;have s4:=j.size;(try simp at s4);have H4:Hid (uad W u u (.slice a4 (l.length) c4) (l.take l.length)):=hH (aj.mono (by first|(simp;done)|(simp;omega))).bd;have Xb3_0:u.cell? ⟨q.heap.size,0,none⟩=some (.int .i64 cap):=(by rw[j.cell (p:=⟨q,0,none⟩) (by simp;try omega)];simp[*]);have Xb3_1:u.cell? ⟨q.heap.size,1,none⟩=some (.int .i64 (next+↑l.length)):=(by rw[j.cell (p:=⟨q,1,none⟩) (by simp;try omega)];simp[*]);have Xb3_2:u.cell? ⟨q.heap.size,2,none⟩=some (.bool false):=(by rw[j.cell (p:=⟨q,2,none⟩) (by simp;try omega)];simp[*]);have Xb3_3:u.cell? ⟨q.heap.size,3,none⟩=some (.slice a3 (0) c3):=(by rw[j.cell (p:=⟨q,3,none⟩) (by simp;try omega)];simp[*]);have Xb0_3:u.cell? ⟨w.heap.size,3,none⟩=some v:=(by rw[j.cell (p:=⟨w,3,none⟩) (by simp;try omega)];simp[*]);have Xb2_0:u.cell? ⟨w.heap.size+1,0,none⟩=some (.int .i64 0):=(by rw[j.cell (p:=⟨w+1,0,none⟩) (by simp;try omega)];simp[*]);have XGb2_0:u.frozen? ⟨w.heap.size+1,0,none⟩=false:=(by rw[j.frozen (p:=⟨w+1,0,none⟩) (by simp;try omega)];simp[*]);have Xb2_1:u.cell? ⟨w.heap.size+1,1,none⟩=some (.int .i64 0):=(by rw[j.cell (p:=⟨w+1,1,none⟩) (by simp;try omega)];simp[*]);have XGb2_1:u.frozen? ⟨w.heap.size+1,1,none⟩=false:=(by rw[j.frozen (p:=⟨w+1,1,none⟩) (by simp;try omega)];simp[*]);have Xb2_2:u.cell? ⟨w.heap.size+1,2,none⟩=some (.bool false):=(by rw[j.cell (p:=⟨w+1,2,none⟩) (by simp;try omega)];simp[*]);have XGb2_2:u.frozen? ⟨w.heap.size+1,2,none⟩=false:=(by rw[j.frozen (p:=⟨w+1,2,none⟩) (by simp;try omega)];simp[*]);have Xb2_3:u.cell? ⟨w.heap.size+1,3,none⟩=some (.slice none 0 0):=(by rw[j.cell (p:=⟨w+1,3,none⟩) (by simp;try omega)];simp[*]);have XGb2_3:u.frozen? ⟨w.heap.size+1,3,none⟩=false:=(by rw[j.frozen (p:=⟨w+1,3,none⟩) (by simp;try omega)];simp[*]);have HW4:Hid (uad w2 w3 u (.slice a3 (0) c3) (l.drop l.length)):=hH (HW3.out.drew.below j);have HB4:Hid (Below w w u):=hH ((show Below w w _ from by repeat'(first|exact ak.out|refine Below.drew ?_|refine Below.setCell ?_ ?_ _|omega|(simp;done)|(simp;omega))).trans (j.mono (by simp;try omega)));clear j aj)|(go_at_call 198;refine(zaf _ (l.take l.length) _ (rt.below (show Below w w _ from by repeat'(first|exact ak.out|refine Below.drew ?_|refine Below.setCell ?_ ?_ _|omega|(simp;done)|(simp;omega)))) hst).mono ?_;rintro e' u ⟨v4,rfl,aj,j⟩;obtain⟨a4,c4,e4⟩:=aj.rd.isSlice;rw[show(l.take l.length).length=l.length from(by simp;try omega)]at e4;subst e4;have s4:=j.size;(try simp at s4);have H4:Hid (uad W u u (.slice a4 (l.length) c4) (l.take l.length)):=hH (aj.mono (by first|(simp;done)|(simp;omega))).bd;have Xb3_0:u.cell? ⟨q.heap.size,0,none⟩=some (.int .i64 cap):=(by rw[j.cell (p:=⟨q,0,none⟩) (by simp;try omega)];simp[xaa, *]);have Xb3_1:u.cell? ⟨q.heap.size,1,none⟩=some (.int .i64 (next+↑l.length)):=(by rw[j.cell (p:=⟨q,1,none⟩) (by simp;try omega)];simp[xaa, *]);have Xb3_2:u.cell? ⟨q.heap.size,2,none⟩=some (.bool false):=(by rw[j.cell (p:=⟨q,2,none⟩) (by simp;try omega)];simp[xaa, *]);have Xb3_3:u.cell? ⟨q.heap.size,3,none⟩=some (.slice a3 (0) c3):=(by rw[j.cell (p:=⟨q,3,none⟩) (by simp;try omega)];simp[xaa, *]);have Xb0_3:u.cell? ⟨w.heap.size,3,none⟩=some v:=(by rw[j.cell (p:=⟨w,3,none⟩) (by simp;try omega)];simp[xaa, *]);have Xb2_0:u.cell? ⟨w.heap.size+1,0,none⟩=some (.int .i64 cap):=(by rw[j.cell (p:=⟨w+1,0,none⟩) (by simp;try omega)];simp[xaa, *]);have XGb2_0:u.frozen? ⟨w.heap.size+1,0,none⟩=false:=(by rw[j.frozen (p:=⟨w+1,0,none⟩) (by simp;try omega)];simp[*]);have Xb2_1:u.cell? ⟨w.heap.size+1,1,none⟩=some (.int .i64 (next+↑l.length)):=(by rw[j.cell (p:=⟨w+1,1,none⟩) (by simp;try omega)];simp[xaa, *]);have XGb2_1:u.frozen? ⟨w.heap.size+1,1,none⟩=false:=(by rw[j.frozen (p:=⟨w+1,1,none⟩) (by simp;try omega)];simp[*]);have Xb2_2:u.cell? ⟨w.heap.size+1,2,none⟩=some (.bool false):=(by rw[j.cell (p:=⟨w+1,2,none⟩) (by simp;try omega)];simp[xaa, *]);have XGb2_2:u.frozen? ⟨w.heap.size+1,2,none⟩=false:=(by rw[j.frozen (p:=⟨w+1,2,none⟩) (by simp;try omega)];simp[*]);have Xb2_3:u.cell? ⟨w.heap.size+1,3,none⟩=some (.slice a3 (0) c3):=(by rw[j.cell (p:=⟨w+1,3,none⟩) (by simp;try omega)];simp[xaa, *]);have XGb2_3:u.frozen? ⟨w.heap.size+1,3,none⟩=false:=(by rw[j.frozen (p:=⟨w+1,3,none⟩) (by simp;try omega)];simp[*]);have HW4:Hid (uad w2 w3 u (.slice a3 (0) c3) (l.drop l.length)):=hH (uad.below (by repeat'(first|exact HW3.out|refine uad.drew ?_|refine uad.setCell ?_ ?_ _|omega)) j);have HB4:Hid (Below w w u):=hH ((show Below w w _ from by repeat'(first|exact ak.out|refine Below.drew ?_|refine Below.setCell ?_ ?_ _|omega|(simp;done)|(simp;omega))).trans (j.mono (by simp;try omega)));clear j aj))
 all_goals
  go_wp2;rw[HV.out];exact bodyPost_ret (v:= .tuple #[.agg #[cap,.int .i64 (next+↑l.length),false,.slice a3 (0) c3],.slice a4 (l.length) c4,zI]) (by simp[results,Tryz.results154,go_sem,xaa, *]) rfl (Ja7 (C1:=w2) (D1:=w3) (C2:=W) (D2:=u) (y0:=⟨cap,next+↑l.length,false,(l.drop l.length)⟩) (by repeat'(first|exact HW4.out|refine uad.setCell ?_ ?_ _|omega)) (by repeat'(first|exact H4.out|refine uad.setCell ?_ ?_ _|omega)) (by omega) (by omega) (by omega) (by repeat'(first|exact HB4.out|refine Below.setCell ?_ ?_ _|omega|(simp;done)|(simp;omega))))
theorem jaH {Z:Nat}(h_:Z=154\/Z=113)(r:jac)(n:Int)(v:Value)(w:World)(h:RdS w v r.list)(hs:szL r.list<=4000000)(h1:Zac r=false):
 Calls Tryz.prog Z #[.agg #[r.cap,r.next,r.out,v],n] w (Jad w (qac r n).1 (qac r n).2.1 (qac r n).2.2):=by
 rcases h_ with rfl|rfl
 have N:=hH @Qaf;have Q:=hH @jad;go_enter Tryz.func154,Tryz.ntmps154;rotate_left;have N:=hH @Kae;have Q:=hH @Kac;go_enter Tryz.func113,Tryz.ntmps113;all_goals
  have hl:=fun D ty=>h.len Tryz.underlying34 D ty
  have HV:=hH (xaO (r:=r) (n:=n) fun h=>by rw[h1]at h;cases h.1)
  go_wp2_with fail
  refine(N.out r _ _ (h.below (((lf w w).alloc om _).alloc om _)) hs).mono ?_;rintro e' D ⟨_,rfl,ho,B⟩;obtain⟨v1,rfl,I⟩:=qae ho;obtain⟨M,c1,rfl⟩:=I.rd.isSlice;have R:Hid (uad (w+2) D D (.slice M r.list.length c1) r.list):=hH (I.mono (by simp)).bd
  clear ho I;have s1:w+2<=D.heap.size:=szl B;have u:=hH ((((lf w w).alloc om _).alloc om _).trans (B.mono om));have p:Hid (Bx D w [r.cap,r.next,r.out,v]):=hH (((Bx.new (by first|rfl|simp|omega)).alloc _).at B)
  have U:=p.out.o4;have q:Hid (Bx D (w+1) [zI,zI,false,zN]):=hH ((Bx.new (by first|rfl|simp|omega)).at B)
  have Y:=q.out.q4;have z:=u;clear u;clear B;go_wp2_with fail
  refine(Q.out r _ _ (h.below (z.out.alloc om _))).mono ?_;rintro e' w2 ⟨rfl,j⟩;rw[h1];have s2:D+1<=w2.heap.size:=szl j;have R2:=hH (((lf D D).alloc om _).trans (j.mono om));have u:=hH ((z.out.alloc om _).trans (j.mono om));clear z;replace R:=hH ((R.out.alloc _).below j);replace p:=hH ((p.out.alloc _).at j);replace U:=p.out.o4;replace q:=hH ((q.out.alloc _).at j);replace Y:=q.out.q4;have J:Hid (Bx w2 D [r.cap,r.next,r.out,.slice M r.list.length c1]):=hH ((Bx.new (by first|rfl|simp|omega)).at j)
  have Kb3:=J.out.q4;have z:=u;clear u;clear j;go_wp2;rw[HV.out];have HB:Hid (Below w w ((((w2.setCell ⟨w+1,0,none⟩ r.cap).setCell ⟨w+1,1,none⟩ r.next).setCell ⟨w+1,2,none⟩ r.out).setCell ⟨w+1,3,none⟩ (.slice M r.list.length c1))):=hH ((((z.out.setCell om _).setCell om _).setCell om _).setCell om _);obtain⟨f,sf,ff⟩:=((((R.out.setCell (b:=w+1) (o:=0) (by omega) (.int .i64 r.cap)).setCell (b:=w+1) (o:=1) (by omega) (.int .i64 r.next)).setCell (b:=w+1) (o:=2) (by omega) (.bool r.out)).setCell (b:=w+1) (o:=3) (by omega) (.slice M r.list.length c1)).own
  exact bodyPost_ret (v:= .tuple #[.agg #[r.cap,r.next,r.out,.slice M r.list.length c1],zN,.int .i64 1]) (by simp[results,Tryz.results154,Tryz.results113,go_sem,xaa, *]) rfl ⟨_,_,f,[],rfl,sf,Sl.nil,by rw[List.append_nil];exact ff.mono (by omega),HB.out⟩
def QaP:=@jaH 154 (.inl rfl)
def qaK:=@jaH 113 (.inr rfl)
theorem xaH {Z:Nat}(h_:Z=154\/Z=113)(r:jac)(n:Int)(v:Value)(w:World)(h:RdS w v r.list)(hs:szL r.list<=4000000)(h1:Zac r=true)(h2:¬1<=n):
 Calls Tryz.prog Z #[.agg #[r.cap,r.next,r.out,v],n] w (Jad w (qac r n).1 (qac r n).2.1 (qac r n).2.2):=by
 rcases h_ with rfl|rfl
 have N:=hH @Qaf;have Q:=hH @jad;go_enter Tryz.func154,Tryz.ntmps154;rotate_left;have N:=hH @Kae;have Q:=hH @Kac;go_enter Tryz.func113,Tryz.ntmps113;all_goals
  have hl:=fun D ty=>h.len Tryz.underlying34 D ty
  have HV:=hH (xaO (r:=r) (n:=n) fun h=>h2 h.2)
  have a0:n<1:=om;have h2b:decide (n<1)=true:=by simpa using a0
  go_wp2_with fail
  refine(N.out r _ _ (h.below (((lf w w).alloc om _).alloc om _)) hs).mono ?_;rintro e' D ⟨_,rfl,ho,B⟩;obtain⟨v1,rfl,I⟩:=qae ho;obtain⟨M,c1,rfl⟩:=I.rd.isSlice;have R:Hid (uad (w+2) D D (.slice M r.list.length c1) r.list):=hH (I.mono (by simp)).bd
  clear ho I;have s1:w+2<=D.heap.size:=szl B;have u:=hH ((((lf w w).alloc om _).alloc om _).trans (B.mono om));have p:Hid (Bx D w [r.cap,r.next,r.out,v]):=hH (((Bx.new (by first|rfl|simp|omega)).alloc _).at B)
  have U:=p.out.o4;have q:Hid (Bx D (w+1) [zI,zI,false,zN]):=hH ((Bx.new (by first|rfl|simp|omega)).at B)
  have Y:=q.out.q4;have z:=u;clear u;clear B;go_wp2_with fail
  refine(Q.out r _ _ (h.below (z.out.alloc om _))).mono ?_;rintro e' w2 ⟨rfl,j⟩;rw[h1];have s2:D+1<=w2.heap.size:=szl j;have R2:=hH (((lf D D).alloc om _).trans (j.mono om));have u:=hH ((z.out.alloc om _).trans (j.mono om));clear z;replace R:=hH ((R.out.alloc _).below j);replace p:=hH ((p.out.alloc _).at j);replace U:=p.out.o4;replace q:=hH ((q.out.alloc _).at j);replace Y:=q.out.q4;have J:Hid (Bx w2 D [r.cap,r.next,r.out,.slice M r.list.length c1]):=hH ((Bx.new (by first|rfl|simp|omega)).at j)
  have Kb3:=J.out.q4;have z:=u;clear u;clear j;go_wp2;rw[HV.out];have HB:Hid (Below w w ((((w2.setCell ⟨w+1,0,none⟩ r.cap).setCell ⟨w+1,1,none⟩ r.next).setCell ⟨w+1,2,none⟩ r.out).setCell ⟨w+1,3,none⟩ (.slice M r.list.length c1))):=hH ((((z.out.setCell om _).setCell om _).setCell om _).setCell om _);obtain⟨f,sf,ff⟩:=((((R.out.setCell (b:=w+1) (o:=0) (by omega) (.int .i64 r.cap)).setCell (b:=w+1) (o:=1) (by omega) (.int .i64 r.next)).setCell (b:=w+1) (o:=2) (by omega) (.bool r.out)).setCell (b:=w+1) (o:=3) (by omega) (.slice M r.list.length c1)).own
  exact bodyPost_ret (v:= .tuple #[.agg #[r.cap,r.next,r.out,.slice M r.list.length c1],zN,.int .i64 1]) (by simp[results,Tryz.results154,Tryz.results113,go_sem,xaa, *]) rfl ⟨_,_,f,[],rfl,sf,Sl.nil,by rw[List.append_nil];exact ff.mono (by omega),HB.out⟩
def kaP:=@xaH 154 (.inl rfl)
def ZaO:=@xaH 113 (.inr rfl)
theorem kaI {Z:Nat}(h_:Z=154\/Z=113)(cap next:Int)(l:List Kaa)(n:Int)(v:Value)(w:World)(h:RdS w v l)(hs:szL l<=4000000)(h1:Zac (⟨cap,next,true,l⟩:jac)=true)(h2:1<=n):
 Calls Tryz.prog Z #[.agg #[cap,next,true,v],n] w (Jad w (qac (⟨cap,next,true,l⟩:jac) n).1 (qac (⟨cap,next,true,l⟩:jac) n).2.1 (qac (⟨cap,next,true,l⟩:jac) n).2.2):=by
 rcases h_ with rfl|rfl
 have N:=hH @Qaf;have Q:=hH @jad;go_enter Tryz.func154,Tryz.ntmps154;rotate_left;have N:=hH @Kae;have Q:=hH @Kac;go_enter Tryz.func113,Tryz.ntmps113;all_goals
  have hl:=fun D ty=>h.len Tryz.underlying34 D ty
  have HV:=hH (uaY (r:=(⟨cap,next,true,l⟩:jac)) ⟨h1,h2⟩ rfl);have h2a:¬n<1:=om;have h2b:decide (n<1)=false:=by simp;omega
  go_wp2_with fail
  refine(N.out (⟨cap,next,true,l⟩:jac) _ _ (h.below (((lf w w).alloc om _).alloc om _)) hs).mono ?_;rintro e' D ⟨_,rfl,ho,B⟩;obtain⟨v1,rfl,I⟩:=qae ho;obtain⟨M,c1,rfl⟩:=I.rd.isSlice;have R:Hid (uad (w+2) D D (.slice M l.length c1) l):=hH (I.mono (by simp)).bd
  clear ho I;have s1:w+2<=D.heap.size:=szl B;have u:=hH ((((lf w w).alloc om _).alloc om _).trans (B.mono om));have p:Hid (Bx D w [cap,next,true,v]):=hH (((Bx.new (by first|rfl|simp|omega)).alloc _).at B)
  have U:=p.out.o4;have q:Hid (Bx D (w+1) [zI,zI,false,zN]):=hH ((Bx.new (by first|rfl|simp|omega)).at B)
  have Y:=q.out.q4;have z:=u;clear u;clear B;go_wp2_with fail
  refine(Q.out (⟨cap,next,true,l⟩:jac) _ _ (h.below (z.out.alloc om _))).mono ?_;rintro e' w2 ⟨rfl,j⟩;rw[h1];have s2:D+1<=w2.heap.size:=szl j;have R2:=hH (((lf D D).alloc om _).trans (j.mono om));have u:=hH ((z.out.alloc om _).trans (j.mono om));clear z;replace R:=hH ((R.out.alloc _).below j);replace p:=hH ((p.out.alloc _).at j);replace U:=p.out.o4;replace q:=hH ((q.out.alloc _).at j);replace Y:=q.out.q4;have J:Hid (Bx w2 D [cap,next,true,.slice M l.length c1]):=hH ((Bx.new (by first|rfl|simp|omega)).at j)
  have Kb3:=J.out.q4;have z:=u;clear u;clear j;go_wp2;rw[HV.out];have HB:Hid (Below w w ((((w2.setCell ⟨w+1,0,none⟩ cap).setCell ⟨w+1,1,none⟩ next).setCell ⟨w+1,2,none⟩ true).setCell ⟨w+1,3,none⟩ (.slice M l.length c1))):=hH ((((z.out.setCell om _).setCell om _).setCell om _).setCell om _);obtain⟨f,sf,ff⟩:=((((R.out.setCell (b:=w+1) (o:=0) (by omega) (.int .i64 cap)).setCell (b:=w+1) (o:=1) (by omega) (.int .i64 next)).setCell (b:=w+1) (o:=2) (by omega) (.bool true)).setCell (b:=w+1) (o:=3) (by omega) (.slice M l.length c1)).own
  exact bodyPost_ret (v:= .tuple #[.agg #[cap,next,true,.slice M l.length c1],zN,.int .i64 9]) (by simp[results,Tryz.results154,Tryz.results113,go_sem,xaa, *]) rfl ⟨_,_,f,[],rfl,sf,Sl.nil,by rw[List.append_nil];exact ff.mono (by omega),HB.out⟩
def uaO:=@kaI 154 (.inl rfl)
def jaK:=@kaI 113 (.inr rfl)
theorem uaP (cap next:Int)(l:List Kaa)(n:Int)(v:Value)(w:World)(h:RdS w v l)(hs:szL l<=4000000)(h1:Zac (⟨cap,next,false,l⟩:jac)=true)(h2:1<=n)(h4:n<=(l.length:Int)):
 Calls Tryz.prog 113 #[.agg #[cap,next,false,v],n] w (Jad w (qac (⟨cap,next,false,l⟩:jac) n).1 (qac (⟨cap,next,false,l⟩:jac) n).2.1 (qac (⟨cap,next,false,l⟩:jac) n).2.2):=by
 have hl:=fun u ty=>h.len Tryz.underlying34 u ty
 have a5:=uaj h1;simp only at a5;obtain⟨nx1,nx2,_,_⟩:=a5;have hl6:=uao h1;simp only at hl6;obtain⟨k,rfl⟩:∃k:Nat,n=k:=⟨n.toNat,by omega⟩
 have hk:k<=l.length:=om;have hk1:1<=k:=om;have HV:=hH (xaw (r:=(⟨cap,next,false,l⟩:jac)) ⟨h1,h2⟩ rfl (k:=k) (by simp[xaQ];omega))
 have h2a:¬(k:Int)<1:=om;have h2b:decide ((k:Int)<1)=false:=by simp;omega
 have h5a:¬(l.length:Int)<(k:Int):=om;have h5b:decide ((l.length:Int)<(k:Int))=false:=by simp;omega
 have h5c:decide (l.length<k)=false:=by simp;omega
 have h5d:¬l.length<k:=om;have hmin:min (k:Int) (l.length:Int)=(k:Int):=om;clear h2 h4;go_enter Tryz.func113,Tryz.ntmps113
 go_wp2_with fail
 refine(Kae (⟨cap,next,false,l⟩:jac) _ _ (h.below (((lf w w).alloc om _).alloc om _)) hs).mono ?_;rintro e' u ⟨_,rfl,ho,N⟩;obtain⟨v1,rfl,U⟩:=qae ho;have HO:Hid (uad (w+2) u u v1 l):=hH (U.mono (by simp)).bd
 have a6:=U.rd.stores Tryz.prog;obtain⟨hst1a,hst1b⟩:=a6;obtain⟨fp,I,Q⟩:=U;have hlen1:=fun w2 ty=>I.len (α:=Kaa) Tryz.underlying34 w2 ty
 clear ho;have s1:w+2<=u.heap.size:=szl N;have J:=hH ((((lf w w).alloc om _).alloc om _).trans (N.mono om));have B:Hid (Bx u w [cap,next,false,v]):=hH (((Bx.new (by first|rfl|simp|omega)).alloc _).at N)
 have Kb0:=B.out.o4;have D:Hid (Bx u (w+1) [zI,zI,false,zN]):=hH ((Bx.new (by first|rfl|simp|omega)).at N)
 have Kb2:=D.out.q4;have M:=J;clear J;clear N;have rA:=I.run_hm (α:=Kaa) Tryz.underlying34 xac (hi:=k) (m:=k) (lr _) (Nat.le_trans hk I.cap);have rB:=I.run_l (α:=Kaa) Tryz.underlying34 xac (lo:=k) hk;have a0:=hH (I.parts Q.nodup hk);have HGE:=hH (Q.mono (B':=w+2) (by simp)).ge
 have HFZ:=hH Q.free;clear I Q;obtain⟨x,hx⟩:∃x,(cutV v1 (GoT.n Kaa) 0 k k)=x:=⟨_,rfl⟩;obtain⟨y,hy⟩:∃y,(cutV v1 (GoT.n Kaa) k l.length (XaA v1))=y:=⟨_,rfl⟩;rw[hx]at rA;rw[hy]at rB;have HX:=hH hx;have HY:=hH hy;clear hx hy;go_wp2_with fail
 refine(Kac (⟨cap,next,false,l⟩:jac) _ _ (h.below (M.out.alloc om _))).mono ?_;rintro e' w2 ⟨rfl,z⟩;rw[h1];have s2:u+1<=w2.heap.size:=szl z;have R2:=hH (((lf u u).alloc om _).trans (z.mono om));have J:=hH ((M.out.alloc om _).trans (z.mono om));clear M;replace HO:=hH ((HO.out.alloc _).below z);replace B:=hH ((B.out.alloc _).at z);replace Kb0:=B.out.o4;replace D:=hH ((D.out.alloc _).at z);replace Kb2:=D.out.q4;have a4:Hid (Bx w2 u [cap,next,false,v1]):=hH ((Bx.new (by first|rfl|simp|omega)).at z)
 have Kb3:=a4.out.q4;have M:=J;clear J;clear z;obtain⟨f1,f2,q1,q2,qn,qs⟩:=a0.out;rw[HX.out]at q1;rw[HY.out]at q2;obtain⟨Y,Z,ye⟩:=q2.isS;rw[show(l.drop k).length=l.length-k from by simp]at ye
 subst ye;have hne0:¬(w=u.heap.size):=om;have hne1:¬(w+1=u.heap.size):=om;have hne2:¬(u=w.heap.size):=om;have hne3:¬(u=w.heap.size+1):=om;have a1:=hH q1;have a2:=hH q2;have HQN:=hH qn;have a3:=hH qs;clear q1 q2 qn qs HO a0;go_wp2;rw[HV.out];have j:Hid (∀p∈f1++f2,w+2<=p.1/\p.1<u):=hH fun p R=>⟨by have:=HGE.out p (a3.out p R);omega,(lm.1 R).elim (Live.lt a1.out.live p) (Live.lt a2.out.live p)⟩
 have HF:Hid (Xaa (w+2) w2 (f1++f2)):=hH (Xaa.belowL (w:=u) ⟨HQN.out,fun p R=>(j.out p R).1,fun p R=>HFZ.out p (a3.out p R)⟩ R2.out fun p R=>(j.out p R).2)
 exact bodyPost_ret (v:= .tuple #[.agg #[cap,.int .i64 (next+↑k),false,.slice Y (l.length-k) Z],x,zI]) (by simp[results,Tryz.results113,go_sem,xaa, *]) rfl (ya1 (y0:=⟨cap,next+↑k,false,l.drop k⟩) (((((((a1.out.belowW R2.out).put (b:=u) (o:=3) (fun q=>by have:=j.out _ (lm.2 (.inl q));simp only at this;omega) (.slice Y (l.length-k) Z)).put (b:=u) (o:=1) (fun q=>by have:=j.out _ (lm.2 (.inl q));simp only at this;omega) (.int .i64 (next+↑k))).put (b:=w+1) (o:=0) (fun q=>by have:=j.out _ (lm.2 (.inl q));simp only at this;omega) (.int .i64 cap)).put (b:=w+1) (o:=1) (fun q=>by have:=j.out _ (lm.2 (.inl q));simp only at this;omega) (.int .i64 (next+↑k))).put (b:=w+1) (o:=2) (fun q=>by have:=j.out _ (lm.2 (.inl q));simp only at this;omega) (.bool false)).put (b:=w+1) (o:=3) (fun q=>by have:=j.out _ (lm.2 (.inl q));simp only at this;omega) (.slice Y (l.length-k) Z)) (((((((a2.out.belowW R2.out).put (b:=u) (o:=3) (fun q=>by have:=j.out _ (lm.2 (.inr q));simp only at this;omega) (.slice Y (l.length-k) Z)).put (b:=u) (o:=1) (fun q=>by have:=j.out _ (lm.2 (.inr q));simp only at this;omega) (.int .i64 (next+↑k))).put (b:=w+1) (o:=0) (fun q=>by have:=j.out _ (lm.2 (.inr q));simp only at this;omega) (.int .i64 cap)).put (b:=w+1) (o:=1) (fun q=>by have:=j.out _ (lm.2 (.inr q));simp only at this;omega) (.int .i64 (next+↑k))).put (b:=w+1) (o:=2) (fun q=>by have:=j.out _ (lm.2 (.inr q));simp only at this;omega) (.bool false)).put (b:=w+1) (o:=3) (fun q=>by have:=j.out _ (lm.2 (.inr q));simp only at this;omega) (.slice Y (l.length-k) Z)) (((((((HF.out.put ⟨u,3,none⟩ (.slice Y (l.length-k) Z)).put ⟨u,1,none⟩ (.int .i64 (next+↑k))).put ⟨w+1,0,none⟩ cap).put ⟨w+1,1,none⟩ (.int .i64 (next+↑k))).put ⟨w+1,2,none⟩ false).put ⟨w+1,3,none⟩ (.slice Y (l.length-k) Z)).mono (by omega)) ((((((M.out.setCell om _).setCell om _).setCell om _).setCell om _).setCell om _).setCell om _))
theorem ZaK (cap next:Int)(l:List Kaa)(n:Int)(v:Value)(w:World)(h:RdS w v l)(hs:szL l<=4000000)(h1:Zac (⟨cap,next,false,l⟩:jac)=true)(h2:1<=n)(h4:¬n<=(l.length:Int)):
 Calls Tryz.prog 113 #[.agg #[cap,next,false,v],n] w (Jad w (qac (⟨cap,next,false,l⟩:jac) n).1 (qac (⟨cap,next,false,l⟩:jac) n).2.1 (qac (⟨cap,next,false,l⟩:jac) n).2.2):=by
 have hl:=fun u ty=>h.len Tryz.underlying34 u ty
 have a5:=uaj h1;simp only at a5;obtain⟨nx1,nx2,_,_⟩:=a5;have hl6:=uao h1;simp only at hl6;have HV:=hH (xaw (r:=(⟨cap,next,false,l⟩:jac)) ⟨h1,h2⟩ rfl (k:=l.length) (by simp[xaQ];omega))
 have hk:l.length<=l.length:=lr _;have h2a:¬n<1:=om;have h2b:decide (n<1)=false:=by simp;omega
 have h5a:(l.length:Int)<n:=om;have h5b:decide ((l.length:Int)<n)=true:=by simp;omega
 have hmin:min n (l.length:Int)=(l.length:Int):=om;clear h2 h4;go_enter Tryz.func113,Tryz.ntmps113
 go_wp2_with fail
 refine(Kae (⟨cap,next,false,l⟩:jac) _ _ (h.below (((lf w w).alloc om _).alloc om _)) hs).mono ?_;rintro e' u ⟨_,rfl,ho,N⟩;obtain⟨v1,rfl,U⟩:=qae ho;have HO:Hid (uad (w+2) u u v1 l):=hH (U.mono (by simp)).bd
 have a6:=U.rd.stores Tryz.prog;obtain⟨hst1a,hst1b⟩:=a6;obtain⟨fp,I,Q⟩:=U;have hlen1:=fun w2 ty=>I.len (α:=Kaa) Tryz.underlying34 w2 ty
 clear ho;have s1:w+2<=u.heap.size:=szl N;have J:=hH ((((lf w w).alloc om _).alloc om _).trans (N.mono om));have B:Hid (Bx u w [cap,next,false,v]):=hH (((Bx.new (by first|rfl|simp|omega)).alloc _).at N)
 have Kb0:=B.out.o4;have D:Hid (Bx u (w+1) [zI,zI,false,zN]):=hH ((Bx.new (by first|rfl|simp|omega)).at N)
 have Kb2:=D.out.q4;have M:=J;clear J;clear N;have rA:=I.run_hm (α:=Kaa) Tryz.underlying34 xac (hi:=l.length) (m:=l.length) (lr _) (Nat.le_trans hk I.cap);have rB:=I.run_l (α:=Kaa) Tryz.underlying34 xac (lo:=l.length) hk;have a0:=hH (I.parts Q.nodup hk);have HGE:=hH (Q.mono (B':=w+2) (by simp)).ge
 have HFZ:=hH Q.free;clear I Q;obtain⟨x,hx⟩:∃x,(cutV v1 (GoT.n Kaa) 0 l.length l.length)=x:=⟨_,rfl⟩;obtain⟨y,hy⟩:∃y,(cutV v1 (GoT.n Kaa) l.length l.length (XaA v1))=y:=⟨_,rfl⟩;rw[hx]at rA;rw[hy]at rB;have HX:=hH hx;have HY:=hH hy;clear hx hy;go_wp2_with fail
 refine(Kac (⟨cap,next,false,l⟩:jac) _ _ (h.below (M.out.alloc om _))).mono ?_;rintro e' w2 ⟨rfl,z⟩;rw[h1];have s2:u+1<=w2.heap.size:=szl z;have R2:=hH (((lf u u).alloc om _).trans (z.mono om));have J:=hH ((M.out.alloc om _).trans (z.mono om));clear M;replace HO:=hH ((HO.out.alloc _).below z);replace B:=hH ((B.out.alloc _).at z);replace Kb0:=B.out.o4;replace D:=hH ((D.out.alloc _).at z);replace Kb2:=D.out.q4;have a4:Hid (Bx w2 u [cap,next,false,v1]):=hH ((Bx.new (by first|rfl|simp|omega)).at z)
 have Kb3:=a4.out.q4;have M:=J;clear J;clear z;obtain⟨f1,f2,q1,q2,qn,qs⟩:=a0.out;rw[HX.out]at q1;rw[HY.out]at q2;obtain⟨Y,Z,ye⟩:=q2.isS;rw[show(l.drop l.length).length=0 from by simp]at ye
 subst ye;have hne0:¬(w=u.heap.size):=om;have hne1:¬(w+1=u.heap.size):=om;have hne2:¬(u=w.heap.size):=om;have hne3:¬(u=w.heap.size+1):=om;have a1:=hH q1;have a2:=hH q2;have HQN:=hH qn;have a3:=hH qs;clear q1 q2 qn qs HO a0;go_wp2;rw[HV.out];have j:Hid (∀p∈f1++f2,w+2<=p.1/\p.1<u):=hH fun p R=>⟨by have:=HGE.out p (a3.out p R);omega,(lm.1 R).elim (Live.lt a1.out.live p) (Live.lt a2.out.live p)⟩
 have HF:Hid (Xaa (w+2) w2 (f1++f2)):=hH (Xaa.belowL (w:=u) ⟨HQN.out,fun p R=>(j.out p R).1,fun p R=>HFZ.out p (a3.out p R)⟩ R2.out fun p R=>(j.out p R).2)
 exact bodyPost_ret (v:= .tuple #[.agg #[cap,.int .i64 (next+↑l.length),false,.slice Y (0) Z],x,zI]) (by simp[results,Tryz.results113,go_sem,xaa, *]) rfl (ya1 (y0:=⟨cap,next+↑l.length,false,l.drop l.length⟩) (((((((a1.out.belowW R2.out).put (b:=u) (o:=3) (fun q=>by have:=j.out _ (lm.2 (.inl q));simp only at this;omega) (.slice Y (0) Z)).put (b:=u) (o:=1) (fun q=>by have:=j.out _ (lm.2 (.inl q));simp only at this;omega) (.int .i64 (next+↑l.length))).put (b:=w+1) (o:=0) (fun q=>by have:=j.out _ (lm.2 (.inl q));simp only at this;omega) (.int .i64 cap)).put (b:=w+1) (o:=1) (fun q=>by have:=j.out _ (lm.2 (.inl q));simp only at this;omega) (.int .i64 (next+↑l.length))).put (b:=w+1) (o:=2) (fun q=>by have:=j.out _ (lm.2 (.inl q));simp only at this;omega) (.bool false)).put (b:=w+1) (o:=3) (fun q=>by have:=j.out _ (lm.2 (.inl q));simp only at this;omega) (.slice Y (0) Z)) (((((((a2.out.belowW R2.out).put (b:=u) (o:=3) (fun q=>by have:=j.out _ (lm.2 (.inr q));simp only at this;omega) (.slice Y (0) Z)).put (b:=u) (o:=1) (fun q=>by have:=j.out _ (lm.2 (.inr q));simp only at this;omega) (.int .i64 (next+↑l.length))).put (b:=w+1) (o:=0) (fun q=>by have:=j.out _ (lm.2 (.inr q));simp only at this;omega) (.int .i64 cap)).put (b:=w+1) (o:=1) (fun q=>by have:=j.out _ (lm.2 (.inr q));simp only at this;omega) (.int .i64 (next+↑l.length))).put (b:=w+1) (o:=2) (fun q=>by have:=j.out _ (lm.2 (.inr q));simp only at this;omega) (.bool false)).put (b:=w+1) (o:=3) (fun q=>by have:=j.out _ (lm.2 (.inr q));simp only at this;omega) (.slice Y (0) Z)) (((((((HF.out.put ⟨u,3,none⟩ (.slice Y (0) Z)).put ⟨u,1,none⟩ (.int .i64 (next+↑l.length))).put ⟨w+1,0,none⟩ cap).put ⟨w+1,1,none⟩ (.int .i64 (next+↑l.length))).put ⟨w+1,2,none⟩ false).put ⟨w+1,3,none⟩ (.slice Y (0) Z)).mono (by omega)) ((((((M.out.setCell om _).setCell om _).setCell om _).setCell om _).setCell om _).setCell om _))
theorem XaG {J:Nat}(N:J=154\/J=113)(r:jac)(n:Int)(v:Value)(w:World)(h:RdS w v r.list)(p:szL r.list<=4000000):
 Calls Tryz.prog J #[.agg #[r.cap,r.next,r.out,v],n] w (Jad w (qac r n).1 (qac r n).2.1 (qac r n).2.2):=by
 rcases N with rfl|rfl
 have q:=hH @uaO;have u:=hH @xaM;have z:=hH @ZaN;have B:=hH @kaP;have D:=hH @QaP;rotate_left;have q:=hH @jaK;have u:=hH @uaP;have z:=hH @ZaK;have B:=hH @ZaO;have D:=hH @qaK;all_goals
  by_cases j:Zac r=true
  ·by_cases I:1<=n
   ·obtain⟨cap,next,out,l⟩:=r;cases out with
    |true=>exact q.out cap next l n v w h p j I
    |false=>
     by_cases M:n<=(l.length:Int)
     ·exact u.out cap next l n v w h p j I M
     ·exact z.out cap next l n v w h p j I M
   ·exact B.out r n v w h p j I
  ·exact D.out r n v w h p (by simpa using j)
def JaK:=@XaG 154 (.inl rfl)
def kaL:=@XaG 113 (.inr rfl)
