/- The types. -/
import Derived.Test.YtjbokkoiicoahaaAtab
import Derived.Test.YtjbokkoiicoahaaAvg
namespace Go.Av
open Go Go.Proofs
set_option maxRecDepth 100000
set_option maxHeartbeats 4000000
set_option linter.unusedVariables false
set_option linter.unusedSimpArgs false
def eInt (x : Int) : List PV := [.int .i64 x]
theorem er_Int (x : Int) : eraseL (eInt x) = eInt x := rfl
theorem erR_Int (xs : List Int) : eraseR (xs.map eInt) = xs.map eInt := eraseR_map _ _ er_Int xs
theorem frR_Int (xs : List Int) : freshR (xs.map eInt) = True := fresh_map _ (fun x => by simp only [eInt, freshL, fresh, and_self]) xs
def eU8 (x : Int) : List PV := [.int .u8 x]
theorem er_U8 (x : Int) : eraseL (eU8 x) = eU8 x := rfl
theorem erR_U8 (xs : List Int) : eraseR (xs.map eU8) = xs.map eU8 := eraseR_map _ _ er_U8 xs
theorem frR_U8 (xs : List Int) : freshR (xs.map eU8) = True := fresh_map _ (fun x => by simp only [eU8, freshL, fresh, and_self]) xs
def eU32 (x : Int) : List PV := [.int .u32 x]
theorem er_U32 (x : Int) : eraseL (eU32 x) = eU32 x := rfl
theorem erR_U32 (xs : List Int) : eraseR (xs.map eU32) = xs.map eU32 := eraseR_map _ _ er_U32 xs
theorem frR_U32 (xs : List Int) : freshR (xs.map eU32) = True := fresh_map _ (fun x => by simp only [eU32, freshL, fresh, and_self]) xs
def eBool (x : Bool) : List PV := [.bool x]
theorem er_Bool (x : Bool) : eraseL (eBool x) = eBool x := rfl
theorem erR_Bool (xs : List Bool) : eraseR (xs.map eBool) = xs.map eBool := eraseR_map _ _ er_Bool xs
theorem frR_Bool (xs : List Bool) : freshR (xs.map eBool) = True := fresh_map _ (fun x => by simp only [eBool, freshL, fresh, and_self]) xs
def eString (x : ByteArray) : List PV := [.str x]
theorem er_String (x : ByteArray) : eraseL (eString x) = eString x := rfl
theorem erR_String (xs : List ByteArray) : eraseR (xs.map eString) = xs.map eString := eraseR_map _ _ er_String xs
theorem frR_String (xs : List ByteArray) : freshR (xs.map eString) = True := fresh_map _ (fun x => by simp only [eString, freshL, fresh, and_self]) xs
structure GMail where
 Uid : Int
 Flags : Int
 Text : ByteArray
def eMail (x : GMail) : List PV := [.int .i64 x.Uid, .int .i64 x.Flags, .str x.Text]
def eoMail (x : GMail) : List PV := [.int .i64 x.Uid, .int .i64 x.Flags, .str x.Text]
theorem er_Mail (x : GMail) : eraseL (eoMail x) = eMail x := by
 simp only [eoMail, eMail, eraseL, erase]
theorem erR_Mail (xs : List GMail) : eraseR (xs.map eoMail) = xs.map eMail := eraseR_map _ _ er_Mail xs
theorem frR_Mail (xs : List GMail) : freshR (xs.map eoMail) = True := fresh_map _ (fun x => by simp only [eoMail, freshL, fresh, and_self]) xs
structure GBox where
 Valid : Int
 User : ByteArray
 Name : ByteArray
 Next : Int
 Mails : List GMail
def eBox (x : GBox) : List PV := [.int .i64 x.Valid, .str x.User, .str x.Name, .int .i64 x.Next, .sl 3 (x.Mails.map eMail)]
def eoBox (x : GBox) : List PV := [.int .i64 x.Valid, .str x.User, .str x.Name, .int .i64 x.Next, .ow 3 (x.Mails.map eoMail)]
theorem er_Box (x : GBox) : eraseL (eoBox x) = eBox x := by
 simp only [eoBox, eBox, eraseL, erase, erR_Mail]
theorem erR_Box (xs : List GBox) : eraseR (xs.map eoBox) = xs.map eBox := eraseR_map _ _ er_Box xs
theorem frR_Box (xs : List GBox) : freshR (xs.map eoBox) = True := fresh_map _ (fun x => by simp only [eoBox, freshL, fresh, and_self, frR_Mail]) xs
structure GBring where
 State : Int
 From : ByteArray
 To : List ByteArray
 Data : List ByteArray
def eBring (x : GBring) : List PV := [.int .i64 x.State, .str x.From, .sl 1 (x.To.map eString), .sl 1 (x.Data.map eString)]
def eoBring (x : GBring) : List PV := [.int .i64 x.State, .str x.From, .ow 1 (x.To.map eString), .ow 1 (x.Data.map eString)]
theorem er_Bring (x : GBring) : eraseL (eoBring x) = eBring x := by
 simp only [eoBring, eBring, eraseL, erase, erR_String]
theorem erR_Bring (xs : List GBring) : eraseR (xs.map eoBring) = xs.map eBring := eraseR_map _ _ er_Bring xs
theorem frR_Bring (xs : List GBring) : freshR (xs.map eoBring) = True := fresh_map _ (fun x => by simp only [eoBring, freshL, fresh, and_self, frR_String]) xs
structure GCall where
 Kind : Int
 User : ByteArray
 Box : ByteArray
 To : ByteArray
 Uid : Int
 Uids : List Int
 Flags : Int
 Text : ByteArray
def eCall (x : GCall) : List PV := [.int .i64 x.Kind, .str x.User, .str x.Box, .str x.To, .int .i64 x.Uid, .sl 1 (x.Uids.map eInt), .int .i64 x.Flags, .str x.Text]
def eoCall (x : GCall) : List PV := [.int .i64 x.Kind, .str x.User, .str x.Box, .str x.To, .int .i64 x.Uid, .ow 1 (x.Uids.map eInt), .int .i64 x.Flags, .str x.Text]
theorem er_Call (x : GCall) : eraseL (eoCall x) = eCall x := by
 simp only [eoCall, eCall, eraseL, erase, erR_Int]
theorem erR_Call (xs : List GCall) : eraseR (xs.map eoCall) = xs.map eCall := eraseR_map _ _ er_Call xs
theorem frR_Call (xs : List GCall) : freshR (xs.map eoCall) = True := fresh_map _ (fun x => by simp only [eoCall, freshL, fresh, and_self, frR_Int]) xs
structure GState where
 Boxes : List GBox
def eState (x : GState) : List PV := [.sl 5 (x.Boxes.map eBox)]
def eoState (x : GState) : List PV := [.ow 5 (x.Boxes.map eoBox)]
theorem er_State (x : GState) : eraseL (eoState x) = eState x := by
 simp only [eoState, eState, eraseL, erase, erR_Box]
theorem erR_State (xs : List GState) : eraseR (xs.map eoState) = xs.map eState := eraseR_map _ _ er_State xs
theorem frR_State (xs : List GState) : freshR (xs.map eoState) = True := fresh_map _ (fun x => by simp only [eoState, freshL, fresh, and_self, frR_Box]) xs
structure GCut where
 Before : GState
 After : GState
 Risen : GState
 Ok : Bool
 Clash : Bool
def eCut (x : GCut) : List PV := [.sl 5 (x.Before.Boxes.map eBox), .sl 5 (x.After.Boxes.map eBox), .sl 5 (x.Risen.Boxes.map eBox), .bool x.Ok, .bool x.Clash]
def eoCut (x : GCut) : List PV := [.ow 5 (x.Before.Boxes.map eoBox), .ow 5 (x.After.Boxes.map eoBox), .ow 5 (x.Risen.Boxes.map eoBox), .bool x.Ok, .bool x.Clash]
theorem er_Cut (x : GCut) : eraseL (eoCut x) = eCut x := by
 simp only [eoCut, eCut, eraseL, erase, erR_Box]
theorem erR_Cut (xs : List GCut) : eraseR (xs.map eoCut) = xs.map eCut := eraseR_map _ _ er_Cut xs
theorem frR_Cut (xs : List GCut) : freshR (xs.map eoCut) = True := fresh_map _ (fun x => by simp only [eoCut, freshL, fresh, and_self, frR_Box]) xs
structure GWrite where
 At : Int
 Text : ByteArray
def eWrite (x : GWrite) : List PV := [.int .i64 x.At, .str x.Text]
def eoWrite (x : GWrite) : List PV := [.int .i64 x.At, .str x.Text]
theorem er_Write (x : GWrite) : eraseL (eoWrite x) = eWrite x := by
 simp only [eoWrite, eWrite, eraseL, erase]
theorem erR_Write (xs : List GWrite) : eraseR (xs.map eoWrite) = xs.map eWrite := eraseR_map _ _ er_Write xs
theorem frR_Write (xs : List GWrite) : freshR (xs.map eoWrite) = True := fresh_map _ (fun x => by simp only [eoWrite, freshL, fresh, and_self]) xs
structure GDisk where
 Sectors : List ByteArray
 Cache : List GWrite
def eDisk (x : GDisk) : List PV := [.sl 1 (x.Sectors.map eString), .sl 2 (x.Cache.map eWrite)]
def eoDisk (x : GDisk) : List PV := [.ow 1 (x.Sectors.map eString), .ow 2 (x.Cache.map eoWrite)]
theorem er_Disk (x : GDisk) : eraseL (eoDisk x) = eDisk x := by
 simp only [eoDisk, eDisk, eraseL, erase, erR_String, erR_Write]
theorem erR_Disk (xs : List GDisk) : eraseR (xs.map eoDisk) = xs.map eDisk := eraseR_map _ _ er_Disk xs
theorem frR_Disk (xs : List GDisk) : freshR (xs.map eoDisk) = True := fresh_map _ (fun x => by simp only [eoDisk, freshL, fresh, and_self, frR_String, frR_Write]) xs
structure GEvent where
 Kind : Int
 At : Int
 Text : ByteArray
 Keep : List Int
def eEvent (x : GEvent) : List PV := [.int .i64 x.Kind, .int .i64 x.At, .str x.Text, .sl 1 (x.Keep.map eInt)]
def eoEvent (x : GEvent) : List PV := [.int .i64 x.Kind, .int .i64 x.At, .str x.Text, .ow 1 (x.Keep.map eInt)]
theorem er_Event (x : GEvent) : eraseL (eoEvent x) = eEvent x := by
 simp only [eoEvent, eEvent, eraseL, erase, erR_Int]
theorem erR_Event (xs : List GEvent) : eraseR (xs.map eoEvent) = xs.map eEvent := eraseR_map _ _ er_Event xs
theorem frR_Event (xs : List GEvent) : freshR (xs.map eoEvent) = True := fresh_map _ (fun x => by simp only [eoEvent, freshL, fresh, and_self, frR_Int]) xs
structure GFetch where
 State : Int
 User : ByteArray
 Mails : List GMail
 Gone : List Bool
def eFetch (x : GFetch) : List PV := [.int .i64 x.State, .str x.User, .sl 3 (x.Mails.map eMail), .sl 1 (x.Gone.map eBool)]
def eoFetch (x : GFetch) : List PV := [.int .i64 x.State, .str x.User, .ow 3 (x.Mails.map eoMail), .ow 1 (x.Gone.map eBool)]
theorem er_Fetch (x : GFetch) : eraseL (eoFetch x) = eFetch x := by
 simp only [eoFetch, eFetch, eraseL, erase, erR_Bool, erR_Mail]
theorem erR_Fetch (xs : List GFetch) : eraseR (xs.map eoFetch) = xs.map eFetch := eraseR_map _ _ er_Fetch xs
theorem frR_Fetch (xs : List GFetch) : freshR (xs.map eoFetch) = True := fresh_map _ (fun x => by simp only [eoFetch, freshL, fresh, and_self, frR_Bool, frR_Mail]) xs
structure GRec where
 Kind : Int
 Valid : Int
 Uid : Int
 Next : Int
 Flags : Int
 User : ByteArray
 Name : ByteArray
 Text : ByteArray
def eRec (x : GRec) : List PV := [.int .i64 x.Kind, .int .i64 x.Valid, .int .i64 x.Uid, .int .i64 x.Next, .int .i64 x.Flags, .str x.User, .str x.Name, .str x.Text]
def eoRec (x : GRec) : List PV := [.int .i64 x.Kind, .int .i64 x.Valid, .int .i64 x.Uid, .int .i64 x.Next, .int .i64 x.Flags, .str x.User, .str x.Name, .str x.Text]
theorem er_Rec (x : GRec) : eraseL (eoRec x) = eRec x := by
 simp only [eoRec, eRec, eraseL, erase]
theorem erR_Rec (xs : List GRec) : eraseR (xs.map eoRec) = xs.map eRec := eraseR_map _ _ er_Rec xs
theorem frR_Rec (xs : List GRec) : freshR (xs.map eoRec) = True := fresh_map _ (fun x => by simp only [eoRec, freshL, fresh, and_self]) xs
structure GItem where
 Seq : Int
 Rec : GRec
def eItem (x : GItem) : List PV := [.int .i64 x.Seq, .int .i64 x.Rec.Kind, .int .i64 x.Rec.Valid, .int .i64 x.Rec.Uid, .int .i64 x.Rec.Next, .int .i64 x.Rec.Flags, .str x.Rec.User, .str x.Rec.Name, .str x.Rec.Text]
def eoItem (x : GItem) : List PV := [.int .i64 x.Seq, .int .i64 x.Rec.Kind, .int .i64 x.Rec.Valid, .int .i64 x.Rec.Uid, .int .i64 x.Rec.Next, .int .i64 x.Rec.Flags, .str x.Rec.User, .str x.Rec.Name, .str x.Rec.Text]
theorem er_Item (x : GItem) : eraseL (eoItem x) = eItem x := by
 simp only [eoItem, eItem, eraseL, erase]
theorem erR_Item (xs : List GItem) : eraseR (xs.map eoItem) = xs.map eItem := eraseR_map _ _ er_Item xs
theorem frR_Item (xs : List GItem) : freshR (xs.map eoItem) = True := fresh_map _ (fun x => by simp only [eoItem, freshL, fresh, and_self]) xs
structure GSeg where
 No : Int
 Gen : Int
 End : Int
 Items : List GItem
def eSeg (x : GSeg) : List PV := [.int .i64 x.No, .int .i64 x.Gen, .int .i64 x.End, .sl 9 (x.Items.map eItem)]
def eoSeg (x : GSeg) : List PV := [.int .i64 x.No, .int .i64 x.Gen, .int .i64 x.End, .ow 9 (x.Items.map eoItem)]
theorem er_Seg (x : GSeg) : eraseL (eoSeg x) = eSeg x := by
 simp only [eoSeg, eSeg, eraseL, erase, erR_Item]
theorem erR_Seg (xs : List GSeg) : eraseR (xs.map eoSeg) = xs.map eSeg := eraseR_map _ _ er_Seg xs
theorem frR_Seg (xs : List GSeg) : freshR (xs.map eoSeg) = True := fresh_map _ (fun x => by simp only [eoSeg, freshL, fresh, and_self, frR_Item]) xs
structure GLog where
 Disk : GDisk
 Segs : Int
 Used : List GSeg
 NextGen : Int
 NextSeq : Int
 Stamp : Int
 NextValid : Int
def eLog (x : GLog) : List PV := [.sl 1 (x.Disk.Sectors.map eString), .sl 2 (x.Disk.Cache.map eWrite), .int .i64 x.Segs, .sl 4 (x.Used.map eSeg), .int .i64 x.NextGen, .int .i64 x.NextSeq, .int .i64 x.Stamp, .int .i64 x.NextValid]
def eoLog (x : GLog) : List PV := [.ow 1 (x.Disk.Sectors.map eString), .ow 2 (x.Disk.Cache.map eoWrite), .int .i64 x.Segs, .ow 4 (x.Used.map eoSeg), .int .i64 x.NextGen, .int .i64 x.NextSeq, .int .i64 x.Stamp, .int .i64 x.NextValid]
theorem er_Log (x : GLog) : eraseL (eoLog x) = eLog x := by
 simp only [eoLog, eLog, eraseL, erase, erR_Seg, erR_String, erR_Write]
theorem erR_Log (xs : List GLog) : eraseR (xs.map eoLog) = xs.map eLog := eraseR_map _ _ er_Log xs
theorem frR_Log (xs : List GLog) : freshR (xs.map eoLog) = True := fresh_map _ (fun x => by simp only [eoLog, freshL, fresh, and_self, frR_Seg, frR_String, frR_Write]) xs
structure GLook where
 State : Int
 User : ByteArray
 Box : ByteArray
 Valid : Int
 Uids : List Int
def eLook (x : GLook) : List PV := [.int .i64 x.State, .str x.User, .str x.Box, .int .i64 x.Valid, .sl 1 (x.Uids.map eInt)]
def eoLook (x : GLook) : List PV := [.int .i64 x.State, .str x.User, .str x.Box, .int .i64 x.Valid, .ow 1 (x.Uids.map eInt)]
theorem er_Look (x : GLook) : eraseL (eoLook x) = eLook x := by
 simp only [eoLook, eLook, eraseL, erase, erR_Int]
theorem erR_Look (xs : List GLook) : eraseR (xs.map eoLook) = xs.map eLook := eraseR_map _ _ er_Look xs
theorem frR_Look (xs : List GLook) : freshR (xs.map eoLook) = True := fresh_map _ (fun x => by simp only [eoLook, freshL, fresh, and_self, frR_Int]) xs
structure GSession where
 Kind : Int
 In : ByteArray
 Out : ByteArray
 Over : Bool
 Bring : GBring
 Fetch : GFetch
 Look : GLook
def eSession (x : GSession) : List PV := [.int .i64 x.Kind, .str x.In, .str x.Out, .bool x.Over, .int .i64 x.Bring.State, .str x.Bring.From, .sl 1 (x.Bring.To.map eString), .sl 1 (x.Bring.Data.map eString), .int .i64 x.Fetch.State, .str x.Fetch.User, .sl 3 (x.Fetch.Mails.map eMail), .sl 1 (x.Fetch.Gone.map eBool), .int .i64 x.Look.State, .str x.Look.User, .str x.Look.Box, .int .i64 x.Look.Valid, .sl 1 (x.Look.Uids.map eInt)]
def eoSession (x : GSession) : List PV := [.int .i64 x.Kind, .str x.In, .str x.Out, .bool x.Over, .int .i64 x.Bring.State, .str x.Bring.From, .ow 1 (x.Bring.To.map eString), .ow 1 (x.Bring.Data.map eString), .int .i64 x.Fetch.State, .str x.Fetch.User, .ow 3 (x.Fetch.Mails.map eoMail), .ow 1 (x.Fetch.Gone.map eBool), .int .i64 x.Look.State, .str x.Look.User, .str x.Look.Box, .int .i64 x.Look.Valid, .ow 1 (x.Look.Uids.map eInt)]
theorem er_Session (x : GSession) : eraseL (eoSession x) = eSession x := by
 simp only [eoSession, eSession, eraseL, erase, erR_Bool, erR_Int, erR_Mail, erR_String]
theorem erR_Session (xs : List GSession) : eraseR (xs.map eoSession) = xs.map eSession := eraseR_map _ _ er_Session xs
theorem frR_Session (xs : List GSession) : freshR (xs.map eoSession) = True := fresh_map _ (fun x => by simp only [eoSession, freshL, fresh, and_self, frR_Bool, frR_Int, frR_Mail, frR_String]) xs
structure GPlain where
 State : GState
 NextValid : Int
 Sessions : List GSession
def ePlain (x : GPlain) : List PV := [.sl 5 (x.State.Boxes.map eBox), .int .i64 x.NextValid, .sl 17 (x.Sessions.map eSession)]
def eoPlain (x : GPlain) : List PV := [.ow 5 (x.State.Boxes.map eoBox), .int .i64 x.NextValid, .ow 17 (x.Sessions.map eoSession)]
theorem er_Plain (x : GPlain) : eraseL (eoPlain x) = ePlain x := by
 simp only [eoPlain, ePlain, eraseL, erase, erR_Box, erR_Session]
theorem erR_Plain (xs : List GPlain) : eraseR (xs.map eoPlain) = xs.map ePlain := eraseR_map _ _ er_Plain xs
theorem frR_Plain (xs : List GPlain) : freshR (xs.map eoPlain) = True := fresh_map _ (fun x => by simp only [eoPlain, freshL, fresh, and_self, frR_Box, frR_Session]) xs
structure GStore where
 Log : GLog
 Freed : List Int
def eStore (x : GStore) : List PV := [.sl 1 (x.Log.Disk.Sectors.map eString), .sl 2 (x.Log.Disk.Cache.map eWrite), .int .i64 x.Log.Segs, .sl 4 (x.Log.Used.map eSeg), .int .i64 x.Log.NextGen, .int .i64 x.Log.NextSeq, .int .i64 x.Log.Stamp, .int .i64 x.Log.NextValid, .sl 1 (x.Freed.map eInt)]
def eoStore (x : GStore) : List PV := [.ow 1 (x.Log.Disk.Sectors.map eString), .ow 2 (x.Log.Disk.Cache.map eoWrite), .int .i64 x.Log.Segs, .ow 4 (x.Log.Used.map eoSeg), .int .i64 x.Log.NextGen, .int .i64 x.Log.NextSeq, .int .i64 x.Log.Stamp, .int .i64 x.Log.NextValid, .ow 1 (x.Freed.map eInt)]
theorem er_Store (x : GStore) : eraseL (eoStore x) = eStore x := by
 simp only [eoStore, eStore, eraseL, erase, erR_Int, erR_Seg, erR_String, erR_Write]
theorem erR_Store (xs : List GStore) : eraseR (xs.map eoStore) = xs.map eStore := eraseR_map _ _ er_Store xs
theorem frR_Store (xs : List GStore) : freshR (xs.map eoStore) = True := fresh_map _ (fun x => by simp only [eoStore, freshL, fresh, and_self, frR_Int, frR_Seg, frR_String, frR_Write]) xs
structure GServer where
 Store : GStore
 Sessions : List GSession
def eServer (x : GServer) : List PV := [.sl 1 (x.Store.Log.Disk.Sectors.map eString), .sl 2 (x.Store.Log.Disk.Cache.map eWrite), .int .i64 x.Store.Log.Segs, .sl 4 (x.Store.Log.Used.map eSeg), .int .i64 x.Store.Log.NextGen, .int .i64 x.Store.Log.NextSeq, .int .i64 x.Store.Log.Stamp, .int .i64 x.Store.Log.NextValid, .sl 1 (x.Store.Freed.map eInt), .sl 17 (x.Sessions.map eSession)]
def eoServer (x : GServer) : List PV := [.ow 1 (x.Store.Log.Disk.Sectors.map eString), .ow 2 (x.Store.Log.Disk.Cache.map eoWrite), .int .i64 x.Store.Log.Segs, .ow 4 (x.Store.Log.Used.map eoSeg), .int .i64 x.Store.Log.NextGen, .int .i64 x.Store.Log.NextSeq, .int .i64 x.Store.Log.Stamp, .int .i64 x.Store.Log.NextValid, .ow 1 (x.Store.Freed.map eInt), .ow 17 (x.Sessions.map eoSession)]
theorem er_Server (x : GServer) : eraseL (eoServer x) = eServer x := by
 simp only [eoServer, eServer, eraseL, erase, erR_Int, erR_Seg, erR_Session, erR_String, erR_Write]
theorem erR_Server (xs : List GServer) : eraseR (xs.map eoServer) = xs.map eServer := eraseR_map _ _ er_Server xs
theorem frR_Server (xs : List GServer) : freshR (xs.map eoServer) = True := fresh_map _ (fun x => by simp only [eoServer, freshL, fresh, and_self, frR_Int, frR_Seg, frR_Session, frR_String, frR_Write]) xs
structure GWorld where
 Server : GServer
 Codes : List Int
def eWorld (x : GWorld) : List PV := [.sl 1 (x.Server.Store.Log.Disk.Sectors.map eString), .sl 2 (x.Server.Store.Log.Disk.Cache.map eWrite), .int .i64 x.Server.Store.Log.Segs, .sl 4 (x.Server.Store.Log.Used.map eSeg), .int .i64 x.Server.Store.Log.NextGen, .int .i64 x.Server.Store.Log.NextSeq, .int .i64 x.Server.Store.Log.Stamp, .int .i64 x.Server.Store.Log.NextValid, .sl 1 (x.Server.Store.Freed.map eInt), .sl 17 (x.Server.Sessions.map eSession), .sl 1 (x.Codes.map eInt)]
def eoWorld (x : GWorld) : List PV := [.ow 1 (x.Server.Store.Log.Disk.Sectors.map eString), .ow 2 (x.Server.Store.Log.Disk.Cache.map eoWrite), .int .i64 x.Server.Store.Log.Segs, .ow 4 (x.Server.Store.Log.Used.map eoSeg), .int .i64 x.Server.Store.Log.NextGen, .int .i64 x.Server.Store.Log.NextSeq, .int .i64 x.Server.Store.Log.Stamp, .int .i64 x.Server.Store.Log.NextValid, .ow 1 (x.Server.Store.Freed.map eInt), .ow 17 (x.Server.Sessions.map eoSession), .ow 1 (x.Codes.map eInt)]
theorem er_World (x : GWorld) : eraseL (eoWorld x) = eWorld x := by
 simp only [eoWorld, eWorld, eraseL, erase, erR_Int, erR_Seg, erR_Session, erR_String, erR_Write]
theorem erR_World (xs : List GWorld) : eraseR (xs.map eoWorld) = xs.map eWorld := eraseR_map _ _ er_World xs
theorem frR_World (xs : List GWorld) : freshR (xs.map eoWorld) = True := fresh_map _ (fun x => by simp only [eoWorld, freshL, fresh, and_self, frR_Int, frR_Seg, frR_Session, frR_String, frR_Write]) xs
def zsIntS (xs : List Int) : List Nat := [xs.length]
def zsBoolS (xs : List Bool) : List Nat := [xs.length]
def zsString (x : ByteArray) : List Nat := [x.size]
def zsStringS (xs : List ByteArray) : List Nat := xs.length :: xs.flatMap zsString
def zsMail (x : GMail) : List Nat := [x.Text.size] ++ ([])
def zsMailS (xs : List GMail) : List Nat := xs.length :: xs.flatMap zsMail
def zsBox (x : GBox) : List Nat := [x.User.size] ++ ([x.Name.size] ++ (zsMailS x.Mails ++ ([])))
def zsBoxS (xs : List GBox) : List Nat := xs.length :: xs.flatMap zsBox
def zsBring (x : GBring) : List Nat := [x.From.size] ++ (zsStringS x.To ++ (zsStringS x.Data ++ ([])))
def zsBringS (xs : List GBring) : List Nat := xs.length :: xs.flatMap zsBring
def zsCall (x : GCall) : List Nat := [x.User.size] ++ ([x.Box.size] ++ ([x.To.size] ++ (zsIntS x.Uids ++ ([x.Text.size] ++ ([])))))
def zsCallS (xs : List GCall) : List Nat := xs.length :: xs.flatMap zsCall
def zsState (x : GState) : List Nat := zsBoxS x.Boxes ++ ([])
def zsStateS (xs : List GState) : List Nat := xs.length :: xs.flatMap zsState
def zsCut (x : GCut) : List Nat := zsState x.Before ++ (zsState x.After ++ (zsState x.Risen ++ ([])))
def zsCutS (xs : List GCut) : List Nat := xs.length :: xs.flatMap zsCut
def zsWrite (x : GWrite) : List Nat := [x.Text.size] ++ ([])
def zsWriteS (xs : List GWrite) : List Nat := xs.length :: xs.flatMap zsWrite
def zsDisk (x : GDisk) : List Nat := zsStringS x.Sectors ++ (zsWriteS x.Cache ++ ([]))
def zsDiskS (xs : List GDisk) : List Nat := xs.length :: xs.flatMap zsDisk
def zsEvent (x : GEvent) : List Nat := [x.Text.size] ++ (zsIntS x.Keep ++ ([]))
def zsEventS (xs : List GEvent) : List Nat := xs.length :: xs.flatMap zsEvent
def zsFetch (x : GFetch) : List Nat := [x.User.size] ++ (zsMailS x.Mails ++ (zsBoolS x.Gone ++ ([])))
def zsFetchS (xs : List GFetch) : List Nat := xs.length :: xs.flatMap zsFetch
def zsRec (x : GRec) : List Nat := [x.User.size] ++ ([x.Name.size] ++ ([x.Text.size] ++ ([])))
def zsRecS (xs : List GRec) : List Nat := xs.length :: xs.flatMap zsRec
def zsItem (x : GItem) : List Nat := zsRec x.Rec ++ ([])
def zsItemS (xs : List GItem) : List Nat := xs.length :: xs.flatMap zsItem
def zsSeg (x : GSeg) : List Nat := zsItemS x.Items ++ ([])
def zsSegS (xs : List GSeg) : List Nat := xs.length :: xs.flatMap zsSeg
def zsLog (x : GLog) : List Nat := zsDisk x.Disk ++ (zsSegS x.Used ++ ([]))
def zsLogS (xs : List GLog) : List Nat := xs.length :: xs.flatMap zsLog
def zsLook (x : GLook) : List Nat := [x.User.size] ++ ([x.Box.size] ++ (zsIntS x.Uids ++ ([])))
def zsLookS (xs : List GLook) : List Nat := xs.length :: xs.flatMap zsLook
def zsSession (x : GSession) : List Nat := [x.In.size] ++ ([x.Out.size] ++ (zsBring x.Bring ++ (zsFetch x.Fetch ++ (zsLook x.Look ++ ([])))))
def zsSessionS (xs : List GSession) : List Nat := xs.length :: xs.flatMap zsSession
def zsPlain (x : GPlain) : List Nat := zsState x.State ++ (zsSessionS x.Sessions ++ ([]))
def zsPlainS (xs : List GPlain) : List Nat := xs.length :: xs.flatMap zsPlain
def zsStore (x : GStore) : List Nat := zsLog x.Log ++ (zsIntS x.Freed ++ ([]))
def zsStoreS (xs : List GStore) : List Nat := xs.length :: xs.flatMap zsStore
def zsServer (x : GServer) : List Nat := zsStore x.Store ++ (zsSessionS x.Sessions ++ ([]))
def zsServerS (xs : List GServer) : List Nat := xs.length :: xs.flatMap zsServer
def zsWorld (x : GWorld) : List Nat := zsServer x.Server ++ (zsIntS x.Codes ++ ([]))
def zsWorldS (xs : List GWorld) : List Nat := xs.length :: xs.flatMap zsWorld
end Go.Av
