import Derived.Test.YtnkfdobcmfdhfaaDoorKV11

